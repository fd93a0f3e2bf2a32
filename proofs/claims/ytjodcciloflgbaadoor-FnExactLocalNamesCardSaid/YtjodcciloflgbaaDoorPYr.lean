/- What a name means in a procedure: plain. -/
import Derived.Test.YtjodcciloflgbaaDoorPYf
import Derived.Test.YtjodcciloflgbaaDoorPY6

