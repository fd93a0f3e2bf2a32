/- The first fault of an expression: the program. -/
import Derived.Test.YtdacpljinffnaaaDoorPYu

