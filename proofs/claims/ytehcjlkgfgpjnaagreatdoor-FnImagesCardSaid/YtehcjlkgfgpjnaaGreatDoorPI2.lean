/- The image of a value that stands for nothing else: the reference. -/
import Derived.Test.YtehcjlkgfgpjnaaGreatDoorPQc
import Derived.Test.YtehcjlkgfgpjnaaGreatDoorPR1
import Derived.Deep.RegionHeld3

