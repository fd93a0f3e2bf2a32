/- Well-formed values: impl. -/
import Derived.Test.YtoikhhnmbbbjjaaDoorPr
import Derived.Test.YtoikhhnmbbbjjaaDoorPA7
namespace Go.Proofs.YtoikhhnmbbbjjaaDoor
set_option linter.unusedVariables false
set_option linter.unusedSimpArgs false
set_option maxRecDepth 100000
open Go.RowKit
set_option maxHeartbeats 2000000 in
theorem implIsWellFormed_0 (n i:Int) (t:ByteArray) (lo hi:Int) (w:World) (ht:t.size≤maxLen) :
  Calls Tryd.prog 59 #[(VVal.mk 0 n i t lo hi).val] w fun e w'=>e=.returned (.bool (wellB ⟨0,n,i,t,lo,hi⟩))∧Bel w w':=by
 exact rk10
set_option maxHeartbeats 2000000 in
theorem implIsWellFormed_1 (n i:Int) (t:ByteArray) (lo hi:Int) (w:World) (ht:t.size≤maxLen) :
  Calls Tryd.prog 59 #[(VVal.mk 1 n i t lo hi).val] w fun e w'=>e=.returned (.bool (wellB ⟨1,n,i,t,lo,hi⟩))∧Bel w w':=by
 exact rk10
set_option maxHeartbeats 2000000 in
theorem implIsWellFormed_2 (n i:Int) (t:ByteArray) (lo hi:Int) (w:World) (ht:t.size≤maxLen) :
  Calls Tryd.prog 59 #[(VVal.mk 2 n i t lo hi).val] w fun e w'=>e=.returned (.bool (wellB ⟨2,n,i,t,lo,hi⟩))∧Bel w w':=by
 exact rk10
set_option maxHeartbeats 2000000 in
theorem implIsWellFormed_3 (n i:Int) (t:ByteArray) (lo hi:Int) (w:World) (ht:t.size≤maxLen) :
  Calls Tryd.prog 59 #[(VVal.mk 3 n i t lo hi).val] w fun e w'=>e=.returned (.bool (wellB ⟨3,n,i,t,lo,hi⟩))∧Bel w w':=by
 exact rk10
set_option maxHeartbeats 2000000 in
theorem implIsWellFormed_4 (n i:Int) (t:ByteArray) (lo hi:Int) (w:World) (ht:t.size≤maxLen) :
  Calls Tryd.prog 59 #[(VVal.mk 4 n i t lo hi).val] w fun e w'=>e=.returned (.bool (wellB ⟨4,n,i,t,lo,hi⟩))∧Bel w w':=by
 exact rk10
set_option maxHeartbeats 2000000 in
theorem implIsWellFormed_5 (n i:Int) (t:ByteArray) (lo hi:Int) (w:World) (ht:t.size≤maxLen) :
  Calls Tryd.prog 59 #[(VVal.mk 5 n i t lo hi).val] w fun e w'=>e=.returned (.bool (wellB ⟨5,n,i,t,lo,hi⟩))∧Bel w w':=by
 exact rk10
set_option maxHeartbeats 2000000 in
theorem implIsWellFormed_6 (n i:Int) (t:ByteArray) (lo hi:Int) (w:World) (ht:t.size≤maxLen) :
  Calls Tryd.prog 59 #[(VVal.mk 6 n i t lo hi).val] w fun e w'=>e=.returned (.bool (wellB ⟨6,n,i,t,lo,hi⟩))∧Bel w w':=by
 exact rk10
set_option maxHeartbeats 2000000 in
theorem implIsWellFormed_7 (n i:Int) (t:ByteArray) (lo hi:Int) (w:World) (ht:t.size≤maxLen) :
  Calls Tryd.prog 59 #[(VVal.mk 7 n i t lo hi).val] w fun e w'=>e=.returned (.bool (wellB ⟨7,n,i,t,lo,hi⟩))∧Bel w w':=by
 exact rk10
set_option maxHeartbeats 2000000 in
theorem implIsWellFormed_8 (n i:Int) (t:ByteArray) (lo hi:Int) (w:World) (ht:t.size≤maxLen) :
  Calls Tryd.prog 59 #[(VVal.mk 8 n i t lo hi).val] w fun e w'=>e=.returned (.bool (wellB ⟨8,n,i,t,lo,hi⟩))∧Bel w w':=by
 exact rk10
set_option maxHeartbeats 2000000 in
theorem implIsWellFormed_9 (n i:Int) (t:ByteArray) (lo hi:Int) (w:World) (ht:t.size≤maxLen) :
  Calls Tryd.prog 59 #[(VVal.mk 9 n i t lo hi).val] w fun e w'=>e=.returned (.bool (wellB ⟨9,n,i,t,lo,hi⟩))∧Bel w w':=by
 exact rk10
set_option maxHeartbeats 2000000 in
theorem implIsWellFormed_10 (n i:Int) (t:ByteArray) (lo hi:Int) (w:World) (ht:t.size≤maxLen) :
  Calls Tryd.prog 59 #[(VVal.mk 10 n i t lo hi).val] w fun e w'=>e=.returned (.bool (wellB ⟨10,n,i,t,lo,hi⟩))∧Bel w w':=by
 exact rk10
set_option maxHeartbeats 2000000 in
theorem implIsWellFormed_11 (n i:Int) (t:ByteArray) (lo hi:Int) (w:World) (ht:t.size≤maxLen) :
  Calls Tryd.prog 59 #[(VVal.mk 11 n i t lo hi).val] w fun e w'=>e=.returned (.bool (wellB ⟨11,n,i,t,lo,hi⟩))∧Bel w w':=by
 exact rk10
set_option maxHeartbeats 2000000 in
theorem implIsWellFormed_12 (n i:Int) (t:ByteArray) (lo hi:Int) (w:World) (ht:t.size≤maxLen) :
  Calls Tryd.prog 59 #[(VVal.mk 12 n i t lo hi).val] w fun e w'=>e=.returned (.bool (wellB ⟨12,n,i,t,lo,hi⟩))∧Bel w w':=by
 exact rk10
set_option maxHeartbeats 2000000 in
theorem implIsWellFormed_13 (n i:Int) (t:ByteArray) (lo hi:Int) (w:World) (ht:t.size≤maxLen) :
  Calls Tryd.prog 59 #[(VVal.mk 13 n i t lo hi).val] w fun e w'=>e=.returned (.bool (wellB ⟨13,n,i,t,lo,hi⟩))∧Bel w w':=by
 exact rk10
set_option maxHeartbeats 2000000 in
theorem implIsWellFormed_14 (n i:Int) (t:ByteArray) (lo hi:Int) (w:World) (ht:t.size≤maxLen) :
  Calls Tryd.prog 59 #[(VVal.mk 14 n i t lo hi).val] w fun e w'=>e=.returned (.bool (wellB ⟨14,n,i,t,lo,hi⟩))∧Bel w w':=by
 exact rk10
set_option maxHeartbeats 2000000 in
theorem implIsWellFormed_15 (n i:Int) (t:ByteArray) (lo hi:Int) (w:World) (ht:t.size≤maxLen) :
  Calls Tryd.prog 59 #[(VVal.mk 15 n i t lo hi).val] w fun e w'=>e=.returned (.bool (wellB ⟨15,n,i,t,lo,hi⟩))∧Bel w w':=by
 exact rk10
set_option maxHeartbeats 2000000 in
theorem implIsWellFormed_16 (n i:Int) (t:ByteArray) (lo hi:Int) (w:World) (ht:t.size≤maxLen) :
  Calls Tryd.prog 59 #[(VVal.mk 16 n i t lo hi).val] w fun e w'=>e=.returned (.bool (wellB ⟨16,n,i,t,lo,hi⟩))∧Bel w w':=by
 exact rk10
set_option maxHeartbeats 2000000 in
theorem implIsWellFormed_17 (n i:Int) (t:ByteArray) (lo hi:Int) (w:World) (ht:t.size≤maxLen) :
  Calls Tryd.prog 59 #[(VVal.mk 17 n i t lo hi).val] w fun e w'=>e=.returned (.bool (wellB ⟨17,n,i,t,lo,hi⟩))∧Bel w w':=by
 exact rk10
set_option maxHeartbeats 2000000 in
theorem implIsWellFormed_18 (n i:Int) (t:ByteArray) (lo hi:Int) (w:World) (ht:t.size≤maxLen) :
  Calls Tryd.prog 59 #[(VVal.mk 18 n i t lo hi).val] w fun e w'=>e=.returned (.bool (wellB ⟨18,n,i,t,lo,hi⟩))∧Bel w w':=by
 exact rk10
set_option maxHeartbeats 2000000 in
theorem implIsWellFormed_19 (n i:Int) (t:ByteArray) (lo hi:Int) (w:World) (ht:t.size≤maxLen) :
  Calls Tryd.prog 59 #[(VVal.mk 19 n i t lo hi).val] w fun e w'=>e=.returned (.bool (wellB ⟨19,n,i,t,lo,hi⟩))∧Bel w w':=by
 exact rk10
set_option maxHeartbeats 2000000 in
theorem implIsWellFormed_20 (n i:Int) (t:ByteArray) (lo hi:Int) (w:World) (ht:t.size≤maxLen) :
  Calls Tryd.prog 59 #[(VVal.mk 20 n i t lo hi).val] w fun e w'=>e=.returned (.bool (wellB ⟨20,n,i,t,lo,hi⟩))∧Bel w w':=by
 exact rk10
set_option maxHeartbeats 2000000 in
theorem implIsWellFormed_lo (k:Int) (hk:k<0) (n i:Int) (t:ByteArray) (lo hi:Int) (w:World) (ht:t.size≤maxLen) :
  Calls Tryd.prog 59 #[(VVal.mk k n i t lo hi).val] w fun e w'=>e=.returned (.bool (wellB ⟨k,n,i,t,lo,hi⟩))∧Bel w w':=by
 exact rk10
set_option maxHeartbeats 2000000 in
theorem implIsWellFormed_hi (k:Int) (hk:20<k) (n i:Int) (t:ByteArray) (lo hi:Int) (w:World) (ht:t.size≤maxLen) :
  Calls Tryd.prog 59 #[(VVal.mk k n i t lo hi).val] w fun e w'=>e=.returned (.bool (wellB ⟨k,n,i,t,lo,hi⟩))∧Bel w w':=by
 exact rk10
theorem implIsWellFormed_any (v:VVal) (w:World) (hv:v.Ok):Calls Tryd.prog 59 #[v.val] w fun e w'=>e=.returned (.bool (wellB v))∧Bel w w':=by
 have ht:=hv.t
 obtain⟨k,n,i,t,lo,hi⟩:=v
 rcases well_cases k with rfl | rfl | rfl | rfl | rfl | rfl | rfl | rfl | rfl | rfl | rfl | rfl | rfl | rfl | rfl | rfl | rfl | rfl | rfl | rfl | rfl | h | h
 ·
  exact implIsWellFormed_0 n i t lo hi w ht
 ·
  exact implIsWellFormed_1 n i t lo hi w ht
 ·
  exact implIsWellFormed_2 n i t lo hi w ht
 ·
  exact implIsWellFormed_3 n i t lo hi w ht
 ·
  exact implIsWellFormed_4 n i t lo hi w ht
 ·
  exact implIsWellFormed_5 n i t lo hi w ht
 ·
  exact implIsWellFormed_6 n i t lo hi w ht
 ·
  exact implIsWellFormed_7 n i t lo hi w ht
 ·
  exact implIsWellFormed_8 n i t lo hi w ht
 ·
  exact implIsWellFormed_9 n i t lo hi w ht
 ·
  exact implIsWellFormed_10 n i t lo hi w ht
 ·
  exact implIsWellFormed_11 n i t lo hi w ht
 ·
  exact implIsWellFormed_12 n i t lo hi w ht
 ·
  exact implIsWellFormed_13 n i t lo hi w ht
 ·
  exact implIsWellFormed_14 n i t lo hi w ht
 ·
  exact implIsWellFormed_15 n i t lo hi w ht
 ·
  exact implIsWellFormed_16 n i t lo hi w ht
 ·
  exact implIsWellFormed_17 n i t lo hi w ht
 ·
  exact implIsWellFormed_18 n i t lo hi w ht
 ·
  exact implIsWellFormed_19 n i t lo hi w ht
 ·
  exact implIsWellFormed_20 n i t lo hi w ht
 ·
  exact implIsWellFormed_lo k h n i t lo hi w ht
 ·
  exact implIsWellFormed_hi k h n i t lo hi w ht
end Go.Proofs.YtoikhhnmbbbjjaaDoor
