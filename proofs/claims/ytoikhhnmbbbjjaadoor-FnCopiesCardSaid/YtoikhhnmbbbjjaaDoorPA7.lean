/- Well-formed values: spec. -/
import Derived.Test.YtoikhhnmbbbjjaaDoorPr
import Derived.Test.YtoikhhnmbbbjjaaDoorPB
namespace Go.Proofs.YtoikhhnmbbbjjaaDoor
set_option linter.unusedVariables false
set_option linter.unusedSimpArgs false
set_option maxRecDepth 100000
open Go.RowKit
def wellB (v:VVal):Bool :=
 if v.k=0 then decide (v.t.toList=[])&&(decide (v.lo=0)&&decide (v.hi=0))&&decide (v.n=0)&&decide (v.i=0)
 else if v.k=1 then decide (v.t.toList=[])&&(decide (v.lo=0)&&decide (v.hi=0))&&decide (v.i=0)&&decide (-999999999999≤v.n)&&decide (v.n≤999999999999)
 else if v.k=2 then (decide (v.lo=0)&&decide (v.hi=0))&&decide (v.n=0)&&decide (v.i=0)&&decide (v.t.size≤120)
 else if v.k=3 then decide (v.t.toList=[])&&decide (v.n=0)&&decide (v.i=0)
 else if v.k=13∨v.k=15∨v.k=16 then decide (v.t.toList=[])&&(decide (v.lo=0)&&decide (v.hi=0))&&decide (0≤v.n)&&decide (0≤v.i)
 else if v.k=14 then decide (v.t.toList=[])&&(decide (v.lo=0)&&decide (v.hi=0))&&decide (v.n=0)&&decide (0≤v.i)
 else if v.k=18 then decide (v.t.toList=[])&&(decide (v.lo=0)&&decide (v.hi=0))&&decide (v.n=0)&&(decide (v.i=1)||decide (v.i=2))
 else if 4≤v.k∧v.k≤12∨v.k=17∨v.k=19∨v.k=20 then decide (v.t.toList=[])&&(decide (v.lo=0)&&decide (v.hi=0))&&decide (v.i=0)&&decide (0≤v.n)
 else false
theorem size_of_empty (t:ByteArray) (h:t.toList=[]):t.size=0:=by
 rw[ByteArray.toList_eq]at h
 have:=congrArg List.length h
 simpa using this
set_option maxHeartbeats 2000000 in
theorem specIsWellFormed_0 (n i:Int) (t:ByteArray) (lo hi:Int) (w:World) (ht:t.size≤maxLen) :
  Calls Tryd.prog 42 #[(VVal.mk 0 n i t lo hi).val] w fun e w'=>e=.returned (.bool (wellB ⟨0,n,i,t,lo,hi⟩))∧Bel w w':=by
 exact rk9
set_option maxHeartbeats 2000000 in
theorem specIsWellFormed_1 (n i:Int) (t:ByteArray) (lo hi:Int) (w:World) (ht:t.size≤maxLen) :
  Calls Tryd.prog 42 #[(VVal.mk 1 n i t lo hi).val] w fun e w'=>e=.returned (.bool (wellB ⟨1,n,i,t,lo,hi⟩))∧Bel w w':=by
 exact rk9
set_option maxHeartbeats 2000000 in
theorem specIsWellFormed_2 (n i:Int) (t:ByteArray) (lo hi:Int) (w:World) (ht:t.size≤maxLen) :
  Calls Tryd.prog 42 #[(VVal.mk 2 n i t lo hi).val] w fun e w'=>e=.returned (.bool (wellB ⟨2,n,i,t,lo,hi⟩))∧Bel w w':=by
 exact rk9
set_option maxHeartbeats 2000000 in
theorem specIsWellFormed_3 (n i:Int) (t:ByteArray) (lo hi:Int) (w:World) (ht:t.size≤maxLen) :
  Calls Tryd.prog 42 #[(VVal.mk 3 n i t lo hi).val] w fun e w'=>e=.returned (.bool (wellB ⟨3,n,i,t,lo,hi⟩))∧Bel w w':=by
 exact rk9
set_option maxHeartbeats 2000000 in
theorem specIsWellFormed_4 (n i:Int) (t:ByteArray) (lo hi:Int) (w:World) (ht:t.size≤maxLen) :
  Calls Tryd.prog 42 #[(VVal.mk 4 n i t lo hi).val] w fun e w'=>e=.returned (.bool (wellB ⟨4,n,i,t,lo,hi⟩))∧Bel w w':=by
 exact rk9
set_option maxHeartbeats 2000000 in
theorem specIsWellFormed_5 (n i:Int) (t:ByteArray) (lo hi:Int) (w:World) (ht:t.size≤maxLen) :
  Calls Tryd.prog 42 #[(VVal.mk 5 n i t lo hi).val] w fun e w'=>e=.returned (.bool (wellB ⟨5,n,i,t,lo,hi⟩))∧Bel w w':=by
 exact rk9
set_option maxHeartbeats 2000000 in
theorem specIsWellFormed_6 (n i:Int) (t:ByteArray) (lo hi:Int) (w:World) (ht:t.size≤maxLen) :
  Calls Tryd.prog 42 #[(VVal.mk 6 n i t lo hi).val] w fun e w'=>e=.returned (.bool (wellB ⟨6,n,i,t,lo,hi⟩))∧Bel w w':=by
 exact rk9
set_option maxHeartbeats 2000000 in
theorem specIsWellFormed_7 (n i:Int) (t:ByteArray) (lo hi:Int) (w:World) (ht:t.size≤maxLen) :
  Calls Tryd.prog 42 #[(VVal.mk 7 n i t lo hi).val] w fun e w'=>e=.returned (.bool (wellB ⟨7,n,i,t,lo,hi⟩))∧Bel w w':=by
 exact rk9
set_option maxHeartbeats 2000000 in
theorem specIsWellFormed_8 (n i:Int) (t:ByteArray) (lo hi:Int) (w:World) (ht:t.size≤maxLen) :
  Calls Tryd.prog 42 #[(VVal.mk 8 n i t lo hi).val] w fun e w'=>e=.returned (.bool (wellB ⟨8,n,i,t,lo,hi⟩))∧Bel w w':=by
 exact rk9
set_option maxHeartbeats 2000000 in
theorem specIsWellFormed_9 (n i:Int) (t:ByteArray) (lo hi:Int) (w:World) (ht:t.size≤maxLen) :
  Calls Tryd.prog 42 #[(VVal.mk 9 n i t lo hi).val] w fun e w'=>e=.returned (.bool (wellB ⟨9,n,i,t,lo,hi⟩))∧Bel w w':=by
 exact rk9
set_option maxHeartbeats 2000000 in
theorem specIsWellFormed_10 (n i:Int) (t:ByteArray) (lo hi:Int) (w:World) (ht:t.size≤maxLen) :
  Calls Tryd.prog 42 #[(VVal.mk 10 n i t lo hi).val] w fun e w'=>e=.returned (.bool (wellB ⟨10,n,i,t,lo,hi⟩))∧Bel w w':=by
 exact rk9
set_option maxHeartbeats 2000000 in
theorem specIsWellFormed_11 (n i:Int) (t:ByteArray) (lo hi:Int) (w:World) (ht:t.size≤maxLen) :
  Calls Tryd.prog 42 #[(VVal.mk 11 n i t lo hi).val] w fun e w'=>e=.returned (.bool (wellB ⟨11,n,i,t,lo,hi⟩))∧Bel w w':=by
 exact rk9
set_option maxHeartbeats 2000000 in
theorem specIsWellFormed_12 (n i:Int) (t:ByteArray) (lo hi:Int) (w:World) (ht:t.size≤maxLen) :
  Calls Tryd.prog 42 #[(VVal.mk 12 n i t lo hi).val] w fun e w'=>e=.returned (.bool (wellB ⟨12,n,i,t,lo,hi⟩))∧Bel w w':=by
 exact rk9
set_option maxHeartbeats 2000000 in
theorem specIsWellFormed_13 (n i:Int) (t:ByteArray) (lo hi:Int) (w:World) (ht:t.size≤maxLen) :
  Calls Tryd.prog 42 #[(VVal.mk 13 n i t lo hi).val] w fun e w'=>e=.returned (.bool (wellB ⟨13,n,i,t,lo,hi⟩))∧Bel w w':=by
 exact rk9
set_option maxHeartbeats 2000000 in
theorem specIsWellFormed_14 (n i:Int) (t:ByteArray) (lo hi:Int) (w:World) (ht:t.size≤maxLen) :
  Calls Tryd.prog 42 #[(VVal.mk 14 n i t lo hi).val] w fun e w'=>e=.returned (.bool (wellB ⟨14,n,i,t,lo,hi⟩))∧Bel w w':=by
 exact rk9
set_option maxHeartbeats 2000000 in
theorem specIsWellFormed_15 (n i:Int) (t:ByteArray) (lo hi:Int) (w:World) (ht:t.size≤maxLen) :
  Calls Tryd.prog 42 #[(VVal.mk 15 n i t lo hi).val] w fun e w'=>e=.returned (.bool (wellB ⟨15,n,i,t,lo,hi⟩))∧Bel w w':=by
 exact rk9
set_option maxHeartbeats 2000000 in
theorem specIsWellFormed_16 (n i:Int) (t:ByteArray) (lo hi:Int) (w:World) (ht:t.size≤maxLen) :
  Calls Tryd.prog 42 #[(VVal.mk 16 n i t lo hi).val] w fun e w'=>e=.returned (.bool (wellB ⟨16,n,i,t,lo,hi⟩))∧Bel w w':=by
 exact rk9
set_option maxHeartbeats 2000000 in
theorem specIsWellFormed_17 (n i:Int) (t:ByteArray) (lo hi:Int) (w:World) (ht:t.size≤maxLen) :
  Calls Tryd.prog 42 #[(VVal.mk 17 n i t lo hi).val] w fun e w'=>e=.returned (.bool (wellB ⟨17,n,i,t,lo,hi⟩))∧Bel w w':=by
 exact rk9
set_option maxHeartbeats 2000000 in
theorem specIsWellFormed_18 (n i:Int) (t:ByteArray) (lo hi:Int) (w:World) (ht:t.size≤maxLen) :
  Calls Tryd.prog 42 #[(VVal.mk 18 n i t lo hi).val] w fun e w'=>e=.returned (.bool (wellB ⟨18,n,i,t,lo,hi⟩))∧Bel w w':=by
 exact rk9
set_option maxHeartbeats 2000000 in
theorem specIsWellFormed_19 (n i:Int) (t:ByteArray) (lo hi:Int) (w:World) (ht:t.size≤maxLen) :
  Calls Tryd.prog 42 #[(VVal.mk 19 n i t lo hi).val] w fun e w'=>e=.returned (.bool (wellB ⟨19,n,i,t,lo,hi⟩))∧Bel w w':=by
 exact rk9
set_option maxHeartbeats 2000000 in
theorem specIsWellFormed_20 (n i:Int) (t:ByteArray) (lo hi:Int) (w:World) (ht:t.size≤maxLen) :
  Calls Tryd.prog 42 #[(VVal.mk 20 n i t lo hi).val] w fun e w'=>e=.returned (.bool (wellB ⟨20,n,i,t,lo,hi⟩))∧Bel w w':=by
 exact rk9
set_option maxHeartbeats 2000000 in
theorem specIsWellFormed_lo (k:Int) (hk:k<0) (n i:Int) (t:ByteArray) (lo hi:Int) (w:World) (ht:t.size≤maxLen) :
  Calls Tryd.prog 42 #[(VVal.mk k n i t lo hi).val] w fun e w'=>e=.returned (.bool (wellB ⟨k,n,i,t,lo,hi⟩))∧Bel w w':=by
 exact rk9
set_option maxHeartbeats 2000000 in
theorem specIsWellFormed_hi (k:Int) (hk:20<k) (n i:Int) (t:ByteArray) (lo hi:Int) (w:World) (ht:t.size≤maxLen) :
  Calls Tryd.prog 42 #[(VVal.mk k n i t lo hi).val] w fun e w'=>e=.returned (.bool (wellB ⟨k,n,i,t,lo,hi⟩))∧Bel w w':=by
 exact rk9
theorem well_cases (k:Int):k=0∨k=1∨k=2∨k=3∨k=4∨k=5∨k=6∨k=7∨k=8∨k=9∨k=10∨k=11∨k=12∨k=13∨k=14∨k=15∨k=16∨k=17∨k=18∨k=19∨k=20∨k<0∨20<k:=by omega
theorem specIsWellFormed_any (v:VVal) (w:World) (hv:v.Ok):Calls Tryd.prog 42 #[v.val] w fun e w'=>e=.returned (.bool (wellB v))∧Bel w w':=by
 have ht:=hv.t
 obtain⟨k,n,i,t,lo,hi⟩:=v
 rcases well_cases k with rfl | rfl | rfl | rfl | rfl | rfl | rfl | rfl | rfl | rfl | rfl | rfl | rfl | rfl | rfl | rfl | rfl | rfl | rfl | rfl | rfl | h | h
 ·
  exact specIsWellFormed_0 n i t lo hi w ht
 ·
  exact specIsWellFormed_1 n i t lo hi w ht
 ·
  exact specIsWellFormed_2 n i t lo hi w ht
 ·
  exact specIsWellFormed_3 n i t lo hi w ht
 ·
  exact specIsWellFormed_4 n i t lo hi w ht
 ·
  exact specIsWellFormed_5 n i t lo hi w ht
 ·
  exact specIsWellFormed_6 n i t lo hi w ht
 ·
  exact specIsWellFormed_7 n i t lo hi w ht
 ·
  exact specIsWellFormed_8 n i t lo hi w ht
 ·
  exact specIsWellFormed_9 n i t lo hi w ht
 ·
  exact specIsWellFormed_10 n i t lo hi w ht
 ·
  exact specIsWellFormed_11 n i t lo hi w ht
 ·
  exact specIsWellFormed_12 n i t lo hi w ht
 ·
  exact specIsWellFormed_13 n i t lo hi w ht
 ·
  exact specIsWellFormed_14 n i t lo hi w ht
 ·
  exact specIsWellFormed_15 n i t lo hi w ht
 ·
  exact specIsWellFormed_16 n i t lo hi w ht
 ·
  exact specIsWellFormed_17 n i t lo hi w ht
 ·
  exact specIsWellFormed_18 n i t lo hi w ht
 ·
  exact specIsWellFormed_19 n i t lo hi w ht
 ·
  exact specIsWellFormed_20 n i t lo hi w ht
 ·
  exact specIsWellFormed_lo k h n i t lo hi w ht
 ·
  exact specIsWellFormed_hi k h n i t lo hi w ht
end Go.Proofs.YtoikhhnmbbbjjaaDoor
