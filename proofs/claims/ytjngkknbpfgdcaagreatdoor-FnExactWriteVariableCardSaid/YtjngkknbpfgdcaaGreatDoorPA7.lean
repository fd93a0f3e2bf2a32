import Derived.Test.YtjngkknbpfgdcaaGreatDoorPr
import Derived.Test.YtjngkknbpfgdcaaGreatDoorPB
import Derived.Laws.BitsAllLaws
set_option linter.unusedVariables false
set_option linter.unusedSimpArgs false
set_option maxRecDepth 100000
set_option maxHeartbeats 8000000
namespace Go.Proofs.YtjngkknbpfgdcaaGreatDoor
open Go.RowKit
def dS (v:cV):Bool :=
 if v.k=0 then decide (v.t.toList=[])&&(decide (v.lo=0)&&decide (v.hi=0))&&decide (v.n=0)&&decide (v.i=0)
 else if v.k=1 then decide (v.t.toList=[])&&(decide (v.lo=0)&&decide (v.hi=0))&&decide (v.i=0)&&decide (-999999999999<=v.n)&&decide (v.n<=999999999999)
 else if v.k=2 then (decide (v.lo=0)&&decide (v.hi=0))&&decide (v.n=0)&&decide (v.i=0)&&decide (v.t.size<=120)
 else if v.k=3 then decide (v.t.toList=[])&&decide (v.n=0)&&decide (v.i=0)
 else if v.k=13\/v.k=15\/v.k=16 then decide (v.t.toList=[])&&(decide (v.lo=0)&&decide (v.hi=0))&&decide (0<=v.n)&&decide (0<=v.i)
 else if v.k=14 then decide (v.t.toList=[])&&(decide (v.lo=0)&&decide (v.hi=0))&&decide (v.n=0)&&decide (0<=v.i)
 else if v.k=18 then decide (v.t.toList=[])&&(decide (v.lo=0)&&decide (v.hi=0))&&decide (v.n=0)&&(decide (v.i=1)||decide (v.i=2))
 else if 4<=v.k/\v.k<=12\/v.k=17\/v.k=19\/v.k=20 then decide (v.t.toList=[])&&(decide (v.lo=0)&&decide (v.hi=0))&&decide (v.i=0)&&decide (0<=v.n)
 else false
theorem uH (t:ByteArray) (h:t.toList=[]):t.size=0:=by
 rw[ByteArray.toList_eq]at h
 have:=congrArg List.length h
 simpa using this
theorem vK (n i:Int) (t:ByteArray) (lo hi:Int) (w:World) (ht:t.size<=maxLen) :
  Calls Tryz.prog 107 #[(cV.mk 0 n i t lo hi).val] w fun e w'=>e=.returned (.bool (dS ⟨0,n,i,t,lo,hi⟩))/\cE w w':=by
 exact oM
theorem vL (n i:Int) (t:ByteArray) (lo hi:Int) (w:World) (ht:t.size<=maxLen) :
  Calls Tryz.prog 107 #[(cV.mk 1 n i t lo hi).val] w fun e w'=>e=.returned (.bool (dS ⟨1,n,i,t,lo,hi⟩))/\cE w w':=by
 exact oM
theorem vM (n i:Int) (t:ByteArray) (lo hi:Int) (w:World) (ht:t.size<=maxLen) :
  Calls Tryz.prog 107 #[(cV.mk 2 n i t lo hi).val] w fun e w'=>e=.returned (.bool (dS ⟨2,n,i,t,lo,hi⟩))/\cE w w':=by
 exact oM
theorem vN (n i:Int) (t:ByteArray) (lo hi:Int) (w:World) (ht:t.size<=maxLen) :
  Calls Tryz.prog 107 #[(cV.mk 3 n i t lo hi).val] w fun e w'=>e=.returned (.bool (dS ⟨3,n,i,t,lo,hi⟩))/\cE w w':=by
 exact oM
theorem vO (n i:Int) (t:ByteArray) (lo hi:Int) (w:World) (ht:t.size<=maxLen) :
  Calls Tryz.prog 107 #[(cV.mk 4 n i t lo hi).val] w fun e w'=>e=.returned (.bool (dS ⟨4,n,i,t,lo,hi⟩))/\cE w w':=by
 exact oM
theorem vP (n i:Int) (t:ByteArray) (lo hi:Int) (w:World) (ht:t.size<=maxLen) :
  Calls Tryz.prog 107 #[(cV.mk 5 n i t lo hi).val] w fun e w'=>e=.returned (.bool (dS ⟨5,n,i,t,lo,hi⟩))/\cE w w':=by
 exact oM
theorem vQ (n i:Int) (t:ByteArray) (lo hi:Int) (w:World) (ht:t.size<=maxLen) :
  Calls Tryz.prog 107 #[(cV.mk 6 n i t lo hi).val] w fun e w'=>e=.returned (.bool (dS ⟨6,n,i,t,lo,hi⟩))/\cE w w':=by
 exact oM
theorem vR (n i:Int) (t:ByteArray) (lo hi:Int) (w:World) (ht:t.size<=maxLen) :
  Calls Tryz.prog 107 #[(cV.mk 7 n i t lo hi).val] w fun e w'=>e=.returned (.bool (dS ⟨7,n,i,t,lo,hi⟩))/\cE w w':=by
 exact oM
theorem vS (n i:Int) (t:ByteArray) (lo hi:Int) (w:World) (ht:t.size<=maxLen) :
  Calls Tryz.prog 107 #[(cV.mk 8 n i t lo hi).val] w fun e w'=>e=.returned (.bool (dS ⟨8,n,i,t,lo,hi⟩))/\cE w w':=by
 exact oM
theorem vT (n i:Int) (t:ByteArray) (lo hi:Int) (w:World) (ht:t.size<=maxLen) :
  Calls Tryz.prog 107 #[(cV.mk 9 n i t lo hi).val] w fun e w'=>e=.returned (.bool (dS ⟨9,n,i,t,lo,hi⟩))/\cE w w':=by
 exact oM
theorem tS (n i:Int) (t:ByteArray) (lo hi:Int) (w:World) (ht:t.size<=maxLen) :
  Calls Tryz.prog 107 #[(cV.mk 10 n i t lo hi).val] w fun e w'=>e=.returned (.bool (dS ⟨10,n,i,t,lo,hi⟩))/\cE w w':=by
 exact oM
theorem tT (n i:Int) (t:ByteArray) (lo hi:Int) (w:World) (ht:t.size<=maxLen) :
  Calls Tryz.prog 107 #[(cV.mk 11 n i t lo hi).val] w fun e w'=>e=.returned (.bool (dS ⟨11,n,i,t,lo,hi⟩))/\cE w w':=by
 exact oM
theorem tU (n i:Int) (t:ByteArray) (lo hi:Int) (w:World) (ht:t.size<=maxLen) :
  Calls Tryz.prog 107 #[(cV.mk 12 n i t lo hi).val] w fun e w'=>e=.returned (.bool (dS ⟨12,n,i,t,lo,hi⟩))/\cE w w':=by
 exact oM
theorem tV (n i:Int) (t:ByteArray) (lo hi:Int) (w:World) (ht:t.size<=maxLen) :
  Calls Tryz.prog 107 #[(cV.mk 13 n i t lo hi).val] w fun e w'=>e=.returned (.bool (dS ⟨13,n,i,t,lo,hi⟩))/\cE w w':=by
 exact oM
theorem tW (n i:Int) (t:ByteArray) (lo hi:Int) (w:World) (ht:t.size<=maxLen) :
  Calls Tryz.prog 107 #[(cV.mk 14 n i t lo hi).val] w fun e w'=>e=.returned (.bool (dS ⟨14,n,i,t,lo,hi⟩))/\cE w w':=by
 exact oM
theorem tX (n i:Int) (t:ByteArray) (lo hi:Int) (w:World) (ht:t.size<=maxLen) :
  Calls Tryz.prog 107 #[(cV.mk 15 n i t lo hi).val] w fun e w'=>e=.returned (.bool (dS ⟨15,n,i,t,lo,hi⟩))/\cE w w':=by
 exact oM
theorem tY (n i:Int) (t:ByteArray) (lo hi:Int) (w:World) (ht:t.size<=maxLen) :
  Calls Tryz.prog 107 #[(cV.mk 16 n i t lo hi).val] w fun e w'=>e=.returned (.bool (dS ⟨16,n,i,t,lo,hi⟩))/\cE w w':=by
 exact oM
theorem tZ (n i:Int) (t:ByteArray) (lo hi:Int) (w:World) (ht:t.size<=maxLen) :
  Calls Tryz.prog 107 #[(cV.mk 17 n i t lo hi).val] w fun e w'=>e=.returned (.bool (dS ⟨17,n,i,t,lo,hi⟩))/\cE w w':=by
 exact oM
theorem ua (n i:Int) (t:ByteArray) (lo hi:Int) (w:World) (ht:t.size<=maxLen) :
  Calls Tryz.prog 107 #[(cV.mk 18 n i t lo hi).val] w fun e w'=>e=.returned (.bool (dS ⟨18,n,i,t,lo,hi⟩))/\cE w w':=by
 exact oM
theorem ub (n i:Int) (t:ByteArray) (lo hi:Int) (w:World) (ht:t.size<=maxLen) :
  Calls Tryz.prog 107 #[(cV.mk 19 n i t lo hi).val] w fun e w'=>e=.returned (.bool (dS ⟨19,n,i,t,lo,hi⟩))/\cE w w':=by
 exact oM
theorem uc (n i:Int) (t:ByteArray) (lo hi:Int) (w:World) (ht:t.size<=maxLen) :
  Calls Tryz.prog 107 #[(cV.mk 20 n i t lo hi).val] w fun e w'=>e=.returned (.bool (dS ⟨20,n,i,t,lo,hi⟩))/\cE w w':=by
 exact oM
theorem ud (k:Int) (hk:k<0) (n i:Int) (t:ByteArray) (lo hi:Int) (w:World) (ht:t.size<=maxLen) :
  Calls Tryz.prog 107 #[(cV.mk k n i t lo hi).val] w fun e w'=>e=.returned (.bool (dS ⟨k,n,i,t,lo,hi⟩))/\cE w w':=by
 exact oM
theorem ue (k:Int) (hk:20<k) (n i:Int) (t:ByteArray) (lo hi:Int) (w:World) (ht:t.size<=maxLen) :
  Calls Tryz.prog 107 #[(cV.mk k n i t lo hi).val] w fun e w'=>e=.returned (.bool (dS ⟨k,n,i,t,lo,hi⟩))/\cE w w':=by
 exact oM
theorem rE (k:Int):k=0\/k=1\/k=2\/k=3\/k=4\/k=5\/k=6\/k=7\/k=8\/k=9\/k=10\/k=11\/k=12\/k=13\/k=14\/k=15\/k=16\/k=17\/k=18\/k=19\/k=20\/k<0\/20<k:=by omega
theorem cU (v:cV) (w:World) (hv:v.Ok):Calls Tryz.prog 107 #[v.val] w fun e w'=>e=.returned (.bool (dS v))/\cE w w':=by
 have ht:=hv.t
 obtain⟨k,n,i,t,lo,hi⟩:=v
 rcases rE k with rfl | rfl | rfl | rfl | rfl | rfl | rfl | rfl | rfl | rfl | rfl | rfl | rfl | rfl | rfl | rfl | rfl | rfl | rfl | rfl | rfl | h | h
 ·
  exact vK n i t lo hi w ht
 ·
  exact vL n i t lo hi w ht
 ·
  exact vM n i t lo hi w ht
 ·
  exact vN n i t lo hi w ht
 ·
  exact vO n i t lo hi w ht
 ·
  exact vP n i t lo hi w ht
 ·
  exact vQ n i t lo hi w ht
 ·
  exact vR n i t lo hi w ht
 ·
  exact vS n i t lo hi w ht
 ·
  exact vT n i t lo hi w ht
 ·
  exact tS n i t lo hi w ht
 ·
  exact tT n i t lo hi w ht
 ·
  exact tU n i t lo hi w ht
 ·
  exact tV n i t lo hi w ht
 ·
  exact tW n i t lo hi w ht
 ·
  exact tX n i t lo hi w ht
 ·
  exact tY n i t lo hi w ht
 ·
  exact tZ n i t lo hi w ht
 ·
  exact ua n i t lo hi w ht
 ·
  exact ub n i t lo hi w ht
 ·
  exact uc n i t lo hi w ht
 ·
  exact ud k h n i t lo hi w ht
 ·
  exact ue k h n i t lo hi w ht
theorem vU (n i:Int) (t:ByteArray) (lo hi:Int) (w:World) (ht:t.size<=maxLen) :
  Calls Tryz.prog 83 #[(cV.mk 0 n i t lo hi).val] w fun e w'=>e=.returned (.bool (dS ⟨0,n,i,t,lo,hi⟩))/\cE w w':=by
 exact oN
theorem vV (n i:Int) (t:ByteArray) (lo hi:Int) (w:World) (ht:t.size<=maxLen) :
  Calls Tryz.prog 83 #[(cV.mk 1 n i t lo hi).val] w fun e w'=>e=.returned (.bool (dS ⟨1,n,i,t,lo,hi⟩))/\cE w w':=by
 exact oN
theorem vW (n i:Int) (t:ByteArray) (lo hi:Int) (w:World) (ht:t.size<=maxLen) :
  Calls Tryz.prog 83 #[(cV.mk 2 n i t lo hi).val] w fun e w'=>e=.returned (.bool (dS ⟨2,n,i,t,lo,hi⟩))/\cE w w':=by
 exact oN
theorem vX (n i:Int) (t:ByteArray) (lo hi:Int) (w:World) (ht:t.size<=maxLen) :
  Calls Tryz.prog 83 #[(cV.mk 3 n i t lo hi).val] w fun e w'=>e=.returned (.bool (dS ⟨3,n,i,t,lo,hi⟩))/\cE w w':=by
 exact oN
theorem vY (n i:Int) (t:ByteArray) (lo hi:Int) (w:World) (ht:t.size<=maxLen) :
  Calls Tryz.prog 83 #[(cV.mk 4 n i t lo hi).val] w fun e w'=>e=.returned (.bool (dS ⟨4,n,i,t,lo,hi⟩))/\cE w w':=by
 exact oN
theorem vZ (n i:Int) (t:ByteArray) (lo hi:Int) (w:World) (ht:t.size<=maxLen) :
  Calls Tryz.prog 83 #[(cV.mk 5 n i t lo hi).val] w fun e w'=>e=.returned (.bool (dS ⟨5,n,i,t,lo,hi⟩))/\cE w w':=by
 exact oN
theorem wh (n i:Int) (t:ByteArray) (lo hi:Int) (w:World) (ht:t.size<=maxLen) :
  Calls Tryz.prog 83 #[(cV.mk 6 n i t lo hi).val] w fun e w'=>e=.returned (.bool (dS ⟨6,n,i,t,lo,hi⟩))/\cE w w':=by
 exact oN
theorem wi (n i:Int) (t:ByteArray) (lo hi:Int) (w:World) (ht:t.size<=maxLen) :
  Calls Tryz.prog 83 #[(cV.mk 7 n i t lo hi).val] w fun e w'=>e=.returned (.bool (dS ⟨7,n,i,t,lo,hi⟩))/\cE w w':=by
 exact oN
theorem wj (n i:Int) (t:ByteArray) (lo hi:Int) (w:World) (ht:t.size<=maxLen) :
  Calls Tryz.prog 83 #[(cV.mk 8 n i t lo hi).val] w fun e w'=>e=.returned (.bool (dS ⟨8,n,i,t,lo,hi⟩))/\cE w w':=by
 exact oN
theorem wk (n i:Int) (t:ByteArray) (lo hi:Int) (w:World) (ht:t.size<=maxLen) :
  Calls Tryz.prog 83 #[(cV.mk 9 n i t lo hi).val] w fun e w'=>e=.returned (.bool (dS ⟨9,n,i,t,lo,hi⟩))/\cE w w':=by
 exact oN
theorem ug (n i:Int) (t:ByteArray) (lo hi:Int) (w:World) (ht:t.size<=maxLen) :
  Calls Tryz.prog 83 #[(cV.mk 10 n i t lo hi).val] w fun e w'=>e=.returned (.bool (dS ⟨10,n,i,t,lo,hi⟩))/\cE w w':=by
 exact oN
theorem uh (n i:Int) (t:ByteArray) (lo hi:Int) (w:World) (ht:t.size<=maxLen) :
  Calls Tryz.prog 83 #[(cV.mk 11 n i t lo hi).val] w fun e w'=>e=.returned (.bool (dS ⟨11,n,i,t,lo,hi⟩))/\cE w w':=by
 exact oN
theorem ui (n i:Int) (t:ByteArray) (lo hi:Int) (w:World) (ht:t.size<=maxLen) :
  Calls Tryz.prog 83 #[(cV.mk 12 n i t lo hi).val] w fun e w'=>e=.returned (.bool (dS ⟨12,n,i,t,lo,hi⟩))/\cE w w':=by
 exact oN
theorem uj (n i:Int) (t:ByteArray) (lo hi:Int) (w:World) (ht:t.size<=maxLen) :
  Calls Tryz.prog 83 #[(cV.mk 13 n i t lo hi).val] w fun e w'=>e=.returned (.bool (dS ⟨13,n,i,t,lo,hi⟩))/\cE w w':=by
 exact oN
theorem uk (n i:Int) (t:ByteArray) (lo hi:Int) (w:World) (ht:t.size<=maxLen) :
  Calls Tryz.prog 83 #[(cV.mk 14 n i t lo hi).val] w fun e w'=>e=.returned (.bool (dS ⟨14,n,i,t,lo,hi⟩))/\cE w w':=by
 exact oN
theorem um (n i:Int) (t:ByteArray) (lo hi:Int) (w:World) (ht:t.size<=maxLen) :
  Calls Tryz.prog 83 #[(cV.mk 15 n i t lo hi).val] w fun e w'=>e=.returned (.bool (dS ⟨15,n,i,t,lo,hi⟩))/\cE w w':=by
 exact oN
theorem uo (n i:Int) (t:ByteArray) (lo hi:Int) (w:World) (ht:t.size<=maxLen) :
  Calls Tryz.prog 83 #[(cV.mk 16 n i t lo hi).val] w fun e w'=>e=.returned (.bool (dS ⟨16,n,i,t,lo,hi⟩))/\cE w w':=by
 exact oN
theorem uq (n i:Int) (t:ByteArray) (lo hi:Int) (w:World) (ht:t.size<=maxLen) :
  Calls Tryz.prog 83 #[(cV.mk 17 n i t lo hi).val] w fun e w'=>e=.returned (.bool (dS ⟨17,n,i,t,lo,hi⟩))/\cE w w':=by
 exact oN
theorem ur (n i:Int) (t:ByteArray) (lo hi:Int) (w:World) (ht:t.size<=maxLen) :
  Calls Tryz.prog 83 #[(cV.mk 18 n i t lo hi).val] w fun e w'=>e=.returned (.bool (dS ⟨18,n,i,t,lo,hi⟩))/\cE w w':=by
 exact oN
theorem uu (n i:Int) (t:ByteArray) (lo hi:Int) (w:World) (ht:t.size<=maxLen) :
  Calls Tryz.prog 83 #[(cV.mk 19 n i t lo hi).val] w fun e w'=>e=.returned (.bool (dS ⟨19,n,i,t,lo,hi⟩))/\cE w w':=by
 exact oN
theorem uv (n i:Int) (t:ByteArray) (lo hi:Int) (w:World) (ht:t.size<=maxLen) :
  Calls Tryz.prog 83 #[(cV.mk 20 n i t lo hi).val] w fun e w'=>e=.returned (.bool (dS ⟨20,n,i,t,lo,hi⟩))/\cE w w':=by
 exact oN
theorem uw (k:Int) (hk:k<0) (n i:Int) (t:ByteArray) (lo hi:Int) (w:World) (ht:t.size<=maxLen) :
  Calls Tryz.prog 83 #[(cV.mk k n i t lo hi).val] w fun e w'=>e=.returned (.bool (dS ⟨k,n,i,t,lo,hi⟩))/\cE w w':=by
 exact oN
theorem ux (k:Int) (hk:20<k) (n i:Int) (t:ByteArray) (lo hi:Int) (w:World) (ht:t.size<=maxLen) :
  Calls Tryz.prog 83 #[(cV.mk k n i t lo hi).val] w fun e w'=>e=.returned (.bool (dS ⟨k,n,i,t,lo,hi⟩))/\cE w w':=by
 exact oN
theorem iU (v:cV) (w:World) (hv:v.Ok):Calls Tryz.prog 83 #[v.val] w fun e w'=>e=.returned (.bool (dS v))/\cE w w':=by
 have ht:=hv.t
 obtain⟨k,n,i,t,lo,hi⟩:=v
 rcases rE k with rfl | rfl | rfl | rfl | rfl | rfl | rfl | rfl | rfl | rfl | rfl | rfl | rfl | rfl | rfl | rfl | rfl | rfl | rfl | rfl | rfl | h | h
 ·
  exact vU n i t lo hi w ht
 ·
  exact vV n i t lo hi w ht
 ·
  exact vW n i t lo hi w ht
 ·
  exact vX n i t lo hi w ht
 ·
  exact vY n i t lo hi w ht
 ·
  exact vZ n i t lo hi w ht
 ·
  exact wh n i t lo hi w ht
 ·
  exact wi n i t lo hi w ht
 ·
  exact wj n i t lo hi w ht
 ·
  exact wk n i t lo hi w ht
 ·
  exact ug n i t lo hi w ht
 ·
  exact uh n i t lo hi w ht
 ·
  exact ui n i t lo hi w ht
 ·
  exact uj n i t lo hi w ht
 ·
  exact uk n i t lo hi w ht
 ·
  exact um n i t lo hi w ht
 ·
  exact uo n i t lo hi w ht
 ·
  exact uq n i t lo hi w ht
 ·
  exact ur n i t lo hi w ht
 ·
  exact uu n i t lo hi w ht
 ·
  exact uv n i t lo hi w ht
 ·
  exact uw k h n i t lo hi w ht
 ·
  exact ux k h n i t lo hi w ht
def Gz (x:Int) (b:Nat):Bool:=(BitVec.ofInt 64 x).getLsbD b
theorem zK (b:Nat) (h:b<64):1<=2 ^ b/\2 ^ b<=9223372036854775808:=by
 refine⟨Nat.one_le_two_pow,?_⟩
 calc 2 ^ b<=2 ^ 63:=Nat.pow_le_pow_right aB aB
  _=9223372036854775808:=by decide
theorem zL (b:Nat) (h:b<64):BitVec.ofInt 64 (wrap64 (2 ^ b))=BitVec.twoPow 64 b:=by
 apply BitVec.eq_of_toNat_eq
 rw[BitVec.toNat_ofInt,BitVec.toNat_twoPow]
 obtain⟨h1,h2⟩:=zK b h
 have e:((2:Int) ^ b)=((2 ^ b:Nat):Int):=aK
 rw[e]
 generalize 2 ^ b=p at *
 unfold wrap64
 omega
theorem Iz (x:Int) (b:Nat) (h:b<64):(bits .and .i64 x (wrap64 (2 ^ b)) != 0)=Gz x b:=by
 show (IntKind.i64.wrap ((BitVec.ofInt 64 x &&& BitVec.ofInt 64 (wrap64 (2 ^ b))).toNat:Int) != 0)=Gz x b
 rw[zL b h,BitVec.and_twoPow,IntKind.wrap_i64]
 unfold Gz
 obtain⟨h1,h2⟩:=zK b h
 cases hb:(BitVec.ofInt 64 x).getLsbD b
 ·
  simp
 ·
  simp only[↓reduceIte,BitVec.toNat_twoPow]
  have e:2 ^ b % 2 ^ 64=2 ^ b:=Nat.mod_eq_of_lt (by
   calc 2 ^ b<=9223372036854775808:=h2
    _<2 ^ 64:=by decide)
  rw[e]
  generalize 2 ^ b=p at *
  rw[ay]
  omega
theorem Cj (x:Int) (b:Nat) (h:b<64):(bits .and .u64 (IntKind.u64.wrap x / 2 ^ b) 1==1)=Gz x b:=by
 have e0:IntKind.u64.wrap x=((BitVec.ofInt 64 x).toNat:Int):=by
  rw[Go.IntKind.wrap_u64,BitVec.toNat_ofInt]
  omega
 have hlt:=(BitVec.ofInt 64 x).isLt
 have e:((2:Int) ^ b)=((2 ^ b:Nat):Int):=aK
 rw[e0,e,<-Int.natCast_ediv]
 unfold Gz
 rw[BitVec.getLsbD]
 generalize (BitVec.ofInt 64 x).toNat=n at *
 have h3:n / 2 ^ b<=n:=Nat.div_le_self _ _
 have:=u64_and_nat (n / 2 ^ b) 1 aB aB
 rw[show ((1:Nat):Int)=1 from rfl]at this
 rw[this,Nat.and_one_is_mod,Nat.testBit_eq_decide_div_mod_eq]
 generalize n / 2 ^ b % 2=m
 by_cases hm:m=1
 ·
  subst hm;rfl
 ·
  have h1:((m:Int)==1)=false:=aD
  rw[h1]
  simp[hm]
def rF (lo hi:Int) (b:Nat):Bool:=if b<64 then Gz lo b else if b<128 then Gz hi (b - 64) else false
theorem se (lo hi:Int) (b:Nat) (w:World) (hb:b<256) :
  Calls Tryz.prog 147 #[.agg #[.int .i64 lo,.int .i64 hi],.int .u8 b] w fun e w'=>e=.returned (.bool (rF lo hi b))/\cE w w':=by
 have B1:=hide (Iz lo b)
 have B2:=hide (Iz hi (b - 64))
 go_enter Tryz.func147,Tryz.ntmps147
 exact TP
theorem si (lo hi:Int) (b:Nat) (w:World) (hb:b<256) :
  Calls Tryz.prog 146 #[.agg #[.int .i64 lo,.int .i64 hi],.int .u8 b] w fun e w'=>e=.returned (.bool (rF lo hi b))/\cE w w':=by
 have B1:=hide (Cj lo b)
 have B2:=hide (Cj hi (b - 64))
 go_enter Tryz.func146,Tryz.ntmps146
 exact TP
end Go.Proofs.YtjngkknbpfgdcaaGreatDoor
