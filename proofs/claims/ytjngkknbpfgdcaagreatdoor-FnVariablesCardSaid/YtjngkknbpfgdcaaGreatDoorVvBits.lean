import Derived.Test.YtjngkknbpfgdcaaGreatDoorVvr
import Derived.Test.YtjngkknbpfgdcaaGreatDoorVvB
set_option linter.unusedVariables false
set_option linter.unusedSimpArgs false
set_option maxRecDepth 100000
set_option maxHeartbeats 8000000
namespace Go.Proofs.YtjngkknbpfgdcaaGreatDoor
open Go.RowKit Tryz
def IP (x:Int) (b:Nat):Bool:=(BitVec.ofInt 64 x).getLsbD b
theorem Bj (b:Nat) (h:b<64):1<=2 ^ b/\2 ^ b<=9223372036854775808:=by
 refine⟨Nat.one_le_two_pow,?_⟩
 calc 2 ^ b<=2 ^ 63:=Nat.pow_le_pow_right aF aF
  _=9223372036854775808:=by decide
theorem tE (b:Nat) (h:b<64):BitVec.ofInt 64 (wrap64 (2 ^ b))=BitVec.twoPow 64 b:=by
 apply BitVec.eq_of_toNat_eq
 rw[BitVec.toNat_ofInt,BitVec.toNat_twoPow]
 obtain⟨h1,h2⟩:=Bj b h
 have e:((2:Int) ^ b)=((2 ^ b:Nat):Int):=aJ
 rw[e]
 generalize 2 ^ b=p at *
 unfold wrap64
 omega
theorem Ko (x:Int) (b:Nat) (h:b<64):(bits .and .i64 x (wrap64 (2 ^ b)) != 0)=IP x b:=by
 show (IntKind.i64.wrap ((BitVec.ofInt 64 x &&& BitVec.ofInt 64 (wrap64 (2 ^ b))).toNat:Int) != 0)=IP x b
 rw[tE b h,BitVec.and_twoPow,IntKind.wrap_i64]
 unfold IP
 obtain⟨h1,h2⟩:=Bj b h
 cases hb:(BitVec.ofInt 64 x).getLsbD b
 ·
  simp
 ·
  simp only[↓reduceIte,BitVec.toNat_twoPow]
  have e:2 ^ b % 2 ^ 64=2 ^ b:=Nat.mod_eq_of_lt (by
   calc 2 ^ b<=9223372036854775808:=h2
    _<2 ^ 64:=by decide)
  rw[e]
  generalize 2 ^ b=p at *
  rw[aC]
  omega
theorem DF (x:Int) (b:Nat) (h:b<64):(bits .and .u64 (IntKind.u64.wrap x / 2 ^ b) 1==1)=IP x b:=by
 have e0:IntKind.u64.wrap x=((BitVec.ofInt 64 x).toNat:Int):=by
  rw[Go.IntKind.wrap_u64,BitVec.toNat_ofInt]
  omega
 have jP:=(BitVec.ofInt 64 x).isLt
 have e:((2:Int) ^ b)=((2 ^ b:Nat):Int):=aJ
 rw[e0,e,<-Int.natCast_ediv]
 unfold IP
 rw[BitVec.getLsbD]
 generalize (BitVec.ofInt 64 x).toNat=n at *
 have h3:n / 2 ^ b<=n:=Nat.div_le_self _ _
 have:=u64_and_nat (n / 2 ^ b) 1 aF aF
 rw[show ((1:Nat):Int)=1 from rfl]at this
 rw[this,Nat.and_one_is_mod,Nat.testBit_eq_decide_div_mod_eq]
 generalize n / 2 ^ b % 2=m
 by_cases hm:m=1
 ·
  subst hm;rfl
 ·
  have h1:((m:Int)==1)=false:=aH
  rw[h1]
  simp[hm]
def sB (lo hi:Int) (b:Nat):Bool:=if b<64 then IP lo b else if b<128 then IP hi (b - 64) else false
def dD (v:cC):Bool :=
 if v.k=0 then decide (v.t.toList=[])&&(decide (v.lo=0)&&decide (v.hi=0))&&decide (v.n=0)&&decide (v.i=0)
 else if v.k=1 then decide (v.t.toList=[])&&(decide (v.lo=0)&&decide (v.hi=0))&&decide (v.i=0)&&decide (-999999999999<=v.n)&&decide (v.n<=999999999999)
 else if v.k=2 then (decide (v.lo=0)&&decide (v.hi=0))&&decide (v.n=0)&&decide (v.i=0)&&decide (v.t.size<=120)
 else if v.k=3 then decide (v.t.toList=[])&&decide (v.n=0)&&decide (v.i=0)
 else if v.k=13\/v.k=15\/v.k=16 then decide (v.t.toList=[])&&(decide (v.lo=0)&&decide (v.hi=0))&&decide (0<=v.n)&&decide (0<=v.i)
 else if v.k=14 then decide (v.t.toList=[])&&(decide (v.lo=0)&&decide (v.hi=0))&&decide (v.n=0)&&decide (0<=v.i)
 else if v.k=18 then decide (v.t.toList=[])&&(decide (v.lo=0)&&decide (v.hi=0))&&decide (v.n=0)&&(decide (v.i=1)||decide (v.i=2))
 else if 4<=v.k/\v.k<=12\/v.k=17\/v.k=19\/v.k=20 then decide (v.t.toList=[])&&(decide (v.lo=0)&&decide (v.hi=0))&&decide (v.i=0)&&decide (0<=v.n)
 else false
theorem nV (t:cx) (h:t.toList=[]):t.size=0:=by
 rw[ByteArray.toList_eq]at h
 have:=congrArg List.length h
 simpa using this
theorem wX (n i:Int) (t:cx) (lo hi:Int) (w:World) (ht:t.size<=maxLen) :
  Calls prog 107 #[(cC.mk 0 n i t lo hi).val] w fun e w'=>e=.returned (.bool (dD ⟨0,n,i,t,lo,hi⟩))/\U w w':=by
 exact pq
theorem wY (n i:Int) (t:cx) (lo hi:Int) (w:World) (ht:t.size<=maxLen) :
  Calls prog 107 #[(cC.mk 1 n i t lo hi).val] w fun e w'=>e=.returned (.bool (dD ⟨1,n,i,t,lo,hi⟩))/\U w w':=by
 exact pq
theorem wZ (n i:Int) (t:cx) (lo hi:Int) (w:World) (ht:t.size<=maxLen) :
  Calls prog 107 #[(cC.mk 2 n i t lo hi).val] w fun e w'=>e=.returned (.bool (dD ⟨2,n,i,t,lo,hi⟩))/\U w w':=by
 exact pq
theorem xa (n i:Int) (t:cx) (lo hi:Int) (w:World) (ht:t.size<=maxLen) :
  Calls prog 107 #[(cC.mk 3 n i t lo hi).val] w fun e w'=>e=.returned (.bool (dD ⟨3,n,i,t,lo,hi⟩))/\U w w':=by
 exact pq
theorem xb (n i:Int) (t:cx) (lo hi:Int) (w:World) (ht:t.size<=maxLen) :
  Calls prog 107 #[(cC.mk 4 n i t lo hi).val] w fun e w'=>e=.returned (.bool (dD ⟨4,n,i,t,lo,hi⟩))/\U w w':=by
 exact pq
theorem xc (n i:Int) (t:cx) (lo hi:Int) (w:World) (ht:t.size<=maxLen) :
  Calls prog 107 #[(cC.mk 5 n i t lo hi).val] w fun e w'=>e=.returned (.bool (dD ⟨5,n,i,t,lo,hi⟩))/\U w w':=by
 exact pq
theorem xd (n i:Int) (t:cx) (lo hi:Int) (w:World) (ht:t.size<=maxLen) :
  Calls prog 107 #[(cC.mk 6 n i t lo hi).val] w fun e w'=>e=.returned (.bool (dD ⟨6,n,i,t,lo,hi⟩))/\U w w':=by
 exact pq
theorem xe (n i:Int) (t:cx) (lo hi:Int) (w:World) (ht:t.size<=maxLen) :
  Calls prog 107 #[(cC.mk 7 n i t lo hi).val] w fun e w'=>e=.returned (.bool (dD ⟨7,n,i,t,lo,hi⟩))/\U w w':=by
 exact pq
theorem xf (n i:Int) (t:cx) (lo hi:Int) (w:World) (ht:t.size<=maxLen) :
  Calls prog 107 #[(cC.mk 8 n i t lo hi).val] w fun e w'=>e=.returned (.bool (dD ⟨8,n,i,t,lo,hi⟩))/\U w w':=by
 exact pq
theorem xg (n i:Int) (t:cx) (lo hi:Int) (w:World) (ht:t.size<=maxLen) :
  Calls prog 107 #[(cC.mk 9 n i t lo hi).val] w fun e w'=>e=.returned (.bool (dD ⟨9,n,i,t,lo,hi⟩))/\U w w':=by
 exact pq
theorem uD (n i:Int) (t:cx) (lo hi:Int) (w:World) (ht:t.size<=maxLen) :
  Calls prog 107 #[(cC.mk 10 n i t lo hi).val] w fun e w'=>e=.returned (.bool (dD ⟨10,n,i,t,lo,hi⟩))/\U w w':=by
 exact pq
theorem uE (n i:Int) (t:cx) (lo hi:Int) (w:World) (ht:t.size<=maxLen) :
  Calls prog 107 #[(cC.mk 11 n i t lo hi).val] w fun e w'=>e=.returned (.bool (dD ⟨11,n,i,t,lo,hi⟩))/\U w w':=by
 exact pq
theorem uF (n i:Int) (t:cx) (lo hi:Int) (w:World) (ht:t.size<=maxLen) :
  Calls prog 107 #[(cC.mk 12 n i t lo hi).val] w fun e w'=>e=.returned (.bool (dD ⟨12,n,i,t,lo,hi⟩))/\U w w':=by
 exact pq
theorem uG (n i:Int) (t:cx) (lo hi:Int) (w:World) (ht:t.size<=maxLen) :
  Calls prog 107 #[(cC.mk 13 n i t lo hi).val] w fun e w'=>e=.returned (.bool (dD ⟨13,n,i,t,lo,hi⟩))/\U w w':=by
 exact pq
theorem uH (n i:Int) (t:cx) (lo hi:Int) (w:World) (ht:t.size<=maxLen) :
  Calls prog 107 #[(cC.mk 14 n i t lo hi).val] w fun e w'=>e=.returned (.bool (dD ⟨14,n,i,t,lo,hi⟩))/\U w w':=by
 exact pq
theorem uI (n i:Int) (t:cx) (lo hi:Int) (w:World) (ht:t.size<=maxLen) :
  Calls prog 107 #[(cC.mk 15 n i t lo hi).val] w fun e w'=>e=.returned (.bool (dD ⟨15,n,i,t,lo,hi⟩))/\U w w':=by
 exact pq
theorem uJ (n i:Int) (t:cx) (lo hi:Int) (w:World) (ht:t.size<=maxLen) :
  Calls prog 107 #[(cC.mk 16 n i t lo hi).val] w fun e w'=>e=.returned (.bool (dD ⟨16,n,i,t,lo,hi⟩))/\U w w':=by
 exact pq
theorem uK (n i:Int) (t:cx) (lo hi:Int) (w:World) (ht:t.size<=maxLen) :
  Calls prog 107 #[(cC.mk 17 n i t lo hi).val] w fun e w'=>e=.returned (.bool (dD ⟨17,n,i,t,lo,hi⟩))/\U w w':=by
 exact pq
theorem uL (n i:Int) (t:cx) (lo hi:Int) (w:World) (ht:t.size<=maxLen) :
  Calls prog 107 #[(cC.mk 18 n i t lo hi).val] w fun e w'=>e=.returned (.bool (dD ⟨18,n,i,t,lo,hi⟩))/\U w w':=by
 exact pq
theorem uM (n i:Int) (t:cx) (lo hi:Int) (w:World) (ht:t.size<=maxLen) :
  Calls prog 107 #[(cC.mk 19 n i t lo hi).val] w fun e w'=>e=.returned (.bool (dD ⟨19,n,i,t,lo,hi⟩))/\U w w':=by
 exact pq
theorem uN (n i:Int) (t:cx) (lo hi:Int) (w:World) (ht:t.size<=maxLen) :
  Calls prog 107 #[(cC.mk 20 n i t lo hi).val] w fun e w'=>e=.returned (.bool (dD ⟨20,n,i,t,lo,hi⟩))/\U w w':=by
 exact pq
theorem uO (k:Int) (hk:k<0) (n i:Int) (t:cx) (lo hi:Int) (w:World) (ht:t.size<=maxLen) :
  Calls prog 107 #[(cC.mk k n i t lo hi).val] w fun e w'=>e=.returned (.bool (dD ⟨k,n,i,t,lo,hi⟩))/\U w w':=by
 exact pq
theorem uP (k:Int) (hk:20<k) (n i:Int) (t:cx) (lo hi:Int) (w:World) (ht:t.size<=maxLen) :
  Calls prog 107 #[(cC.mk k n i t lo hi).val] w fun e w'=>e=.returned (.bool (dD ⟨k,n,i,t,lo,hi⟩))/\U w w':=by
 exact pq
theorem pt (k:Int):k=0\/k=1\/k=2\/k=3\/k=4\/k=5\/k=6\/k=7\/k=8\/k=9\/k=10\/k=11\/k=12\/k=13\/k=14\/k=15\/k=16\/k=17\/k=18\/k=19\/k=20\/k<0\/20<k:=by omega
theorem cH (v:cC) (w:World) (hv:v.Ok):Calls prog 107 #[v.val] w fun e w'=>e=.returned (.bool (dD v))/\U w w':=by
 have ht:=hv.t
 obtain⟨k,n,i,t,lo,hi⟩:=v
 rcases pt k with rfl | rfl | rfl | rfl | rfl | rfl | rfl | rfl | rfl | rfl | rfl | rfl | rfl | rfl | rfl | rfl | rfl | rfl | rfl | rfl | rfl | h | h
 ·
  exact wX n i t lo hi w ht
 ·
  exact wY n i t lo hi w ht
 ·
  exact wZ n i t lo hi w ht
 ·
  exact xa n i t lo hi w ht
 ·
  exact xb n i t lo hi w ht
 ·
  exact xc n i t lo hi w ht
 ·
  exact xd n i t lo hi w ht
 ·
  exact xe n i t lo hi w ht
 ·
  exact xf n i t lo hi w ht
 ·
  exact xg n i t lo hi w ht
 ·
  exact uD n i t lo hi w ht
 ·
  exact uE n i t lo hi w ht
 ·
  exact uF n i t lo hi w ht
 ·
  exact uG n i t lo hi w ht
 ·
  exact uH n i t lo hi w ht
 ·
  exact uI n i t lo hi w ht
 ·
  exact uJ n i t lo hi w ht
 ·
  exact uK n i t lo hi w ht
 ·
  exact uL n i t lo hi w ht
 ·
  exact uM n i t lo hi w ht
 ·
  exact uN n i t lo hi w ht
 ·
  exact uO k h n i t lo hi w ht
 ·
  exact uP k h n i t lo hi w ht
theorem xj (n i:Int) (t:cx) (lo hi:Int) (w:World) (ht:t.size<=maxLen) :
  Calls prog 83 #[(cC.mk 0 n i t lo hi).val] w fun e w'=>e=.returned (.bool (dD ⟨0,n,i,t,lo,hi⟩))/\U w w':=by
 exact pv
theorem xm (n i:Int) (t:cx) (lo hi:Int) (w:World) (ht:t.size<=maxLen) :
  Calls prog 83 #[(cC.mk 1 n i t lo hi).val] w fun e w'=>e=.returned (.bool (dD ⟨1,n,i,t,lo,hi⟩))/\U w w':=by
 exact pv
theorem xo (n i:Int) (t:cx) (lo hi:Int) (w:World) (ht:t.size<=maxLen) :
  Calls prog 83 #[(cC.mk 2 n i t lo hi).val] w fun e w'=>e=.returned (.bool (dD ⟨2,n,i,t,lo,hi⟩))/\U w w':=by
 exact pv
theorem xp (n i:Int) (t:cx) (lo hi:Int) (w:World) (ht:t.size<=maxLen) :
  Calls prog 83 #[(cC.mk 3 n i t lo hi).val] w fun e w'=>e=.returned (.bool (dD ⟨3,n,i,t,lo,hi⟩))/\U w w':=by
 exact pv
theorem xq (n i:Int) (t:cx) (lo hi:Int) (w:World) (ht:t.size<=maxLen) :
  Calls prog 83 #[(cC.mk 4 n i t lo hi).val] w fun e w'=>e=.returned (.bool (dD ⟨4,n,i,t,lo,hi⟩))/\U w w':=by
 exact pv
theorem xr (n i:Int) (t:cx) (lo hi:Int) (w:World) (ht:t.size<=maxLen) :
  Calls prog 83 #[(cC.mk 5 n i t lo hi).val] w fun e w'=>e=.returned (.bool (dD ⟨5,n,i,t,lo,hi⟩))/\U w w':=by
 exact pv
theorem xu (n i:Int) (t:cx) (lo hi:Int) (w:World) (ht:t.size<=maxLen) :
  Calls prog 83 #[(cC.mk 6 n i t lo hi).val] w fun e w'=>e=.returned (.bool (dD ⟨6,n,i,t,lo,hi⟩))/\U w w':=by
 exact pv
theorem xv (n i:Int) (t:cx) (lo hi:Int) (w:World) (ht:t.size<=maxLen) :
  Calls prog 83 #[(cC.mk 7 n i t lo hi).val] w fun e w'=>e=.returned (.bool (dD ⟨7,n,i,t,lo,hi⟩))/\U w w':=by
 exact pv
theorem xw (n i:Int) (t:cx) (lo hi:Int) (w:World) (ht:t.size<=maxLen) :
  Calls prog 83 #[(cC.mk 8 n i t lo hi).val] w fun e w'=>e=.returned (.bool (dD ⟨8,n,i,t,lo,hi⟩))/\U w w':=by
 exact pv
theorem xy (n i:Int) (t:cx) (lo hi:Int) (w:World) (ht:t.size<=maxLen) :
  Calls prog 83 #[(cC.mk 9 n i t lo hi).val] w fun e w'=>e=.returned (.bool (dD ⟨9,n,i,t,lo,hi⟩))/\U w w':=by
 exact pv
theorem uQ (n i:Int) (t:cx) (lo hi:Int) (w:World) (ht:t.size<=maxLen) :
  Calls prog 83 #[(cC.mk 10 n i t lo hi).val] w fun e w'=>e=.returned (.bool (dD ⟨10,n,i,t,lo,hi⟩))/\U w w':=by
 exact pv
theorem uR (n i:Int) (t:cx) (lo hi:Int) (w:World) (ht:t.size<=maxLen) :
  Calls prog 83 #[(cC.mk 11 n i t lo hi).val] w fun e w'=>e=.returned (.bool (dD ⟨11,n,i,t,lo,hi⟩))/\U w w':=by
 exact pv
theorem uS (n i:Int) (t:cx) (lo hi:Int) (w:World) (ht:t.size<=maxLen) :
  Calls prog 83 #[(cC.mk 12 n i t lo hi).val] w fun e w'=>e=.returned (.bool (dD ⟨12,n,i,t,lo,hi⟩))/\U w w':=by
 exact pv
theorem uT (n i:Int) (t:cx) (lo hi:Int) (w:World) (ht:t.size<=maxLen) :
  Calls prog 83 #[(cC.mk 13 n i t lo hi).val] w fun e w'=>e=.returned (.bool (dD ⟨13,n,i,t,lo,hi⟩))/\U w w':=by
 exact pv
theorem uU (n i:Int) (t:cx) (lo hi:Int) (w:World) (ht:t.size<=maxLen) :
  Calls prog 83 #[(cC.mk 14 n i t lo hi).val] w fun e w'=>e=.returned (.bool (dD ⟨14,n,i,t,lo,hi⟩))/\U w w':=by
 exact pv
theorem uV (n i:Int) (t:cx) (lo hi:Int) (w:World) (ht:t.size<=maxLen) :
  Calls prog 83 #[(cC.mk 15 n i t lo hi).val] w fun e w'=>e=.returned (.bool (dD ⟨15,n,i,t,lo,hi⟩))/\U w w':=by
 exact pv
theorem uW (n i:Int) (t:cx) (lo hi:Int) (w:World) (ht:t.size<=maxLen) :
  Calls prog 83 #[(cC.mk 16 n i t lo hi).val] w fun e w'=>e=.returned (.bool (dD ⟨16,n,i,t,lo,hi⟩))/\U w w':=by
 exact pv
theorem uX (n i:Int) (t:cx) (lo hi:Int) (w:World) (ht:t.size<=maxLen) :
  Calls prog 83 #[(cC.mk 17 n i t lo hi).val] w fun e w'=>e=.returned (.bool (dD ⟨17,n,i,t,lo,hi⟩))/\U w w':=by
 exact pv
theorem uY (n i:Int) (t:cx) (lo hi:Int) (w:World) (ht:t.size<=maxLen) :
  Calls prog 83 #[(cC.mk 18 n i t lo hi).val] w fun e w'=>e=.returned (.bool (dD ⟨18,n,i,t,lo,hi⟩))/\U w w':=by
 exact pv
theorem uZ (n i:Int) (t:cx) (lo hi:Int) (w:World) (ht:t.size<=maxLen) :
  Calls prog 83 #[(cC.mk 19 n i t lo hi).val] w fun e w'=>e=.returned (.bool (dD ⟨19,n,i,t,lo,hi⟩))/\U w w':=by
 exact pv
theorem va (n i:Int) (t:cx) (lo hi:Int) (w:World) (ht:t.size<=maxLen) :
  Calls prog 83 #[(cC.mk 20 n i t lo hi).val] w fun e w'=>e=.returned (.bool (dD ⟨20,n,i,t,lo,hi⟩))/\U w w':=by
 exact pv
theorem vc (k:Int) (hk:k<0) (n i:Int) (t:cx) (lo hi:Int) (w:World) (ht:t.size<=maxLen) :
  Calls prog 83 #[(cC.mk k n i t lo hi).val] w fun e w'=>e=.returned (.bool (dD ⟨k,n,i,t,lo,hi⟩))/\U w w':=by
 exact pv
theorem vd (k:Int) (hk:20<k) (n i:Int) (t:cx) (lo hi:Int) (w:World) (ht:t.size<=maxLen) :
  Calls prog 83 #[(cC.mk k n i t lo hi).val] w fun e w'=>e=.returned (.bool (dD ⟨k,n,i,t,lo,hi⟩))/\U w w':=by
 exact pv
theorem jo (v:cC) (w:World) (hv:v.Ok):Calls prog 83 #[v.val] w fun e w'=>e=.returned (.bool (dD v))/\U w w':=by
 have ht:=hv.t
 obtain⟨k,n,i,t,lo,hi⟩:=v
 rcases pt k with rfl | rfl | rfl | rfl | rfl | rfl | rfl | rfl | rfl | rfl | rfl | rfl | rfl | rfl | rfl | rfl | rfl | rfl | rfl | rfl | rfl | h | h
 ·
  exact xj n i t lo hi w ht
 ·
  exact xm n i t lo hi w ht
 ·
  exact xo n i t lo hi w ht
 ·
  exact xp n i t lo hi w ht
 ·
  exact xq n i t lo hi w ht
 ·
  exact xr n i t lo hi w ht
 ·
  exact xu n i t lo hi w ht
 ·
  exact xv n i t lo hi w ht
 ·
  exact xw n i t lo hi w ht
 ·
  exact xy n i t lo hi w ht
 ·
  exact uQ n i t lo hi w ht
 ·
  exact uR n i t lo hi w ht
 ·
  exact uS n i t lo hi w ht
 ·
  exact uT n i t lo hi w ht
 ·
  exact uU n i t lo hi w ht
 ·
  exact uV n i t lo hi w ht
 ·
  exact uW n i t lo hi w ht
 ·
  exact uX n i t lo hi w ht
 ·
  exact uY n i t lo hi w ht
 ·
  exact uZ n i t lo hi w ht
 ·
  exact va n i t lo hi w ht
 ·
  exact vc k h n i t lo hi w ht
 ·
  exact vd k h n i t lo hi w ht
theorem sP (lo hi:Int) (b:Nat) (w:World) (hb:b<256) :
  Calls prog 147 #[.agg #[.int .i64 lo,.int .i64 hi],.int .u8 b] w fun e w'=>e=.returned (.bool (sB lo hi b))/\U w w':=by
 have B1:=I (Ko lo b)
 have B2:=I (Ko hi (b - 64))
 go_enter func147,ntmps147
 exact WM
theorem sQ (lo hi:Int) (b:Nat) (w:World) (hb:b<256) :
  Calls prog 146 #[.agg #[.int .i64 lo,.int .i64 hi],.int .u8 b] w fun e w'=>e=.returned (.bool (sB lo hi b))/\U w w':=by
 have B1:=I (DF lo b)
 have B2:=I (DF hi (b - 64))
 go_enter func146,ntmps146
 exact WM
end Go.Proofs.YtjngkknbpfgdcaaGreatDoor
