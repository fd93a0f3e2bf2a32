/- The cursor over the bytes of a draw: l1New, l1Byte, l1Below. -/
import Derived.Test.YtoikhhnmbbbjjaaDoorPr
import Derived.Test.YtoikhhnmbbbjjaaDoorPB
import Derived.Laws.BitsAllLaws
import Derived.Deep.Cut
import Derived.Laws.IdiomStrings
import Derived.Lib.BufferRead
import Derived.Test.YtoikhhnmbbbjjaaDoorPBox
import Derived.Deep.Slices
namespace Go.Proofs.YtoikhhnmbbbjjaaDoor
set_option linter.unusedVariables false
set_option linter.unusedSimpArgs false
set_option maxRecDepth 100000
open Go.RowKit
structure Oth (c:Nat) (w w':World):Prop where
 os:w'.os=w.os
 tape:w'.tape=w.tape
 output:w'.output=w.output
 size:w.heap.size≤w'.heap.size
 block:∀k,k<w.heap.size→k≠c→w'.heap[k]?=w.heap[k]?
namespace Oth
theorem refl (c:Nat) (w:World):Oth c w w:=⟨rfl,rfl,rfl,Nat.le_refl _,fun _ _ _=>rfl⟩
theorem of_bel {c:Nat} {w w':World} (h:Bel w w'):Oth c w w':=⟨h.os,h.tape,h.output,Bel.size h,fun k hk _=>Below.block h k hk⟩
theorem trans {c:Nat} {a b d:World} (h:Oth c a b) (k:Oth c b d):Oth c a d :=
 ⟨k.os.trans h.os,k.tape.trans h.tape,k.output.trans h.output,Nat.le_trans h.size k.size,fun i hi hc=>(k.block i (Nat.lt_of_lt_of_le hi h.size) hc).trans (h.block i hi hc)⟩
theorem drew {c:Nat} {a b:World} (h:Oth c a b):Oth c a b.drew:=⟨h.os,h.tape,h.output,h.size,h.block⟩
theorem drewN {c:Nat} {a b:World} (h:Oth c a b) (n:Nat):Oth c a (b.drewN n):=⟨h.os,h.tape,h.output,h.size,h.block⟩
theorem bel {c:Nat} {w w0 w':World} (h:Bel w w0) (k:Oth c w0 w') (hc:w.heap.size≤c):Bel w w' :=
 ⟨k.os.trans h.os,k.tape.trans h.tape,k.output.trans h.output,Nat.le_trans (Bel.size h) k.size,fun i hi=>(k.block i (Nat.lt_of_lt_of_le hi (Bel.size h)) (by omega)).trans (Below.block h i hi)⟩
theorem set {c:Nat} {a b:World} (h:Oth c a b) (o:Nat) (v:Value):Oth c a (b.setCell ⟨c,o,none⟩ v):=by
 have hb:Below c b (b.setCell ⟨c,o,none⟩ v):=Below.setCell (Below.refl c b) (Nat.le_refl c) v
 refine h.trans ⟨hb.os,hb.tape,hb.output,hb.size,fun k hk hc=>?_⟩
 unfold World.setCell
 split
 all_goals
  show (b.heap.modify c _)[k]?=_
  rw[Array.getElem?_modify,if_neg (Ne.symm hc)]
theorem cell {c:Nat} {w w':World} (h:Oth c w w') {b o:Nat} (hb:b<w.heap.size) (hc:b≠c):w'.cell? ⟨b,o,none⟩=w.cell? ⟨b,o,none⟩:=by
 unfold World.cell?
 rw[h.block b hb hc]
theorem frozen {c:Nat} {w w':World} (h:Oth c w w') {b o:Nat} (hb:b<w.heap.size) (hc:b≠c):w'.frozen? ⟨b,o,none⟩=w.frozen? ⟨b,o,none⟩:=by
 unfold World.frozen?
 rw[h.block b hb hc]
end Oth
def Bts (w:World) (c:Nat) (A:Option Addr) (n:Nat):Prop :=
 n≤1048576∧(0<n→∃b o,A=some ⟨b,o,none⟩∧b<w.heap.size∧b≠c∧∀j,j<n→∃x:Nat,x<256∧w.cell? ⟨b,o+j,none⟩=some (.int .u8 (x:Int)))
theorem Bts.on {w w':World} {c:Nat} {A:Option Addr} {n:Nat} (h:Bts w c A n) (k:Oth c w w'):Bts w' c A n:=by
 refine⟨h.1,fun hn=>?_⟩
 obtain⟨b,o,hA,hb,hc,hj⟩:=h.2 hn
 refine⟨b,o,hA,Nat.lt_of_lt_of_le hb k.size,hc,fun j hl=>?_⟩
 obtain⟨x,hx,hcell⟩:=hj j hl
 exact⟨x,hx,(k.cell hb hc).trans hcell⟩
def Cur (w:World) (c:Nat) (A:Option Addr) (n cap:Nat):Prop :=
 c<w.heap.size∧(∀o,w.frozen? ⟨c,o,none⟩=false)∧Bts w c A n∧∃(i:Nat) (h:Int),i≤n∧w.cell? ⟨c,0,none⟩=some (.slice A n cap)∧w.cell? ⟨c,1,none⟩=some (.int .i64 i)∧w.cell? ⟨c,2,none⟩=some (.int .i64 h)
theorem Cur.bel {w w':World} {c:Nat} {A:Option Addr} {n cap:Nat} (h:Cur w c A n cap) (k:Bel w w'):Cur w' c A n cap:=by
 obtain⟨l,f,hB,i,x,hi,c0,c1,c2⟩:=h
 exact⟨Nat.lt_of_lt_of_le l (Bel.size k),fun o=>(k.boxf c l o).trans (f o),hB.on (Oth.of_bel k),i,x,hi,(k.box c l 0).trans c0,(k.box c l 1).trans c1,(k.box c l 2).trans c2⟩
theorem and255 (y:Int):0≤bits .and .i64 y 255∧bits .and .i64 y 255≤255:=by
 show 0≤IntKind.i64.wrap ((BitVec.ofInt 64 y &&& BitVec.ofInt 64 255).toNat:Int)∧IntKind.i64.wrap ((BitVec.ofInt 64 y &&& BitVec.ofInt 64 255).toNat:Int)≤255
 have h:(BitVec.ofInt 64 y &&& BitVec.ofInt 64 255).toNat≤255:=by
  rw[BitVec.toNat_and]
  exact Nat.le_trans Nat.and_le_right (by decide)
 generalize (BitVec.ofInt 64 y &&& BitVec.ofInt 64 255).toNat=m at h
 rw[IntKind.wrap_i64]
 omega
def Drew (w:World) (c:Nat) (A:Option Addr) (n cap:Nat) (lo hi:Int) (e:Ending) (w':World):Prop :=
 ∃x:Int,lo≤x∧x≤hi∧e=.returned (.int .i64 x)∧Cur w' c A n cap∧Oth c w w'
set_option maxHeartbeats 1000000 in
theorem l1New_any (A:Option Addr) (n cap:Nat) (w:World) (hn:n≤1048576) (hB:∀c,w.heap.size≤c→Bts w c A n) :
  Calls Tryd.prog 25 #[.slice A n cap] w fun e w'=>e=.returned (.pointer (some ⟨w.heap.size,0,none⟩))∧Cur w' w.heap.size A n cap∧Bel w w':=by
 have HB:=hide hB
 clear hB
 go_enter Tryd.func25,Tryd.ntmps25
 go_wp2_with (fail)
 go_loop [3,4] (fun hv iv=>∃(k:Nat) (h:Int),iv=.int .i64 k∧k≤n∧k≤4000∧hv=.int .i64 h) (fun _ iv=>n - (intOf iv).toNat)
 case atStart=>exact⟨0,_,rfl,by omega,by omega,rfl⟩
 case round =>
  obtain⟨k,h,rfl,k1,k2,rfl⟩:=hrel
  by_cases q:k<n
  ·
   have d1:decide ((k:Int)<(n:Int))=true:=by simp;omega
   by_cases q2:k<4000
   ·
    have d2:decide ((k:Int)<4000)=true:=by simp;omega
    obtain⟨-,hb⟩:=HB.out w.heap.size (Nat.le_refl _)
    obtain⟨b,o,rfl,hb1,hb2,hj⟩:=hb (by omega)
    obtain⟨x,hx,hcell⟩:=hj k q
    clear hj hb
    go_wp2_with (fail)
    go_round
    case rel=>exact⟨k+1,_,rfl,by omega,by omega,rfl⟩
    case measure=>simp[intOf];omega
   ·
    have d2:decide ((k:Int)<4000)=false:=by simp;omega
    exact rk201
  ·
   have d1:decide ((k:Int)<(n:Int))=false:=by simp;omega
   exact rk201
theorem Cur.put {w w':World} {c:Nat} {A:Option Addr} {n cap:Nat} (h:Cur w c A n cap) (k:Oth c w w') (hf:∀o,w'.frozen? ⟨c,o,none⟩=false) (i:Nat) (x:Int) (hi:i≤n) (c0:w'.cell? ⟨c,0,none⟩=some (.slice A n cap)) (c1:w'.cell? ⟨c,1,none⟩=some (.int .i64 i)) (c2:w'.cell? ⟨c,2,none⟩=some (.int .i64 x)):Cur w' c A n cap :=
 ⟨Nat.lt_of_lt_of_le h.1 k.size,hf,h.2.2.1.on k,i,x,hi,c0,c1,c2⟩
set_option maxHeartbeats 2000000 in
theorem l1Byte_any (c:Nat) (A:Option Addr) (n cap:Nat) (w:World) (hc:Cur w c A n cap) :
  Calls Tryd.prog 72 #[.pointer (some ⟨c,0,none⟩)] w (Drew w c A n cap 0 255):=by
 have HC:=hide hc
 obtain⟨l,f,hB,i,h,hi,c0,c1,c2⟩:=hc
 have HB:=hide hB
 clear hB
 by_cases q:i<n
 ·
  obtain⟨hn,hb⟩:=HB.out
  obtain⟨b,o,hA,hb1,hb2,hj⟩:=hb (by omega)
  subst hA
  obtain⟨x,hx,hcell⟩:=hj i q
  clear hj hb
  have d1:decide ((i:Int)<(n:Int))=true:=by simp;omega
  have i0:0≤(i:Int):=by omega
  have i1:(i:Int)<(n:Int):=by omega
  have hcb:c≠b:=Ne.symm hb2
  go_enter Tryd.func72,Tryd.ntmps72
  go_wp2_with (fail)
  go_quiet (fail)
  go_wp2_with (fail)
  go_quiet (fail)
  go_wp2_with (fail)
  go_quiet (fail)
  go_wp2_with (fail)
  all_goals
   go_returns
   exact⟨_,(and255 _).1,(and255 _).2,rfl,HC.out.put (by repeat' (first | exact Oth.refl _ _ | refine Oth.drewN ?_ _ | refine Oth.drew ?_ | refine Oth.set ?_ _ _)) (fun o=>by simp[f]) (i+1) (wrap64 (wrap64 (h*6364136223846793005)+1442695040888963407)) (by omega) (by simp[c0,go_sem]) (by simp[c1,go_sem]) (by simp[c2,go_sem]),(by repeat' (first | exact Oth.refl _ _ | refine Oth.drewN ?_ _ | refine Oth.drew ?_ | refine Oth.set ?_ _ _))⟩
 ·
  have d1:decide ((i:Int)<(n:Int))=false:=by simp;omega
  go_enter Tryd.func72,Tryd.ntmps72
  go_wp2_with (fail)
  go_quiet (fail)
  go_wp2_with (fail)
  go_quiet (fail)
  go_wp2_with (fail)
  all_goals
   go_returns
   exact⟨_,(and255 _).1,(and255 _).2,rfl,HC.out.put (by repeat' (first | exact Oth.refl _ _ | refine Oth.drewN ?_ _ | refine Oth.drew ?_ | refine Oth.set ?_ _ _)) (fun o=>by simp[f]) i (wrap64 (wrap64 (h*6364136223846793005)+1442695040888963407)) (by omega) (by simp[c0,go_sem]) (by simp[c1,go_sem]) (by simp[c2,go_sem]),(by repeat' (first | exact Oth.refl _ _ | refine Oth.drewN ?_ _ | refine Oth.drew ?_ | refine Oth.set ?_ _ _))⟩
theorem Drew.mono {w:World} {c:Nat} {A:Option Addr} {n cap:Nat} {lo hi lo' hi':Int} {e:Ending} {w':World} (h:Drew w c A n cap lo hi e w') (h1:lo'≤lo) (h2:hi≤hi'):Drew w c A n cap lo' hi' e w':=by
 obtain⟨x,a,b,r⟩:=h
 exact⟨x,by omega,by omega,r⟩
def belowHi (m:Int):Int:=if m≤0 then 0 else m - 1
theorem tmod_belowHi {x m:Int} (hx:0≤x) (hm:0<m):0≤x.tmod m∧x.tmod m≤belowHi m:=by
 rw[Int.tmod_eq_emod_of_nonneg hx]
 have h1:=Int.emod_nonneg x (show m≠0 by omega)
 have h2:=Int.emod_lt_of_pos x hm
 unfold belowHi
 rw[if_neg (by omega)]
 omega
set_option maxHeartbeats 2000000 in
theorem l1Below_any (m:Int) (c:Nat) (A:Option Addr) (n cap:Nat) (w:World) (hc:Cur w c A n cap) (hm:InI m) :
  Calls Tryd.prog 50 #[.pointer (some ⟨c,0,none⟩),.int .i64 m] w (Drew w c A n cap 0 (belowHi m)):=by
 unfold InI at hm
 have HC:=hide hc
 clear hc
 by_cases h0:m≤0
 ·
  have hF:=hide (show belowHi m=0 by unfold belowHi;rw[if_pos h0])
  go_enter Tryd.func50,Tryd.ntmps50
  go_wp2_with (fail)
  all_goals
   go_returns
   exact⟨0,by omega,by rw[hF.out];omega,rfl,HC.out,Oth.refl _ _⟩
 have e0:¬m=0:=by omega
 have e00:(m==0)=false:=by simp[e0]
 by_cases h1:m≤256
 ·
  go_enter Tryd.func50,Tryd.ntmps50
  go_wp2_with (go_at_call 72;refine (l1Byte_any c A n cap _ HC.out).mono ?_;rintro e w1 ⟨x,x1,x2,rfl,hC1,hO1⟩;have HC1:=hide hC1;have HO1:=hide hO1;clear hC1 hO1;have hR:=hide (tmod_belowHi x1 (show 0<m by omega)))
  all_goals
   go_returns
   have hR:=hR.out
   rw[Int.tmod_eq_emod_of_nonneg (by omega)]at hR
   exact⟨_,hR.1,hR.2,rfl,HC1.out,HO1.out⟩
 ·
  go_enter Tryd.func50,Tryd.ntmps50
  go_upto_region 6 with (go_at_call 72;refine (l1Byte_any c A n cap _ HC.out).mono ?_;rintro e w1 ⟨x,x1,x2,rfl,hC1,hO1⟩;have HC1:=hide hC1;have HO1:=hide hO1;clear hC1 hO1)
  go_upto_region 7 with (go_at_call 72;refine (l1Byte_any c A n cap _ HC1.out).mono ?_;rintro e w2 ⟨y,y1,y2,rfl,hC2,hO2⟩;have HC2:=hide hC2;have HO2:=hide hO2;clear hC2 hO2)
  go_upto_region 8 with (go_at_call 72;refine (l1Byte_any c A n cap _ HC2.out).mono ?_;rintro e w3 ⟨z,z1,z2,rfl,hC3,hO3⟩;have HC3:=hide hC3;have HO3:=hide hO3;clear hC3 hO3)
  go_upto_region 9 with (go_at_call 72;refine (l1Byte_any c A n cap _ HC3.out).mono ?_;rintro e w4 ⟨u,v1,v2,rfl,hC4,hO4⟩;have HC4:=hide hC4;have HO4:=hide hO4;clear hC4 hO4)
  have hR:=hide (tmod_belowHi (x:=x*16777216+y*65536+z*256+u) (m:=m) (by omega) (by omega))
  go_wp2_with (fail)
  all_goals
   go_returns
   have hR:=hR.out
   rw[Int.tmod_eq_emod_of_nonneg (by omega)]at hR
   exact⟨_,hR.1,hR.2,rfl,HC4.out,((HO1.out.trans HO2.out).trans HO3.out).trans HO4.out⟩
end Go.Proofs.YtoikhhnmbbbjjaaDoor
namespace Go.Proofs.YtoikhhnmbbbjjaaDoor
set_option linter.unusedVariables false
set_option linter.unusedSimpArgs false
set_option maxRecDepth 100000
open Go.RowKit
def DrewI (w:World) (c:Nat) (A:Option Addr) (n cap:Nat) (e:Ending) (w':World):Prop :=
 ∃x:Int,InI x∧e=.returned (.int .i64 x)∧Cur w' c A n cap∧Oth c w w'
def DrewQ (w:World) (c:Nat) (A:Option Addr) (n cap:Nat) (e:Ending) (w':World):Prop :=
 ∃x:Bool,e=.returned (.bool x)∧Cur w' c A n cap∧Oth c w w'
def DrewT (w:World) (c:Nat) (A:Option Addr) (n cap m:Nat) (e:Ending) (w':World):Prop :=
 ∃x:ByteArray,x.size≤m∧e=.returned (.string x)∧Cur w' c A n cap∧Oth c w w'
set_option maxHeartbeats 400000 in
theorem l1Once_any (m:Int) (c:Nat) (A:Option Addr) (n cap:Nat) (w:World) (hc:Cur w c A n cap) (hm:InI m) :
  Calls Tryd.prog 27 #[.pointer (some ⟨c,0,none⟩),.int .i64 m] w (DrewQ w c A n cap):=by
 have HC:=hide hc
 clear hc
 go_enter Tryd.func27,Tryd.ntmps27
 go_wp2_with (go_at_call 50;refine (l1Below_any m c A n cap _ HC.out hm).mono ?_;rintro e w1 ⟨x,x1,x2,rfl,hC1,hO1⟩;have HC1:=hide hC1;have HO1:=hide hO1;clear hC1 hO1)
 all_goals
  go_returns
  exact⟨_,rfl,HC1.out,HO1.out⟩
def RowI (w:World) (g:Nat) (m:Nat):Prop:=g<w.heap.size∧∀j,j<m→∃x:Int,InI x∧w.cell? ⟨g,j,none⟩=some (.int .i64 x)
theorem RowI.on {w w':World} {c g m:Nat} (h:RowI w g m) (k:Oth c w w') (hg:g≠c):RowI w' g m :=
 ⟨Nat.lt_of_lt_of_le h.1 k.size,fun j hj=>by obtain⟨x,hx,hc⟩:=h.2 j hj;exact⟨x,hx,(k.cell h.1 hg).trans hc⟩⟩
theorem rowI_new {w:World} {t:TypeId} (xs:List Int) (h:xs.all (fun x=>decide (-9223372036854775808≤x)&&decide (x≤9223372036854775807))=true):RowI (w.alloc (.cells (xs.map (Value.int .i64)).toArray t)) w.heap.size xs.length:=by
 refine⟨by simp,fun j hj=>⟨xs[j],?_,?_⟩⟩
 ·
  have:=List.all_eq_true.1 h xs[j] (List.getElem_mem hj)
  simpa[InI]using this
 ·
  exact rk208
set_option maxHeartbeats 400000 in
theorem l1PickInt_any (g m cap':Nat) (c:Nat) (A:Option Addr) (n cap:Nat) (w:World) (hc:Cur w c A n cap) (hr:RowI w g m) (hg:g≠c) (h0:0<m) (h1:m≤1000) :
  Calls Tryd.prog 52 #[.pointer (some ⟨c,0,none⟩),.slice (some ⟨g,0,none⟩) m cap'] w (DrewI w c A n cap):=by
 have HC:=hide hc
 have HR:=hide hr
 clear hc hr
 have hb:=hide (show belowHi (m:Int)=m - 1 by unfold belowHi;rw[if_neg (by omega)])
 go_enter Tryd.func52,Tryd.ntmps52
 exact rk153
set_option maxHeartbeats 1000000 in
theorem l1Whole_any (c:Nat) (A:Option Addr) (n cap:Nat) (w:World) (hc:Cur w c A n cap) :
  Calls Tryd.prog 76 #[.pointer (some ⟨c,0,none⟩)] w (DrewI w c A n cap):=by
 have HC:=hide hc
 have hlt:=hc.1
 clear hc
 go_enter Tryd.func76,Tryd.ntmps76
 go_upto_region 2 with (go_at_call 50;refine (l1Below_any 3 c A n cap _ HC.out (by unfold InI;omega)).mono ?_;rintro e w1 ⟨x,x1,x2,rfl,hC1,hO1⟩;have HC1:=hide hC1;have HO1:=hide hO1;clear hC1 hO1)
 have hsz:=HO1.out.size
 rcases (show x=0∨x=1∨x=2 by have:belowHi 3=2:=rfl;omega)with rfl | rfl | rfl
 ·
  go_wp2_with (go_at_call 52;refine (l1PickInt_any w1.heap.size 12 12 c A n cap _ (HC1.out.bel bl) (rowI_new [0,1,-1,9,10,999999,1000000,999999999999,1000000000000,-999999999999,9223372036854775807,-9223372036854775808] (by decide)) (by have:=HC1.out.1;omega) (by omega) (by omega)).mono ?_;rintro e w2 ⟨y,hy,rfl,hC2,hO2⟩;have HC2:=hide hC2;have HO2:=hide hO2;have hy':=hide hy;clear hC2 hO2 hy)
  all_goals
   go_returns
   exact⟨_,hy'.out,rfl,HC2.out,HO1.out.trans (Oth.trans (Oth.of_bel bl) HO2.out)⟩
 ·
  go_wp2_with (go_at_call 50;refine (l1Below_any 1000000 c A n cap _ HC1.out (by unfold InI;omega)).mono ?_;rintro e w2 ⟨y,y1,y2,rfl,hC2,hO2⟩;have HC2:=hide hC2;have HO2:=hide hO2;clear hC2 hO2;have y3:y≤999999:=y2;clear y2)
  all_goals
   go_returns
   exact⟨_,by unfold InI;omega,rfl,HC2.out,HO1.out.trans HO2.out⟩
 ·
  go_wp2_with (go_at_call 50;refine (l1Below_any 20 c A n cap _ HC1.out (by unfold InI;omega)).mono ?_;rintro e w2 ⟨y,y1,y2,rfl,hC2,hO2⟩;have HC2:=hide hC2;have HO2:=hide hO2;clear hC2 hO2;have y3:y≤19:=y2;clear y2)
  all_goals
   go_returns
   exact⟨_,by unfold InI;omega,rfl,HC2.out,HO1.out.trans HO2.out⟩
end Go.Proofs.YtoikhhnmbbbjjaaDoor
namespace Go.Proofs.YtoikhhnmbbbjjaaDoor
set_option linter.unusedVariables false
set_option linter.unusedSimpArgs false
set_option maxRecDepth 100000
open Go.RowKit
def RowT (w:World) (g:Nat) (m K:Nat):Prop:=g<w.heap.size∧∀j,j<m→∃x:ByteArray,x.size≤K∧w.cell? ⟨g,j,none⟩=some (.string x)
theorem RowT.on {w w':World} {c g m K:Nat} (h:RowT w g m K) (k:Oth c w w') (hg:g≠c):RowT w' g m K :=
 ⟨Nat.lt_of_lt_of_le h.1 k.size,fun j hj=>by obtain⟨x,hx,hc⟩:=h.2 j hj;exact⟨x,hx,(k.cell h.1 hg).trans hc⟩⟩
theorem rowT_new {w:World} {t:TypeId} (K:Nat) (xs:List ByteArray) (h:xs.all (fun x=>decide (x.size≤K))=true):RowT (w.alloc (.cells (xs.map Value.string).toArray t)) w.heap.size xs.length K:=by
 refine⟨by simp,fun j hj=>⟨xs[j],?_,?_⟩⟩
 ·
  have:=List.all_eq_true.1 h xs[j] (List.getElem_mem hj)
  simpa using this
 ·
  exact rk208
set_option maxHeartbeats 400000 in
theorem l1Pick_any (g m K cap':Nat) (c:Nat) (A:Option Addr) (n cap:Nat) (w:World) (hc:Cur w c A n cap) (hr:RowT w g m K) (hg:g≠c) (h0:0<m) (h1:m≤1000) :
  Calls Tryd.prog 49 #[.pointer (some ⟨c,0,none⟩),.slice (some ⟨g,0,none⟩) m cap'] w (DrewT w c A n cap K):=by
 have HC:=hide hc
 have HR:=hide hr
 clear hc hr
 have hb:=hide (show belowHi (m:Int)=m - 1 by unfold belowHi;rw[if_neg (by omega)])
 go_enter Tryd.func49,Tryd.ntmps49
 exact rk153
theorem Tryd.info8p:(Tryd.prog.info? 5).map (fun i=>(i.zero,i.size,i.bytes))=some (some (.int .u8 0),1,1):=by kernel_rfl
theorem pad_text (m:Nat) (pad:Nat) (hp:pad<256) (wr:World) (base:Nat) (v:Value) (h:wr.ownsRow base 5 1 v m (List.replicate m (Value.int .u8 (pad:Int)))) :
  (convert 22 9 v).run Tryd.prog wr=.ok (.string ⟨(List.replicate m (UInt8.ofNat pad)).toArray⟩) wr:=by
 have h':=h
 rcases h.2 with⟨rfl,h0⟩ | ⟨g,cap,cur,rfl,hg⟩
 ·
  have e:m=0:=by simpa using h0
  subst e
  rw[Lib.run_convert_nil_bytes wr 22 9 5 0 Tryd.underlying22 Tryd.underlying5 Tryd.underlying9]
  rfl
 ·
  have hB:=run_convert_bytes_back (P:=Tryd.prog) wr 22 9 5 ⟨g,0,none⟩ cap (List.replicate m (UInt8.ofNat pad)) Tryd.underlying22 Tryd.underlying5 Tryd.underlying9 (fun j hj=>by
   have hj2:j<m:=by simpa using hj
   rw[h'.cells rfl j (.int .u8 (pad:Int)) (by simp[hj2])]
   rw[List.getElem_replicate,UInt8.toNat_ofNat']
   congr 2
   omega)
  rw[List.length_replicate]at hB
  exact hB
set_option maxHeartbeats 2000000 in
theorem l3Pad_any (m:Int) (pad:Nat) (w:World) (h0:0≤m) (h1:m≤200) (hp:pad<256) :
  Calls Tryd.prog 74 #[.int .i64 m,.int .u8 pad] w fun e w'=>e=.returned (.string ⟨(List.replicate m.toNat (UInt8.ofNat pad)).toArray⟩)∧Bel w w':=by
 obtain⟨M,rfl⟩:=Int.eq_ofNat_of_zero_le h0
 rw[Int.toNat_natCast]
 obtain⟨i0,hi0,iz0,iz1,iz2⟩:=info_parts Tryd.info8p
 go_enter Tryd.func74,Tryd.ntmps74
 go_wp2_with (fail)
 go_loopw [5,6] (fun v i wr=>∃k:Nat,i=.int .i64 k∧k≤M∧wr.ownsRow w.heap.size 5 1 v k (List.replicate k (Value.int .u8 (pad:Int)))∧Bel w wr) (fun _ i _=>M - (intOf i).toNat)
 case atStart =>
  have ho:=World.ownsRow_made (base:=w.heap.size) (e:=5) (size:=1) w #[] 0 (by simp) (by decide) rfl
  exact⟨0,rfl,by omega,ho,bl⟩
 case round =>
  obtain⟨k,rfl,hk,hown,hbw⟩:=hrel
  by_cases h:k<M
  ·
   have hd:decide ((k:Int)<(M:Int))=true:=by simp;omega
   go_wp2_with (at_builtin;go_loud (refine wpList_append_own _ rfl _ _ 22 rfl w.heap.size 5 i0 (.int .u8 0) 1 1 Tryd.underlying22 hi0 iz0 iz1 iz2 rfl (by decide) _ _ _ rfl (hown.alloc _) ⟨wr.heap.size,0,none⟩ 1 1 [.int .u8 pad] rfl rfl ?c1 ?c2 ?c3 ?c4 ?c5 ?_))
   case c1 =>
    intro j u hj
    match j,hj with
    | 0,hj=>simp at hj;subst hj;simp[Addr.add]
   case c2=>intro u hu;simp at hu;subst hu;rfl
   case c3=>unfold maxLen;omega
   case c4=>omega
   case c5=>have:=hbw.size;simp;omega
   intro v' w2 hown2 hgrow _
   have hbw2:Bel w w2:=Below.grown (Bel.alloc hbw _) hgrow (by have:=hbw.size;simp;omega) (fun q hq=>by have:=(hown.lt q hq).1;omega)
   have hown3:w2.ownsRow w.heap.size 5 1 v' (k+1) (List.replicate (k+1) (Value.int .u8 (pad:Int))):=by
    rw[List.replicate_succ'];exact hown2
   clear hgrow hown2 hown
   go_wp2_with (fail)
   exact⟨⟨k+1,rfl,by omega,hown3,hbw2⟩,by simp only[intOf];omega⟩
  ·
   obtain rfl:k=M:=by omega
   have hd:decide ((k:Int)<(k:Int))=false:=by simp
   have hT:=pad_text k pad hp wr _ _ hown
   go_wp2_with (fail)
   all_goals
    go_returns
    exact⟨rfl,bl⟩
end Go.Proofs.YtoikhhnmbbbjjaaDoor
namespace Go.Proofs.YtoikhhnmbbbjjaaDoor
set_option linter.unusedVariables false
set_option linter.unusedSimpArgs false
set_option maxRecDepth 100000
open Go.RowKit
set_option maxHeartbeats 1000000 in
theorem l3Word_any (c:Nat) (A:Option Addr) (n cap:Nat) (w:World) (hc:Cur w c A n cap) :
  Calls Tryd.prog 56 #[.pointer (some ⟨c,0,none⟩)] w (DrewT w c A n cap 160):=by
 have HC:=hide hc
 have hlt:=hc.1
 clear hc
 go_enter Tryd.func56,Tryd.ntmps56
 go_upto_region 2 with (go_at_call 49;refine (l1Pick_any w.heap.size 12 20 12 c A n cap _ (HC.out.bel bl) (rowT_new 20 [⟨#[]⟩,⟨#[97]⟩,⟨#[98]⟩,⟨#[97,98]⟩,⟨#[97,98,99]⟩,⟨#[98,97,110,97,110,97]⟩,⟨#[104,101,108,108,111,44,32,119,111,114,108,100]⟩,⟨#[97,44,98,44,44,99]⟩,⟨#[49,43,50,42,51]⟩,⟨#[40,40,41,41]⟩,⟨#[32,120,32]⟩,⟨#[114,97,99,101,99,97,114]⟩] (by decide +kernel)) (by omega) (by omega) (by omega)).mono ?_;rintro e w1 ⟨x,hx,rfl,hC1,hO1⟩;have HC1:=hide hC1;have HO1:=hide hO1;clear hC1 hO1)
 go_upto_region 3 with (go_at_call 27;refine (l1Once_any 12 c A n cap _ HC1.out (by unfold InI;omega)).mono ?_;rintro e w2 ⟨y,rfl,hC2,hO2⟩;have HC2:=hide hC2;have HO2:=hide hO2;clear hC2 hO2)
 rotate_left
 ·
  go_returns
  exact⟨x,by omega,rfl,HC2.out,Oth.trans (Oth.trans (Oth.of_bel bl) HO1.out) HO2.out⟩
 ·
  go_wp2_with (first
   | (go_at_call 50;refine (l1Below_any 4 c A n cap _ HC2.out (by unfold InI;omega)).mono ?_;rintro e w3 ⟨z,z1,z2,rfl,hC3,hO3⟩;have HC3:=hide hC3;have HO3:=hide hO3;clear hC3 hO3;have z3:z≤3:=z2;clear z2)
   | (go_at_call 74;refine (l3Pad_any (118 - (x.size:Int)+z) 113 _ (by omega) (by omega) (by omega)).mono ?_;rintro e w4 ⟨rfl,hb4⟩;have HP:=hide (show (⟨(List.replicate (118 - (x.size:Int)+z).toNat (UInt8.ofNat 113)).toArray⟩:ByteArray).size≤121 by show (List.replicate _ _).toArray.size≤_;simp;omega);have Hb4:=hide hb4;clear hb4;generalize (⟨(List.replicate (118 - (x.size:Int)+z).toNat (UInt8.ofNat 113)).toArray⟩:ByteArray)=pd at HP ⊢;have hpd:=HP.out))
  all_goals
   go_returns
   exact⟨_,by rw[ByteArray.size_append];have:=HP.out;omega,rfl,HC3.out.bel Hb4.out,Oth.trans (Oth.trans (Oth.trans (Oth.trans (Oth.of_bel bl) HO1.out) HO2.out) HO3.out) (Oth.of_bel Hb4.out)⟩
end Go.Proofs.YtoikhhnmbbbjjaaDoor
namespace Go.Proofs.YtoikhhnmbbbjjaaDoor
set_option linter.unusedVariables false
set_option linter.unusedSimpArgs false
set_option maxRecDepth 100000
open Go.RowKit
theorem two_pow_le (b:Nat) (h:b<64):1≤2 ^ b∧2 ^ b≤9223372036854775808:=by
 refine⟨Nat.one_le_two_pow,?_⟩
 calc 2 ^ b≤2 ^ 63:=Nat.pow_le_pow_right (by omega) (by omega)
  _=9223372036854775808:=by decide
theorem ofInt_wrap_pow (b:Nat) (h:b<64):BitVec.ofInt 64 (wrap64 (2 ^ b))=BitVec.twoPow 64 b:=by
 apply BitVec.eq_of_toNat_eq
 rw[BitVec.toNat_ofInt,BitVec.toNat_twoPow]
 obtain⟨h1,h2⟩:=two_pow_le b h
 have e:((2:Int) ^ b)=((2 ^ b:Nat):Int):=by simp
 rw[e]
 generalize 2 ^ b=p at *
 unfold wrap64
 omega
end Go.Proofs.YtoikhhnmbbbjjaaDoor
namespace Go.Proofs.YtoikhhnmbbbjjaaDoor
set_option linter.unusedVariables false
set_option linter.unusedSimpArgs false
set_option maxRecDepth 100000
open Go.RowKit
def orB (x:Int) (b:Nat):Int:=IntKind.i64.wrap ((BitVec.ofInt 64 x ||| BitVec.twoPow 64 b).toNat:Int)
theorem or_int (x:Int) (b:Nat) (h:b<64):bits .or .i64 x (wrap64 (2 ^ b))=orB x b:=by
 show IntKind.i64.wrap ((BitVec.ofInt 64 x ||| BitVec.ofInt 64 (wrap64 (2 ^ b))).toNat:Int)=_
 rw[ofInt_wrap_pow b h];rfl
theorem orB_in (x:Int) (b:Nat):InI (orB x b):=by
 unfold orB InI
 rw[IntKind.wrap_i64]
 omega
def addLo (lo:Int) (b:Nat):Int:=if b<64 then orB lo b else lo
def addHi (hi:Int) (b:Nat):Int:=if b<64 then hi else orB hi (b - 64)
def nsF (s:ByteArray):Nat→Nat→Int→Int→Option (Int × Int)
 | 0,_,lo,hi=>some (lo,hi)
 | f+1,i,lo,hi=>if byteAt s i≤127 then nsF s f (i+1) (addLo lo (byteAt s i)) (addHi hi (byteAt s i)) else none
def ns (s:ByteArray) (i:Nat) (lo hi:Int):Option (Int × Int):=nsF s (s.size - i) i lo hi
theorem ns_end {s:ByteArray} {i:Nat} {lo hi:Int} (h:¬i<s.size):ns s i lo hi=some (lo,hi):=by
 unfold ns
 rw[show s.size - i=0 by omega,nsF]
theorem ns_bad {s:ByteArray} {i:Nat} {lo hi:Int} (h:i<s.size) (hb:¬byteAt s i≤127):ns s i lo hi=none:=by
 unfold ns
 rw[show s.size - i=(s.size - (i+1))+1 by omega,nsF,if_neg hb]
theorem ns_yes {s:ByteArray} {i:Nat} {lo hi:Int} (h:i<s.size) (hb:byteAt s i≤127):ns s (i+1) (addLo lo (byteAt s i)) (addHi hi (byteAt s i))=ns s i lo hi:=by
 unfold ns
 rw[show s.size - i=(s.size - (i+1))+1 by omega,nsF,if_pos hb]
def nsLo (s:ByteArray):Int:=((ns s 0 0 0).getD (0,0)).1
def nsHi (s:ByteArray):Int:=((ns s 0 0 0).getD (0,0)).2
def nsOk (s:ByteArray):Bool:=(ns s 0 0 0).isSome
set_option maxHeartbeats 400000 in
theorem specAdd_any (lo hi:Int) (b:Nat) (w:World) (hb:b≤127) :
  Calls Tryd.prog 83 #[.agg #[.int .i64 lo,.int .i64 hi],.int .u8 b] w fun e w'=>e=.returned (.agg #[.int .i64 (addLo lo b),.int .i64 (addHi hi b)])∧Bel w w':=by
 have B1:=hide (or_int lo b)
 have B2:=hide (or_int hi (b - 64))
 go_enter Tryd.func83,Tryd.ntmps83
 go_wp2
 all_goals
  go_returns
  try go_light
  refine⟨?_,bl⟩
  have B1:=B1.out
  have B2:=B2.out
  (try simp only[Array.getD_eq_getD_getElem?,List.getElem?_toArray,List.getElem?_cons_succ,List.getElem?_cons_zero,Option.getD_some])
  unfold addLo addHi
  grind
def Box2 (w:World) (b:Nat) (x y:Int):Prop:=w.cell? ⟨b,0,none⟩=some (.int .i64 x)∧w.cell? ⟨b,1,none⟩=some (.int .i64 y)∧w.frozen? ⟨b,0,none⟩=false∧w.frozen? ⟨b,1,none⟩=false∧b<w.heap.size
theorem Box2.on {w w':World} {b:Nat} {x y:Int} (h:Box2 w b x y) (hb:Bel w w'):Box2 w' b x y :=
 ⟨(hb.box b h.2.2.2.2 0).trans h.1,(hb.box b h.2.2.2.2 1).trans h.2.1,(hb.boxf b h.2.2.2.2 0).trans h.2.2.1,(hb.boxf b h.2.2.2.2 1).trans h.2.2.2.1,Nat.lt_of_lt_of_le h.2.2.2.2 hb.size⟩
theorem Box2.put {w:World} {b:Nat} {x y:Int} (h:Box2 w b x y) (x' y':Int):Box2 ((w.setCell ⟨b,0,none⟩ (.int .i64 x')).setCell ⟨b,1,none⟩ (.int .i64 y')) b x' y':=by
 obtain⟨h0,h1,h2,h3,h4⟩:=h
 have n1:(⟨b,0,none⟩:Addr)≠⟨b,1,none⟩:=by simp
 refine⟨?_,?_,by simpa using h2,by simpa using h3,by simpa using h4⟩
 ·
  rw[World.cell?_setCell_other (h:=n1.symm),World.cell?_setCell_same (h:=h0)]
 ·
  rw[World.cell?_setCell_same (u:=.int .i64 y) (h:=?_)]
  rw[World.cell?_setCell_other (h:=n1)];exact h1
theorem Box2.apart {w:World} {b b':Nat} {x y:Int} (h:Box2 w b x y) (hn:b'≠b) (u v:Value):Box2 ((w.setCell ⟨b',0,none⟩ u).setCell ⟨b',1,none⟩ v) b x y:=by
 obtain⟨h0,h1,h2,h3,h4⟩:=h
 refine⟨?_,?_,by simpa using h2,by simpa using h3,by simpa using h4⟩
 ·
  rw[World.cell?_setCell_far _ _ _ _ hn,World.cell?_setCell_far _ _ _ _ hn];exact h0
 ·
  rw[World.cell?_setCell_far _ _ _ _ hn,World.cell?_setCell_far _ _ _ _ hn];exact h1
set_option maxHeartbeats 1000000 in
theorem specNewCset_any (s:ByteArray) (w:World) (hs:s.size≤maxLen) :
  Calls Tryd.prog 73 #[.string s] w fun e w'=>e=.returned (.tuple #[.agg #[.int .i64 (nsLo s),.int .i64 (nsHi s)],.bool (nsOk s)])∧Bel w w':=by
 unfold maxLen at hs
 go_enter Tryd.func73,Tryd.ntmps73
 go_wp2_with (fail)
 go_loopw [5] (fun i wr=>∃(k:Nat) (lo hi:Int),i=.int .i64 k∧k≤s.size∧Hid (ns s k lo hi=ns s 0 0 0)∧Box2 wr w.heap.size 0 0∧Box2 wr (w.heap.size+1) lo hi∧Bel w wr) (fun i _=>s.size - (intOf i).toNat)
 case atStart=>exact⟨0,0,0,rfl,by omega,rfl,⟨by simp,by simp,by simp,by simp,by simp;omega⟩,⟨by simp,by simp,by simp,by simp,by simp⟩,bl⟩
 case round =>
  obtain⟨k,lo,hi,rfl,hk,hN,R,C,hbw⟩:=hrel
  have R':=R
  have C':=C
  obtain⟨r0,r1,r2,r3,r4⟩:=R'
  obtain⟨c0,c1,c2,c3,c4⟩:=C'
  by_cases h1:k<s.size
  ·
   have hd:decide ((k:Int)<(s.size:Int))=true:=by simp;omega
   have hB:=hide (byteAt_eq s k h1)
   by_cases h2:byteAt s k≤127
   ·
    have h3:s[k].toNat≤127:=by rw[hB.out];exact h2
    have hE:=hide (ns_yes (lo:=lo) (hi:=hi) h1 h2)
    have hbd:Bel wr wr.drew:=bl
    have R1:=R.on hbd
    have C1:=C.on hbd
    go_wp2_with (fail)
    (refine wp_region_still_tail 4 (by kernel_rfl) (by kernel_rfl) ?_;simp only[List.take_succ_cons,List.take_zero,List.drop_succ_cons,List.drop_zero];change wpStill _ _ (World.drew (wr)) _ _ _)
    repeat still_step
    refine wpStill_nil ?_
    clear r0 r1 r2 r3 r4 c0 c1 c2 c3 c4
    go_wp2_with (go_at_call 83;rw[hB.out];refine (specAdd_any lo hi _ _ h2).mono ?_;rintro e w3 ⟨rfl,hb3⟩;have R3:=R1.on hb3;have C3:=C1.on hb3;obtain⟨c0,c1,c2,c3,c4⟩:=C3)
    have R4:=R3.apart (b':=w.heap.size+1) (by omega) (.int .i64 (addLo lo (byteAt s k))) (.int .i64 (addHi hi (byteAt s k)))
    have C4:=Box2.put (⟨c0,c1,c2,c3,c4⟩:Box2 w3 (w.heap.size+1) lo hi) (addLo lo (byteAt s k)) (addHi hi (byteAt s k))
    exact⟨⟨k+1,_,_,rfl,h1,hide (hE.out.trans hN.out),R4,C4,bl⟩,by simp only[intOf];omega⟩
   ·
    have h3:127<s[k].toNat:=by rw[hB.out];omega
    have hE:=hide (ns_bad (lo:=lo) (hi:=hi) h1 h2)
    have e1:=hide (show ns s 0 0 0=none from hN.out.symm.trans hE.out)
    go_wp2_with (fail)
    have D:=R.put 0 0
    obtain⟨d0,d1,d2,d3,d4⟩:=D
    rw[show nsLo s=0 by unfold nsLo;rw[e1.out];rfl,show nsHi s=0 by unfold nsHi;rw[e1.out];rfl,show nsOk s=false by unfold nsOk;rw[e1.out];rfl]
    exact bodyPost_ret (by simp[results,Tryd.results73,d0,d1,go_sem];try rfl) rfl ⟨rfl,bl⟩
  ·
   have hE:=hide (ns_end (lo:=lo) (hi:=hi) h1)
   have hd:decide ((k:Int)<(s.size:Int))=false:=by simp;omega
   have e1:=hide (show ns s 0 0 0=some (lo,hi)from hN.out.symm.trans hE.out)
   go_wp2_with (fail)
   have D:=R.put lo hi
   obtain⟨d0,d1,d2,d3,d4⟩:=D
   rw[show nsLo s=lo by unfold nsLo;rw[e1.out];rfl,show nsHi s=hi by unfold nsHi;rw[e1.out];rfl,show nsOk s=true by unfold nsOk;rw[e1.out];rfl]
   exact bodyPost_ret (by simp[results,Tryd.results73,d0,d1,go_sem];try rfl) rfl ⟨rfl,bl⟩
end Go.Proofs.YtoikhhnmbbbjjaaDoor
namespace Go.Proofs.YtoikhhnmbbbjjaaDoor
set_option linter.unusedVariables false
set_option linter.unusedSimpArgs false
set_option maxRecDepth 100000
open Go.RowKit
theorem inI_wrap (n:Int):InI (IntKind.i64.wrap n):=by unfold InI;rw[IntKind.wrap_i64];omega
theorem addLo_in {lo:Int} (b:Nat) (h:InI lo):InI (addLo lo b):=by unfold addLo;split;exact orB_in _ _;exact h
theorem addHi_in {hi:Int} (b:Nat) (h:InI hi):InI (addHi hi b):=by unfold addHi;split;exact h;exact orB_in _ _
theorem nsF_in (s:ByteArray):∀(f i:Nat) (lo hi:Int) (p:Int × Int),InI lo→InI hi→nsF s f i lo hi=some p→InI p.1∧InI p.2
 | 0,i,lo,hi,p,h1,h2,h=>by
  simp only[nsF,Option.some.injEq]at h
  subst h;exact⟨h1,h2⟩
 | f+1,i,lo,hi,p,h1,h2,h=>by
  rw[nsF]at h
  split at h
  ·
   exact nsF_in s f (i+1) _ _ p (addLo_in _ h1) (addHi_in _ h2) h
  ·
   cases h
theorem ns_in (s:ByteArray):InI (nsLo s)∧InI (nsHi s):=by
 unfold nsLo nsHi
 have h0:InI 0:=by unfold InI;omega
 cases h:ns s 0 0 0 with
 | none=>exact⟨h0,h0⟩
 | some p=>exact nsF_in s _ 0 0 0 p h0 h0 h
def SomeSet (w:World) (e:Ending) (w':World):Prop:=∃(lo hi:Int) (b:Bool),InI lo∧InI hi∧e=.returned (.tuple #[.agg #[.int .i64 lo,.int .i64 hi],.bool b])∧Bel w w'
set_option maxHeartbeats 1000000 in
theorem specRange_some (f u:Nat) (w:World) (hf:f<256) (hu:u<256) (h1:f≤u) (h2:u≤127) :
  Calls Tryd.prog 77 #[.int .u8 f,.int .u8 u] w (SomeSet w):=by
 have w8:∀k:Nat,k≤u→IntKind.u8.wrap (k:Int)=k:=fun k hk=>by rw[IntKind.wrap_u8];omega
 have W8:=hide w8
 clear w8
 have d1:decide (u<f)=false:=by simp;omega
 have d2:decide ((127:Int)<(u:Int))=false:=by simp;omega
 have d3:¬u<f:=by omega
 go_enter Tryd.func77,Tryd.ntmps77
 go_wp2_with (fail)
 go_loopw [7] (fun i wr=>∃(k:Nat) (lo hi:Int),i=.int .i64 k∧k≤u+1∧InI lo∧InI hi∧Box2 wr w.heap.size 0 0∧Box2 wr (w.heap.size+1) lo hi∧Bel w wr) (fun i _=>u+1 - (intOf i).toNat)
 case atStart=>exact⟨f,0,0,rfl,by omega,by unfold InI;omega,by unfold InI;omega,⟨by simp,by simp,by simp,by simp,by simp;omega⟩,⟨by simp,by simp,by simp,by simp,by simp⟩,bl⟩
 case round =>
  obtain⟨k,lo,hi,rfl,hk,hlo,hhi,R,C,hbw⟩:=hrel
  have hlo':=hide hlo
  have hhi':=hide hhi
  clear hlo hhi
  have R':=R
  have C':=C
  obtain⟨r0,r1,r2,r3,r4⟩:=R'
  obtain⟨c0,c1,c2,c3,c4⟩:=C'
  by_cases q:k≤u
  ·
   have hw:=W8.out k q
   have hd:decide ((k:Int)≤(u:Int))=true:=by simp;omega
   go_wp2_with (go_at_call 83;refine (specAdd_any lo hi k _ (by omega)).mono ?_;rintro e w3 ⟨rfl,hb3⟩;have R3:=R.on hb3;have C3:=C.on hb3;obtain⟨c0,c1,c2,c3,c4⟩:=C3)
   have R4:=R3.apart (b':=w.heap.size+1) (by omega) (.int .i64 (addLo lo k)) (.int .i64 (addHi hi k))
   have C4:=Box2.put (⟨c0,c1,c2,c3,c4⟩:Box2 w3 (w.heap.size+1) lo hi) (addLo lo k) (addHi hi k)
   exact⟨⟨k+1,_,_,rfl,by omega,addLo_in _ hlo'.out,addHi_in _ hhi'.out,R4,C4,bl⟩,by simp only[intOf];omega⟩
  ·
   have hd:decide ((k:Int)≤(u:Int))=false:=by simp;omega
   go_wp2_with (fail)
   have D:=R.put lo hi
   obtain⟨d0,d1,d2,d3,d4⟩:=D
   exact bodyPost_ret (v:=.tuple #[.agg #[.int .i64 lo,.int .i64 hi],.bool true]) (by simp[results,Tryd.results77,d0,d1,go_sem];try rfl) rfl ⟨lo,hi,true,hlo'.out,hhi'.out,rfl,bl⟩
end Go.Proofs.YtoikhhnmbbbjjaaDoor
namespace Go.Proofs.YtoikhhnmbbbjjaaDoor
set_option linter.unusedVariables false
set_option linter.unusedSimpArgs false
set_option maxRecDepth 100000
open Go.RowKit
set_option maxHeartbeats 400000 in
theorem specSubtractCsets_any (a0 a1 b0 b1:Int) (w:World) :
  Calls Tryd.prog 78 #[.agg #[.int .i64 a0,.int .i64 a1],.agg #[.int .i64 b0,.int .i64 b1]] w fun e w'=>e=.returned (.agg #[.int .i64 (bits .andNot .i64 a0 b0),.int .i64 (bits .andNot .i64 a1 b1)])∧Bel w w':=by
 go_enter Tryd.func78,Tryd.ntmps78
 go_wp2
 go_returns
 exact⟨rfl,bl⟩
def cmpl (x:Int):Int:=bits .xor .i64 (-1) x
set_option maxHeartbeats 400000 in
theorem specCompl_any (lo hi:Int) (w:World) :
  Calls Tryd.prog 75 #[.agg #[.int .i64 lo,.int .i64 hi]] w fun e w'=>e=.returned (.agg #[.int .i64 (cmpl lo),.int .i64 (cmpl hi)])∧Bel w w':=by
 go_enter Tryd.func75,Tryd.ntmps75
 go_wp2
 go_returns
 exact⟨rfl,bl⟩
theorem gen_world1 {P:Program} {c:Code} {Q:Exit→Act→World→Prop} {a:Act} {W:World} (h:∀w2,Bel W w2→Code.wp P c Q a w2):Code.wp P c Q a W:=h W (Bel.refl W)
end Go.Proofs.YtoikhhnmbbbjjaaDoor
namespace Go.Proofs.YtoikhhnmbbbjjaaDoor
set_option linter.unusedVariables false
set_option linter.unusedSimpArgs false
set_option maxRecDepth 100000
open Go.RowKit
def DrewC (w:World) (c:Nat) (A:Option Addr) (n cap:Nat) (e:Ending) (w':World):Prop :=
 ∃lo hi:Int,InI lo∧InI hi∧e=.returned (.agg #[.int .i64 lo,.int .i64 hi])∧Cur w' c A n cap∧Oth c w w'
theorem Box2.oth {w w':World} {b c:Nat} {x y:Int} (h:Box2 w b x y) (hb:Oth c w w') (hn:b≠c):Box2 w' b x y :=
 ⟨(hb.cell h.2.2.2.2 hn).trans h.1,(hb.cell h.2.2.2.2 hn).trans h.2.1,(hb.frozen h.2.2.2.2 hn).trans h.2.2.1,(hb.frozen h.2.2.2.2 hn).trans h.2.2.2.1,Nat.lt_of_lt_of_le h.2.2.2.2 hb.size⟩
theorem Box2.new {w:World} {t:TypeId} {x y:Int}:Box2 (w.alloc (.cells #[.int .i64 x,.int .i64 y] t)) w.heap.size x y:=⟨by simp,by simp,by simp,by simp,by simp⟩
theorem Oth.put2 {c:Nat} {w w':World} {b:Nat} (h:Oth c w w') (hb:w.heap.size≤b) (u v:Value):Oth c w ((w'.setCell ⟨b,0,none⟩ u).setCell ⟨b,1,none⟩ v):=by
 have k:Below w.heap.size w' ((w'.setCell ⟨b,0,none⟩ u).setCell ⟨b,1,none⟩ v):=Below.setCell (Below.setCell (Below.refl _ _) hb u) hb v
 exact⟨k.os.trans h.os,k.tape.trans h.tape,k.output.trans h.output,Nat.le_trans h.size k.size,fun i hi hc=>(k.block i hi).trans (h.block i hi hc)⟩
theorem Cur.fin {w w5 w':World} {c:Nat} {A:Option Addr} {n cap:Nat} (h0:Cur w c A n cap) (h5:Cur w5 c A n cap) (k:Oth c w w') (hs:∀o,w'.cell? ⟨c,o,none⟩=w5.cell? ⟨c,o,none⟩) (hf:∀o,w'.frozen? ⟨c,o,none⟩=w5.frozen? ⟨c,o,none⟩):Cur w' c A n cap:=by
 obtain⟨l,f,hB,i,x,hi,c0,c1,c2⟩:=h5
 exact h0.put k (fun o=>(hf o).trans (f o)) i x hi ((hs 0).trans c0) ((hs 1).trans c1) ((hs 2).trans c2)
theorem Cur.fin2 {w w5:World} {c b:Nat} {A:Option Addr} {n cap:Nat} {u v:Value} (h0:Cur w c A n cap) (h5:Cur w5 c A n cap) (k:Oth c w w5) (hb:w.heap.size≤b) (hn:b≠c):Cur ((w5.setCell ⟨b,0,none⟩ u).setCell ⟨b,1,none⟩ v) c A n cap :=
 Cur.fin h0 h5 (k.put2 hb u v) (fun o=>by rw[World.cell?_setCell_far _ _ _ _ hn,World.cell?_setCell_far _ _ _ _ hn]) (fun o=>by simp)
set_option maxHeartbeats 2000000 in
theorem l2Draw_any (c:Nat) (A:Option Addr) (n cap:Nat) (w:World) (hc:Cur w c A n cap) :
  Calls Tryd.prog 58 #[.pointer (some ⟨c,0,none⟩)] w (DrewC w c A n cap):=by
 have HC:=hide hc
 have hlt:=hc.1
 have hne:w.heap.size≠c:=by omega
 clear hc
 go_enter Tryd.func58,Tryd.ntmps58
 go_upto_region 2 with (first
  | (go_at_call 49;refine (l1Pick_any (w.heap.size+1) 8 20 8 c A n cap _ (HC.out.bel bl) (by have h:=rowT_new (w:=w.alloc (.cells #[.int .i64 0,.int .i64 0] 32)) (t:=9) 20 [⟨#[]⟩,⟨#[97]⟩,⟨#[97,98,99]⟩,⟨#[120,121,122]⟩,⟨#[48,49,50,51,52,53,54,55,56,57]⟩,⟨#[97,101,105,111,117]⟩,⟨#[0,63,64,127]⟩,⟨#[32,9,10]⟩] (by decide +kernel);rw[World.size_alloc]at h;exact h) (by omega) (by omega) (by omega)).mono ?_;rintro e w1 ⟨x,hx,rfl,hC1,hO1⟩;have HC1:=hide hC1;have HO1:=hide (Oth.trans (Oth.of_bel (c:=c) (w:=w) bl) hO1);have R1:=hide (Box2.oth (Box2.on Box2.new bl) hO1 hne);clear hC1 hO1)
  | (go_at_call 73;refine (specNewCset_any x _ (by unfold maxLen;omega)).mono ?_;rintro e w2 ⟨rfl,hb2⟩;have hI:=ns_in x;have hI1:=hide hI.1;have hI2:=hide hI.2;clear hI;generalize nsLo x=lo at hI1 ⊢;generalize nsHi x=hi at hI2 ⊢;generalize nsOk x=okx))
 refine gen_world1 fun w3 hb3=>?_
 have hb23:Bel w1 w3:=Bel.trans (Bel.alloc hb2 _) hb3
 have X3:=hide (Box2.on Box2.new hb3)
 have R3:=hide (R1.out.on hb23)
 have HC3:=hide (HC1.out.bel hb23)
 have HO3:=hide (HO1.out.trans (Oth.of_bel hb23))
 have hs2:w.heap.size≤w2.heap.size:=Nat.le_trans HO1.out.size hb2.size
 have hsc:w2.heap.size≠c:=by have:=HC1.out.1;have:=hb2.size;omega
 have hsr:w2.heap.size≠w.heap.size:=by have:=R1.out.2.2.2.2;have:=hb2.size;omega
 clear hb2 hb3 hb23 R1 HC1 HO1
 go_upto_region 3 with (go_at_call 50;refine (l1Below_any 5 c A n cap _ HC3.out (by unfold InI;omega)).mono ?_;rintro e w4 ⟨y,y1,y2,rfl,hC4,hO4⟩;have HC4:=hide hC4;have X4:=hide (X3.out.oth hO4 hsc);have R4:=hide (R3.out.oth hO4 hne);have HO4:=hide (HO3.out.trans hO4);clear hC4 hO4)
 have hR:=R4.out
 obtain⟨r0,r1,r2,r3,r4⟩:=hR
 have hX:=X4.out
 obtain⟨x0,x1,x2,x3,x4⟩:=hX
 rcases (show y=0∨y=1∨y=2∨(¬y=0∧¬y=1∧¬y=2) by omega)with rfl | rfl | rfl | ⟨q0,q1,q2⟩
 ·
  go_wp2_with (go_at_call 75;refine (specCompl_any lo hi _).mono ?_;rintro e w5 ⟨rfl,hb5⟩;have R5:=hide (R4.out.on hb5);have hR5:=R5.out;obtain⟨r0,r1,r2,r3,r4⟩:=hR5;have HC5:=hide (HC4.out.bel hb5);have HO5:=hide (HO4.out.trans (Oth.of_bel hb5));clear hb5)
  have D:=R5.out.put (cmpl lo) (cmpl hi)
  obtain⟨d0,d1,d2,d3,d4⟩:=D
  exact bodyPost_ret (v:=.agg #[.int .i64 (cmpl lo),.int .i64 (cmpl hi)]) (by simp[results,Tryd.results58,d0,d1,go_sem];try rfl) rfl ⟨_,_,inI_wrap _,inI_wrap _,rfl,Cur.fin2 HC.out HC5.out HO5.out (Nat.le_refl _) hne,HO5.out.put2 (Nat.le_refl _) _ _⟩
 ·
  go_wp2_with (first
   | ((with_reducible refine (l1Whole_any c A n cap w4 HC4.out).mono ?_);rintro e w5 ⟨y5,hy5,rfl,hC5,hO5⟩;have hy5':=hide hy5;have HC5:=hide hC5;have R5:=hide (R4.out.oth hO5 hne);have HO5:=hide (HO4.out.trans hO5);clear hy5 hC5 hO5)
   | ((with_reducible refine (l1Whole_any c A n cap w5 HC5.out).mono ?_);rintro e w6 ⟨y6,hy6,rfl,hC6,hO6⟩;have hy6':=hide hy6;have HC6:=hide hC6;have R6:=hide (R5.out.oth hO6 hne);have HO6:=hide (HO5.out.trans hO6);have hR6:=R6.out;obtain⟨r0,r1,r2,r3,r4⟩:=hR6;clear hy6 hC6 hO6))
  have D:=R6.out.put y5 y6
  obtain⟨d0,d1,d2,d3,d4⟩:=D
  exact bodyPost_ret (v:=.agg #[.int .i64 y5,.int .i64 y6]) (by simp[results,Tryd.results58,d0,d1,go_sem];try rfl) rfl ⟨_,_,hy5'.out,hy6'.out,rfl,Cur.fin2 HC.out HC6.out HO6.out (Nat.le_refl _) hne,HO6.out.put2 (Nat.le_refl _) _ _⟩
 ·
  go_upto_region 9 with (first
   | ((with_reducible refine (l1Below_any 64 c A n cap w4 HC4.out (by unfold InI;omega)).mono ?_);rintro e w5 ⟨y5,a5,b5,rfl,hC5,hO5⟩;have b5':y5≤63:=b5;clear b5;obtain⟨f5,rfl⟩:=Int.eq_ofNat_of_zero_le a5;have g5:IntKind.u8.wrap (f5:Int)=(f5:Int):=(by rw[IntKind.wrap_u8];omega);have HC5:=hide hC5;have R5:=hide (R4.out.oth hO5 hne);have X5:=hide (X4.out.oth hO5 hsc);have HO5:=hide (HO4.out.trans hO5);clear hC5 hO5)
   | ((with_reducible refine (l1Below_any 64 c A n cap w5 HC5.out (by unfold InI;omega)).mono ?_);rintro e w6 ⟨y6,a6,b6,rfl,hC6,hO6⟩;have b6':y6≤63:=b6;clear b6;obtain⟨f6,rfl⟩:=Int.eq_ofNat_of_zero_le a6;have g6:IntKind.u8.wrap (64+(f6:Int))=(64+(f6:Int)):=(by rw[IntKind.wrap_u8];omega);have HC6:=hide hC6;have R6:=hide (R5.out.oth hO6 hne);have X6:=hide (X5.out.oth hO6 hsc);have HO6:=hide (HO5.out.trans hO6);clear hC6 hO6)
   | (go_at_call 77;rw[show (64+(f6:Int))=((64+f6:Nat):Int) by omega];refine (specRange_some f5 (64+f6) _ (by omega) (by omega) (by omega) (by omega)).mono ?_;rintro e w7 ⟨l7,h7,b7,i7,j7,rfl,hb7⟩;have i7':=hide i7;have j7':=hide j7;have HC7:=hide (HC6.out.bel hb7);have R7:=hide (R6.out.on hb7);have X7:=hide (X6.out.on hb7);have HO7:=hide (HO6.out.trans (Oth.of_bel hb7));clear i7 j7 hb7))
  refine gen_world1 fun w8 hb8=>?_
  have Y8:=hide (Box2.on Box2.new hb8)
  have hb78:Bel w7 w8:=Bel.trans (Bel.alloc (Bel.refl _) _) hb8
  have R8:=hide (R7.out.on hb78)
  have X8:=hide (X7.out.on hb78)
  have HC8:=hide (HC7.out.bel hb78)
  have HO8:=hide (HO7.out.trans (Oth.of_bel hb78))
  have h8:=R8.out
  obtain⟨r0,r1,r2,r3,r4⟩:=h8
  have h8:=X8.out
  obtain⟨x0,x1,x2,x3,x4⟩:=h8
  have h8:=Y8.out
  obtain⟨z0,z1,z2,z3,z4⟩:=h8
  go_wp2_with (go_at_call 78;refine (specSubtractCsets_any l7 h7 lo hi _).mono ?_;rintro e w9 ⟨rfl,hb9⟩;have R9:=hide (R8.out.on hb9);have h9:=R9.out;obtain⟨r0,r1,r2,r3,r4⟩:=h9;have HC9:=hide (HC8.out.bel hb9);have HO9:=hide (HO8.out.trans (Oth.of_bel hb9));clear hb9)
  have D:=R9.out.put (bits .andNot .i64 l7 lo) (bits .andNot .i64 h7 hi)
  obtain⟨d0,d1,d2,d3,d4⟩:=D
  exact bodyPost_ret (v:=.agg #[.int .i64 (bits .andNot .i64 l7 lo),.int .i64 (bits .andNot .i64 h7 hi)]) (by simp[results,Tryd.results58,d0,d1,go_sem];try rfl) rfl ⟨_,_,inI_wrap _,inI_wrap _,rfl,Cur.fin2 HC.out HC9.out HO9.out (Nat.le_refl _) hne,HO9.out.put2 (Nat.le_refl _) _ _⟩
 ·
  have p0:(y==0)=false:=by simp[q0]
  have p1:(y==1)=false:=by simp[q1]
  have p2:(y==2)=false:=by simp[q2]
  clear q0 q1 q2
  go_wp2_with (fail)
  have D:=R4.out.put lo hi
  obtain⟨d0,d1,d2,d3,d4⟩:=D
  exact bodyPost_ret (v:=.agg #[.int .i64 lo,.int .i64 hi]) (by simp[results,Tryd.results58,d0,d1,go_sem];try rfl) rfl ⟨_,_,hI1.out,hI2.out,rfl,Cur.fin2 HC.out HC4.out HO4.out (Nat.le_refl _) hne,HO4.out.put2 (Nat.le_refl _) _ _⟩
end Go.Proofs.YtoikhhnmbbbjjaaDoor
namespace Go.Proofs.YtoikhhnmbbbjjaaDoor
set_option linter.unusedVariables false
set_option linter.unusedSimpArgs false
set_option maxRecDepth 100000
open Go.RowKit
theorem l11IntD_any (n:Int) (w:World):Calls Tryd.prog 48 #[.int .i64 n] w fun e w'=>e=.returned (.agg #[.int .i64 1,.int .i64 n,.int .i64 0,.string ByteArray.empty,.int .i64 0,.int .i64 0])∧Bel w w':=by
 go_enter Tryd.func48,Tryd.ntmps48
 go_wp2
 go_returns
 exact⟨rfl,bl⟩
theorem l11TextD_any (t:ByteArray) (w:World):Calls Tryd.prog 51 #[.string t] w fun e w'=>e=.returned (.agg #[.int .i64 2,.int .i64 0,.int .i64 0,.string t,.int .i64 0,.int .i64 0])∧Bel w w':=by
 go_enter Tryd.func51,Tryd.ntmps51
 go_wp2
 go_returns
 exact⟨rfl,bl⟩
set_option maxHeartbeats 400000 in
theorem l11CsetD_any (lo hi:Int) (w:World):Calls Tryd.prog 57 #[.agg #[.int .i64 lo,.int .i64 hi]] w fun e w'=>e=.returned (.agg #[.int .i64 3,.int .i64 0,.int .i64 0,.string ByteArray.empty,.int .i64 lo,.int .i64 hi])∧Bel w w':=by
 go_enter Tryd.func57,Tryd.ntmps57
 go_wp2
 go_returns
 exact⟨rfl,bl⟩
def DrewV (w:World) (c:Nat) (A:Option Addr) (n cap:Nat) (e:Ending) (w':World):Prop :=
 ∃v:VVal,v.Ok∧e=.returned v.val∧Cur w' c A n cap∧Oth c w w'
theorem Z6.oth {w w':World} {b c:Nat} (h:Z6 w b) (hb:Oth c w w') (hn:b≠c):Z6 w' b:=by
 obtain⟨c0,c1,c2,c3,c4,c5,f,l⟩:=h
 exact⟨(hb.cell l hn).trans c0,(hb.cell l hn).trans c1,(hb.cell l hn).trans c2,(hb.cell l hn).trans c3,(hb.cell l hn).trans c4,(hb.cell l hn).trans c5,fun o=>(hb.frozen l hn).trans (f o),Nat.lt_of_lt_of_le l hb.size⟩
theorem gen_ret6o {P:Program} {fn:Func} {Q:Ending→World→Prop} {ex:Exit} {a:Act} {w:World} {b:Nat} {x0 x1 x2 x3 x4 x5:Value} (h:Z6 w b)
  (H:∀w',w'.cell? ⟨b,0,none⟩=some x0→w'.cell? ⟨b,1,none⟩=some x1→w'.cell? ⟨b,2,none⟩=some x2→w'.cell? ⟨b,3,none⟩=some x3→w'.cell? ⟨b,4,none⟩=some x4→w'.cell? ⟨b,5,none⟩=some x5 →
   (∀(w0:World) (c:Nat),Oth c w0 w→w0.heap.size≤b→Oth c w0 w')→(∀b' o:Nat,b'≠b→w'.cell? ⟨b',o,none⟩=w.cell? ⟨b',o,none⟩)→(∀a:Addr,w'.frozen? a=w.frozen? a)→w.heap.size=w'.heap.size→bodyPost P fn Q ex a w') :
  bodyPost P fn Q ex a ((((((w.setCell ⟨b,0,none⟩ x0).setCell ⟨b,1,none⟩ x1).setCell ⟨b,2,none⟩ x2).setCell ⟨b,3,none⟩ x3).setCell ⟨b,4,none⟩ x4).setCell ⟨b,5,none⟩ x5):=by
 obtain⟨d0,d1,d2,d3,d4,d5⟩:=h.put x0 x1 x2 x3 x4 x5
 refine H _ d0 d1 d2 d3 d4 d5 (fun w0 c ho hb=>?_) (fun b' o hn=>?_) (fun a=>by simp) (by simp)
 ·
  have k:Below w0.heap.size w ((((((w.setCell ⟨b,0,none⟩ x0).setCell ⟨b,1,none⟩ x1).setCell ⟨b,2,none⟩ x2).setCell ⟨b,3,none⟩ x3).setCell ⟨b,4,none⟩ x4).setCell ⟨b,5,none⟩ x5) :=
   Below.setCell (Below.setCell (Below.setCell (Below.setCell (Below.setCell (Below.setCell (Below.refl _ _) hb x0) hb x1) hb x2) hb x3) hb x4) hb x5
  exact⟨k.os.trans ho.os,k.tape.trans ho.tape,k.output.trans ho.output,Nat.le_trans ho.size k.size,fun i hi hc=>(k.block i hi).trans (ho.block i hi hc)⟩
 ·
  rw[World.cell?_setCell_far _ _ _ _ (Ne.symm hn),World.cell?_setCell_far _ _ _ _ (Ne.symm hn),World.cell?_setCell_far _ _ _ _ (Ne.symm hn),World.cell?_setCell_far _ _ _ _ (Ne.symm hn),World.cell?_setCell_far _ _ _ _ (Ne.symm hn),World.cell?_setCell_far _ _ _ _ (Ne.symm hn)]
theorem in0:InI 0:=by unfold InI;omega
theorem inI_small {x:Int} (h1 : -100≤x) (h2:x≤100):InI x:=by unfold InI;omega
set_option maxHeartbeats 4000000 in
theorem l11Draw_any (c:Nat) (A:Option Addr) (n cap:Nat) (w:World) (hc:Cur w c A n cap) :
  Calls Tryd.prog 28 #[.pointer (some ⟨c,0,none⟩)] w (DrewV w c A n cap):=by
 have HC:=hide hc
 have hlt:=hc.1
 have hne:w.heap.size≠c:=by omega
 clear hc
 go_enter Tryd.func28,Tryd.ntmps28
 go_upto_region 2 with (go_at_call 50;refine (l1Below_any 7 c A n cap _ (HC.out.bel bl) (by unfold InI;omega)).mono ?_;rintro e w1 ⟨y,y1,y2,rfl,hC1,hO1⟩;have HC1:=hide hC1;have HO1:=hide (Oth.trans (Oth.of_bel (c:=c) (w:=w) bl) hO1);have Z1:=hide (Z6.oth Z6.new hO1 hne);clear hC1 hO1;have y3:y≤6:=y2;clear y2)
 have hZ:=Z1.out
 obtain⟨z0,z1,z2,z3,z4,z5,zf,zl⟩:=hZ
 rcases (show y=0∨y=1∨y=2∨y=3∨y=4∨y=5∨y=6 by omega)with rfl | rfl | rfl | rfl | rfl | rfl | rfl
 ·
  go_wp2_with (fail)
  refine gen_ret6o Z1.out fun wz d0 d1 d2 d3 d4 d5 ho hf hz _=>?_
  exact bodyPost_ret (v:=VVal.zero.val) (by simp[results,Tryd.results28,d0,d1,d2,d3,d4,d5,go_sem];try rfl) rfl ⟨VVal.zero,⟨in0,in0,in0,by decide,in0,in0⟩,rfl,Cur.fin HC.out HC1.out (ho _ _ HO1.out (Nat.le_refl _)) (fun o=>hf _ _ (Ne.symm hne)) (fun o=>hz _),ho _ _ HO1.out (Nat.le_refl _)⟩
 iterate 2
  ·
   go_wp2_with (first
    | (go_at_call 52;refine (l1PickInt_any w1.heap.size 8 8 c A n cap _ (HC1.out.bel bl) (rowI_new [0,1,2,3,-1,7,999999999999,-999999999999] (by decide)) (by have:=HC1.out.1;omega) (by omega) (by omega)).mono ?_;rintro e w2 ⟨x,hx,rfl,hC2,hO2⟩;have HC2:=hide hC2;have hx':=hide hx;have HO2:=hide (HO1.out.trans (Oth.trans (Oth.of_bel bl) hO2));have Z2:=hide (Z6.oth (Z1.out.on (w':=w1.alloc _) bl) hO2 hne);clear hC2 hO2 hx)
    | (go_at_call 48;refine (l11IntD_any x _).mono ?_;rintro e w3 ⟨rfl,hb3⟩;have HC3:=hide (HC2.out.bel hb3);have HO3:=hide (HO2.out.trans (Oth.of_bel hb3));have Z3:=hide (Z2.out.on hb3);have h3:=Z3.out;obtain⟨z0,z1,z2,z3,z4,z5,zf,zl⟩:=h3;clear hb3))
   refine gen_ret6o Z3.out fun wz d0 d1 d2 d3 d4 d5 ho hf hz _=>?_
   exact bodyPost_ret (v:=(VVal.ofInt x).val) (by simp[results,Tryd.results28,d0,d1,d2,d3,d4,d5,go_sem];try rfl) rfl ⟨VVal.ofInt x,⟨inI_small (by show -100≤(1:Int);decide) (by show (1:Int)≤100;decide),hx'.out,in0,by show ByteArray.empty.size≤maxLen;decide,in0,in0⟩,rfl,Cur.fin HC.out HC3.out (ho _ _ HO3.out (Nat.le_refl _)) (fun o=>hf _ _ (Ne.symm hne)) (fun o=>hz _),ho _ _ HO3.out (Nat.le_refl _)⟩
 iterate 2
  ·
   go_wp2_with (first
    | (go_at_call 56;refine (l3Word_any c A n cap _ HC1.out).mono ?_;rintro e w2 ⟨x,hx,rfl,hC2,hO2⟩;have HC2:=hide hC2;have HO2:=hide (HO1.out.trans hO2);have Z2:=hide (Z1.out.oth hO2 hne);clear hC2 hO2)
    | (go_at_call 51;refine (l11TextD_any _ _).mono ?_;rintro e w3 ⟨rfl,hb3⟩;have HC3:=hide (HC2.out.bel hb3);have HO3:=hide (HO2.out.trans (Oth.of_bel hb3));have Z3:=hide (Z2.out.on hb3);have h3:=Z3.out;obtain⟨z0,z1,z2,z3,z4,z5,zf,zl⟩:=h3;clear hb3))
   refine gen_ret6o Z3.out fun wz d0 d1 d2 d3 d4 d5 ho hf hz _=>?_
   exact bodyPost_ret (v:=(VVal.ofText x).val) (by simp[results,Tryd.results28,d0,d1,d2,d3,d4,d5,go_sem];try rfl) rfl ⟨VVal.ofText x,⟨inI_small (by show -100≤(2:Int);decide) (by show (2:Int)≤100;decide),in0,in0,by show x.size≤maxLen;unfold maxLen;omega,in0,in0⟩,rfl,Cur.fin HC.out HC3.out (ho _ _ HO3.out (Nat.le_refl _)) (fun o=>hf _ _ (Ne.symm hne)) (fun o=>hz _),ho _ _ HO3.out (Nat.le_refl _)⟩
 ·
  go_wp2_with (first
   | (go_at_call 58;refine (l2Draw_any c A n cap _ HC1.out).mono ?_;rintro e w2 ⟨lo,hi,h1,h2,rfl,hC2,hO2⟩;have h1':=hide h1;have h2':=hide h2;have HC2:=hide hC2;have HO2:=hide (HO1.out.trans hO2);have Z2:=hide (Z1.out.oth hO2 hne);clear hC2 hO2 h1 h2)
   | (go_at_call 57;refine (l11CsetD_any lo hi _).mono ?_;rintro e w3 ⟨rfl,hb3⟩;have HC3:=hide (HC2.out.bel hb3);have HO3:=hide (HO2.out.trans (Oth.of_bel hb3));have Z3:=hide (Z2.out.on hb3);have h3:=Z3.out;obtain⟨z0,z1,z2,z3,z4,z5,zf,zl⟩:=h3;clear hb3))
  refine gen_ret6o Z3.out fun wz d0 d1 d2 d3 d4 d5 ho hf hz _=>?_
  exact bodyPost_ret (v:=(VVal.ofSet lo hi).val) (by simp[results,Tryd.results28,d0,d1,d2,d3,d4,d5,go_sem];try rfl) rfl ⟨VVal.ofSet lo hi,⟨inI_small (by show -100≤(3:Int);decide) (by show (3:Int)≤100;decide),in0,in0,by show ByteArray.empty.size≤maxLen;decide,h1'.out,h2'.out⟩,rfl,Cur.fin HC.out HC3.out (ho _ _ HO3.out (Nat.le_refl _)) (fun o=>hf _ _ (Ne.symm hne)) (fun o=>hz _),ho _ _ HO3.out (Nat.le_refl _)⟩
 ·
  go_wp2_with (first
   | ((with_reducible refine (l1Below_any 23 c A n cap w1 HC1.out (by unfold InI;omega)).mono ?_);rintro e w2 ⟨a2,p2,q2,rfl,hC2,hO2⟩;have r2:a2≤22:=q2;clear q2;have HC2:=hide hC2;have HO2:=hide (HO1.out.trans hO2);have Z2:=hide (Z1.out.oth hO2 hne);clear hC2 hO2)
   | ((with_reducible refine (l1Below_any 5 c A n cap w2 HC2.out (by unfold InI;omega)).mono ?_);rintro e w3 ⟨a3,p3,q3,rfl,hC3,hO3⟩;have r3:a3≤4:=q3;clear q3;have HC3:=hide hC3;have HO3:=hide (HO2.out.trans hO3);have Z3:=hide (Z2.out.oth hO3 hne);clear hC3 hO3)
   | ((with_reducible refine (l1Below_any 4 c A n cap w3 HC3.out (by unfold InI;omega)).mono ?_);rintro e w4 ⟨a4,p4,q4,rfl,hC4,hO4⟩;have r4:a4≤3:=q4;clear q4;have HC4:=hide hC4;have HO4:=hide (HO3.out.trans hO4);have Z4:=hide (Z3.out.oth hO4 hne);clear hC4 hO4)
   | (go_at_call 49;refine (l1Pick_any w4.heap.size 4 1 4 c A n cap _ (HC4.out.bel bl) (rowT_new 1 [⟨#[]⟩,⟨#[]⟩,⟨#[]⟩,⟨#[113]⟩] (by decide +kernel)) (by have:=HC4.out.1;omega) (by omega) (by omega)).mono ?_;rintro e w5 ⟨x,hx,rfl,hC5,hO5⟩;have hx':=hide hx;have HC5:=hide hC5;have HO5:=hide (HO4.out.trans (Oth.trans (Oth.of_bel bl) hO5));have Z5:=hide (Z6.oth (Z4.out.on (w':=w4.alloc _) bl) hO5 hne);have h5:=Z5.out;obtain⟨z0,z1,z2,z3,z4,z5,zf,zl⟩:=h5;clear hC5 hO5 hx))
  refine gen_ret6o Z5.out fun wz d0 d1 d2 d3 d4 d5 ho hf hz _=>?_
  exact bodyPost_ret (v:=(VVal.mk (a2 - 1) (a3 - 1) (a4 - 1) x 0 0).val) (by simp[results,Tryd.results28,d0,d1,d2,d3,d4,d5,go_sem];try rfl) rfl ⟨⟨a2 - 1,a3 - 1,a4 - 1,x,0,0⟩,⟨inI_small (by show -100≤a2 - 1;omega) (by show a2 - 1≤100;omega),inI_small (by show -100≤a3 - 1;omega) (by show a3 - 1≤100;omega),inI_small (by show -100≤a4 - 1;omega) (by show a4 - 1≤100;omega),by have:=hx'.out;show x.size≤maxLen;unfold maxLen;omega,in0,in0⟩,rfl,Cur.fin HC.out HC5.out (ho _ _ HO5.out (Nat.le_refl _)) (fun o=>hf _ _ (Ne.symm hne)) (fun o=>hz _),ho _ _ HO5.out (Nat.le_refl _)⟩
end Go.Proofs.YtoikhhnmbbbjjaaDoor
namespace Go.Proofs.YtoikhhnmbbbjjaaDoor
set_option linter.unusedVariables false
set_option linter.unusedSimpArgs false
set_option maxRecDepth 100000
open Go.ChangeShapes Go.WideShapes Go.ChangeAt Go.RowKit Go.Deep
theorem cell_in {w:World} {a:Addr} {v:Value} (h:w.cell? a=some v):a.spot=none∧a.block<w.heap.size:=by
 unfold World.cell? at h
 split at h
 ·
  rename_i c _ _ hb
  refine⟨?_,?_⟩
  ·
   split at h
   ·
    cases h
   ·
    rename_i hs;cases hsp:a.spot with
    | none=>rfl
    | some x=>rw[hsp]at hs;simp at hs
  ·
   rcases Nat.lt_or_ge a.block w.heap.size with h' | h'
   ·
    exact h'
   ·
    rw[Array.getElem?_eq_none h']at hb;cases hb
 ·
  cases h
theorem bounds_u8' {n:Int} (h:(Lit.int .u8 n).wf=true):0≤n∧n<256:=by
 have e1:IntKind.u8.min=0:=by decide
 have e2:IntKind.u8.max=255:=by decide
 simp[Lit.wf,e1,e2]at h
 omega
theorem open_bytes {H:Type} {enc:TypeId × Value→H} {W:World} {spare:Nat→Bool} {held:Bool} {A:Option Addr} {n cap:Nat} {d:DataW H} {p:List MemPlace}
  (h:DataW.Trod enc Tryd.prog W 0 spare held 22 (.slice A n cap) d p):∀c,W.heap.size≤c→n≤1048576→Bts W c A n:=by
 intro c hc hn
 refine⟨hn,fun h0=>?_⟩
 obtain⟨fuel,hf⟩:=h
 rcases open_slice1 Tryd.underlying22 (by kernel_rfl) hf with⟨e,_⟩ | ⟨a,len,cap',m,k,V,D,Pl,e,_,hl,_,hm,_,hi⟩
 ·
  simp only[Value.cells]at e
  injection e with e _
  injection e with e1 e2 e3
  omega
 ·
  simp only[Value.cells]at e
  injection e with e _
  injection e with e1 e2 e3
  subst e1 e2 e3
  have hlm:n≤m:=by rw[hm];split <;> omega
  have hz:=hi 0 (by omega)
  have hz1:=cell_in hz.1
  obtain⟨b,o,sp⟩:=a
  simp only[Addr.add]at hz1
  obtain⟨rfl,hb⟩:=hz1
  refine⟨b,o,rfl,hb,by show b≠c;have:b<W.heap.size:=hb;omega,fun j hj=>?_⟩
  obtain⟨h1,h2⟩:=hi j (by omega)
  obtain⟨x,ex,_,wx⟩:=DataW.trod_int (cs:=[V j]) Tryd.underlying5 h2
  simp only[List.cons.injEq,and_true]at ex
  have hx:=bounds_u8' wx
  refine⟨x.toNat,by omega,?_⟩
  rw[show ((x.toNat:Nat):Int)=x by omega,←ex]
  rcases Nat.eq_zero_or_pos j with h0 | h0
  ·
   subst h0;simpa[Addr.add]using h1
  ·
   have h9:¬j=0:=by omega
   simpa[Addr.add,h9]using h1
end Go.Proofs.YtoikhhnmbbbjjaaDoor
