/- A box of six cells of the call's own (a result), kept through calls and stores; a world under one name. -/
import Derived.Test.YtoikhhnmbbbjjaaDoorPr
import Derived.Test.YtoikhhnmbbbjjaaDoorPB
import Derived.Deep.Cut
import Derived.Test.YtoikhhnmbbbjjaaDoorPS2
import Derived.Test.YtoikhhnmbbbjjaaDoorPS3z
import Derived.Test.YtoikhhnmbbbjjaaDoorPShelf
import Derived.Test.YtoikhhnmbbbjjaaDoorPS8
import Derived.Test.YtoikhhnmbbbjjaaDoorPS9
namespace Go.Proofs.YtoikhhnmbbbjjaaDoor
set_option linter.unusedVariables false
set_option linter.unusedSimpArgs false
set_option maxRecDepth 100000
open Go.RowKit
def Z6 (w:World) (b:Nat):Prop:=w.cell? ⟨b,0,none⟩=some (.int .i64 0)∧w.cell? ⟨b,1,none⟩=some (.int .i64 0)∧w.cell? ⟨b,2,none⟩=some (.int .i64 0)∧w.cell? ⟨b,3,none⟩=some (.string ByteArray.empty)∧w.cell? ⟨b,4,none⟩=some (.int .i64 0)∧w.cell? ⟨b,5,none⟩=some (.int .i64 0)∧(∀o,w.frozen? ⟨b,o,none⟩=false)∧b<w.heap.size
theorem Z6.on {w w':World} {b:Nat} (h:Z6 w b) (hb:Bel w w'):Z6 w' b:=by
 obtain⟨c0,c1,c2,c3,c4,c5,f,l⟩:=h
 exact⟨(hb.box b l 0).trans c0,(hb.box b l 1).trans c1,(hb.box b l 2).trans c2,(hb.box b l 3).trans c3,(hb.box b l 4).trans c4,(hb.box b l 5).trans c5,fun o=>(hb.boxf b l o).trans (f o),Nat.lt_of_lt_of_le l hb.size⟩
theorem Z6.new {w:World} {t:TypeId}:Z6 (w.alloc (.cells #[.int .i64 0,.int .i64 0,.int .i64 0,.string ByteArray.empty,.int .i64 0,.int .i64 0] t)) w.heap.size :=
 ⟨by simp,by simp,by simp,by simp,by simp,by simp,fun o=>by simp,by simp⟩
def put6 (w:World) (b:Nat) (x0 x1 x2 x3 x4 x5:Value):World:=(((((w.setCell ⟨b,0,none⟩ x0).setCell ⟨b,1,none⟩ x1).setCell ⟨b,2,none⟩ x2).setCell ⟨b,3,none⟩ x3).setCell ⟨b,4,none⟩ x4).setCell ⟨b,5,none⟩ x5
theorem Z6.put {w:World} {b:Nat} (h:Z6 w b) (x0 x1 x2 x3 x4 x5:Value) :
  (put6 w b x0 x1 x2 x3 x4 x5).cell? ⟨b,0,none⟩=some x0∧(put6 w b x0 x1 x2 x3 x4 x5).cell? ⟨b,1,none⟩=some x1∧(put6 w b x0 x1 x2 x3 x4 x5).cell? ⟨b,2,none⟩=some x2∧(put6 w b x0 x1 x2 x3 x4 x5).cell? ⟨b,3,none⟩=some x3∧(put6 w b x0 x1 x2 x3 x4 x5).cell? ⟨b,4,none⟩=some x4∧(put6 w b x0 x1 x2 x3 x4 x5).cell? ⟨b,5,none⟩=some x5:=by
 obtain⟨c0,c1,c2,c3,c4,c5,f,l⟩:=h
 have n:∀i j:Nat,i≠j→(⟨b,i,none⟩:Addr)≠⟨b,j,none⟩:=fun i j h e=>h (by injection e)
 unfold put6
 refine⟨?_,?_,?_,?_,?_,?_⟩
 ·
  rw[World.cell?_setCell_other (h:=n 5 0 (by decide)),World.cell?_setCell_other (h:=n 4 0 (by decide)),World.cell?_setCell_other (h:=n 3 0 (by decide)),World.cell?_setCell_other (h:=n 2 0 (by decide)),World.cell?_setCell_other (h:=n 1 0 (by decide)),World.cell?_setCell_same (h:=c0)]
 ·
  rw[World.cell?_setCell_other (h:=n 5 1 (by decide)),World.cell?_setCell_other (h:=n 4 1 (by decide)),World.cell?_setCell_other (h:=n 3 1 (by decide)),World.cell?_setCell_other (h:=n 2 1 (by decide)),World.cell?_setCell_same (u:=.int .i64 0) (h:=by rw[World.cell?_setCell_other (h:=n 0 1 (by decide))];exact c1)]
 ·
  rw[World.cell?_setCell_other (h:=n 5 2 (by decide)),World.cell?_setCell_other (h:=n 4 2 (by decide)),World.cell?_setCell_other (h:=n 3 2 (by decide)),World.cell?_setCell_same (u:=.int .i64 0) (h:=by rw[World.cell?_setCell_other (h:=n 1 2 (by decide)),World.cell?_setCell_other (h:=n 0 2 (by decide))];exact c2)]
 ·
  rw[World.cell?_setCell_other (h:=n 5 3 (by decide)),World.cell?_setCell_other (h:=n 4 3 (by decide)),World.cell?_setCell_same (u:=.string ByteArray.empty) (h:=by rw[World.cell?_setCell_other (h:=n 2 3 (by decide)),World.cell?_setCell_other (h:=n 1 3 (by decide)),World.cell?_setCell_other (h:=n 0 3 (by decide))];exact c3)]
 ·
  rw[World.cell?_setCell_other (h:=n 5 4 (by decide)),World.cell?_setCell_same (u:=.int .i64 0) (h:=by rw[World.cell?_setCell_other (h:=n 3 4 (by decide)),World.cell?_setCell_other (h:=n 2 4 (by decide)),World.cell?_setCell_other (h:=n 1 4 (by decide)),World.cell?_setCell_other (h:=n 0 4 (by decide))];exact c4)]
 ·
  rw[World.cell?_setCell_same (u:=.int .i64 0) (h:=by rw[World.cell?_setCell_other (h:=n 4 5 (by decide)),World.cell?_setCell_other (h:=n 3 5 (by decide)),World.cell?_setCell_other (h:=n 2 5 (by decide)),World.cell?_setCell_other (h:=n 1 5 (by decide)),World.cell?_setCell_other (h:=n 0 5 (by decide))];exact c5)]
theorem Bel.put6 {w0 w:World} (h:Bel w0 w) {b:Nat} (hb:w0.heap.size≤b) (x0 x1 x2 x3 x4 x5:Value):Bel w0 (put6 w b x0 x1 x2 x3 x4 x5) :=
 Bel.set (Bel.set (Bel.set (Bel.set (Bel.set (Bel.set h hb x0) hb x1) hb x2) hb x3) hb x4) hb x5
end Go.Proofs.YtoikhhnmbbbjjaaDoor
namespace Go.Proofs.YtoikhhnmbbbjjaaDoor
set_option linter.unusedVariables false
set_option linter.unusedSimpArgs false
set_option maxRecDepth 100000
open Go.RowKit
--%quiet
def inV (s:TStore) (v:VVal):Bool:=validB s&&inB s v
set_option maxHeartbeats 8000000 in
theorem specValueIn_any (s:TStore) (v:VVal) (S:Nat→Prop) (w:World) (vs:List Value) (hv:Dat.HoldVals w S s.D vs) (hx:v.Ok):Calls Tryd.prog 8 #[.agg vs.toArray,.agg #[.int .i64 v.k,.int .i64 v.n,.int .i64 v.i,.string v.t,.int .i64 v.lo,.int .i64 v.hi]] w fun e w'=>e=.returned (.bool (inV s v))∧Bel w w':=by
 obtain⟨x0,x1,x2,x3,x4,x5,x6,x7,x8,x9,x10,x11,x12⟩:=s
 have HV:=hide hv
 obtain⟨A0,c0,A1,c1,A2,c2,A3,c3,A6,c6,A7,c7,A8,c8,rfl,g0,g1,g2,g3,g4,g5,g6,g7,g8,-,g10,g11,g12⟩:=TStore.vals hv
 have HR0:=hide g0
 have hlc0:=g0.1
 have hcm0:=g0.2.1
 simp only[List.length_map]at hlc0
 unfold maxLen at hcm0
 have HR1:=hide g1
 have hlc1:=g1.1
 have hcm1:=g1.2.1
 simp only[List.length_map]at hlc1
 unfold maxLen at hcm1
 have HR2:=hide g2
 have hlc2:=g2.1
 have hcm2:=g2.2.1
 simp only[List.length_map]at hlc2
 unfold maxLen at hcm2
 have HR3:=hide g3
 have hlc3:=g3.1
 have hcm3:=g3.2.1
 simp only[List.length_map]at hlc3
 unfold maxLen at hcm3
 have HR6:=hide g6
 have hlc6:=g6.1
 have hcm6:=g6.2.1
 simp only[List.length_map]at hlc6
 unfold maxLen at hcm6
 have HR7:=hide g7
 have hlc7:=g7.1
 have hcm7:=g7.2.1
 simp only[List.length_map]at hlc7
 unfold maxLen at hcm7
 have HR8:=hide g8
 have hlc8:=g8.1
 have hcm8:=g8.2.1
 simp only[List.length_map]at hlc8
 unfold maxLen at hcm8
 unfold maxLen at g4
 clear hv g0 g1 g2 g3 g6 g7 g8
 have HS1:=hide (show StoreAt (w.alloc (.cells #[.slice A0 x0.length c0,.slice A1 x1.length c1,.slice A2 x2.length c2,.slice A3 x3.length c3,.string x4,.int .i64 x5,.slice A6 x6.length c6,.slice A7 x7.length c7,.slice A8 x8.length c8,.bool x9,.int .i64 x10,.int .i64 x11,.int .i64 x12] 30)) S w.heap.size (TStore.mk x0 x1 x2 x3 x4 x5 x6 x7 x8 x9 x10 x11 x12)from StoreAt.mk_of HV.out rfl)
 have HX:=hide hx
 obtain⟨k0,n0,i0,t0,lo0,hi0⟩:=v
 have hts:=hx.t
 have gx0:=hx.k
 unfold maxLen at hts
 clear hx
 simp only at hts gx0 ⊢
 cases hb:validB (TStore.mk x0 x1 x2 x3 x4 x5 x6 x7 x8 x9 x10 x11 x12)
 ·
  have RR:=hide (show inV (TStore.mk x0 x1 x2 x3 x4 x5 x6 x7 x8 x9 x10 x11 x12) ⟨k0,n0,i0,t0,lo0,hi0⟩=false by unfold inV;rw[hb];rfl)
  have HB:=hide hb
  clear hb
  go_enter Tryd.func8,Tryd.ntmps8
  have mkq:=True.intro
  repeat (any_goals ((first | clear mkq | go_quiet (fail));(try go_wp2_with (first | (go_at_call 18;refine (specValid_any (TStore.mk x0 x1 x2 x3 x4 x5 x6 x7 x8 x9 x10 x11 x12) S _ _ (Dat.HoldVals.bel bl HV.out)).mono ?_;rintro e w1 ⟨rfl,hb1⟩;rw[HB.out];(have hz1:=hb1.sz;obtain⟨hk1_0,hf1_0,hl1_0,hn1_0⟩:=hb1.lay (w.heap.size);obtain⟨hk1_1,hf1_1,hl1_1,hn1_1⟩:=hb1.lay (w.heap.size+1)))))))
  all_goals
   go_returns
   exact⟨by rw[RR.out];first | done | rfl,bl⟩
 ·
  have HB:=hide hb
  cases hi:inB (TStore.mk x0 x1 x2 x3 x4 x5 x6 x7 x8 x9 x10 x11 x12) ⟨k0,n0,i0,t0,lo0,hi0⟩
  ·
   have RR:=hide (show inV (TStore.mk x0 x1 x2 x3 x4 x5 x6 x7 x8 x9 x10 x11 x12) ⟨k0,n0,i0,t0,lo0,hi0⟩=false by unfold inV;rw[hb,hi];rfl)
   exact rk41
  ·
   have RR:=hide (show inV (TStore.mk x0 x1 x2 x3 x4 x5 x6 x7 x8 x9 x10 x11 x12) ⟨k0,n0,i0,t0,lo0,hi0⟩=true by unfold inV;rw[hb,hi];rfl)
   exact rk41
end Go.Proofs.YtoikhhnmbbbjjaaDoor
