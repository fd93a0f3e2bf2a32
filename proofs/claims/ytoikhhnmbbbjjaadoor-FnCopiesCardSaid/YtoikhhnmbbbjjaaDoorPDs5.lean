/- The items of a pattern that is drawn. -/
import Derived.Test.YtoikhhnmbbbjjaaDoorPr
import Derived.Test.YtoikhhnmbbbjjaaDoorPDs3
import Derived.Test.YtoikhhnmbbbjjaaDoorPK6
import Derived.Test.YtoikhhnmbbbjjaaDoorPK0
import Derived.Test.YtoikhhnmbbbjjaaDoorPMStringS
import Derived.Test.YtoikhhnmbbbjjaaDoorPTV
namespace Go.Proofs.YtoikhhnmbbbjjaaDoor
set_option linter.unusedVariables false
set_option linter.unusedSimpArgs false
set_option maxRecDepth 100000
open Go.RowKit
def cellsV:TValue→List Value | .mk k n i t lo hi=>[.int .i64 k,.int .i64 n,.int .i64 i,.string t,.int .i64 lo,.int .i64 hi]
theorem cellsV_own (w:World):∀x:TValue,x.v.Ok→Dat.OwnVals w [] x.D (cellsV x)
 | .mk k n i t lo hi,h=>by
  rw[TValue.D_mk]
  exact⟨[],[],rfl,Dat.own_int.2 ⟨rfl,rfl,h.k⟩,⟨[],[],rfl,Dat.own_int.2 ⟨rfl,rfl,h.n⟩,⟨[],[],rfl,Dat.own_int.2 ⟨rfl,rfl,h.i⟩,⟨[],[],rfl,Dat.own_str.2 ⟨rfl,rfl,h.t⟩,⟨[],[],rfl,Dat.own_int.2 ⟨rfl,rfl,h.lo⟩,⟨[],[],rfl,Dat.own_int.2 ⟨rfl,rfl,h.hi⟩,rfl⟩⟩⟩⟩⟩⟩
theorem ownFl_vals (w:World):∀xs:List TValue,(∀x,x∈xs→x.v.Ok)→Dat.OwnFl w 6 [] (xs.map TValue.D) (xs.flatMap cellsV)
 | [],_=>⟨rfl,rfl⟩
 | x :: r,h=>⟨[],[],cellsV x,r.flatMap cellsV,rfl,by simp,by cases x;rfl,cellsV_own w x (h x (by simp)),ownFl_vals w r (fun y hy=>h y (by simp[hy]))⟩
theorem cellsV_len:∀xs:List TValue,(xs.flatMap cellsV).length=xs.length*6
 | []=>rfl
 | .mk k n i t lo hi :: r=>by
  have:=cellsV_len r
  simp only[List.flatMap_cons,cellsV,List.length_append,List.length_cons,List.length_nil,this]
  omega
theorem OwnD.litV (w:World) (E:TypeId) (xs:List TValue) (hok:∀x,x∈xs→x.v.Ok) (hl:xs.length≤1000) {cs:Array Value} (hcs:cs=(xs.flatMap cellsV).toArray):OwnD (w.alloc (.cells cs E)) E 6 (.slice (some ⟨w.heap.size,0,none⟩) xs.length xs.length) [] (xs.map TValue.D):=by
 subst hcs
 refine⟨xs.flatMap cellsV,⟨by rw[cellsV_len,List.length_map],Or.inr ⟨w.heap.size,xs.length,(xs.flatMap cellsV).toArray,by rw[List.length_map],Nat.zero_le _,heap_alloc_new w _,by simp,by unfold maxLen;omega,by rw[List.size_toArray];exact cellsV_len xs,by have e:=cellsV_len xs;simp only[List.length_map];rw[←e];exact List.take_length⟩⟩,ownFl_vals _ xs hok,List.nodup_nil,fun b _ h=>by cases h⟩
theorem lit_obj {w:World} (kk t:Int) (vs:List TValue) (v:Value) (h:OwnD w 34 6 v [] (vs.map TValue.D)) (hk:InI kk) (ht:InI t):∃M:List Nat,(∀s,InI s→Dat.OwnVals w M (TObject.mk kk t s vs []).D [.int .i64 kk,.int .i64 t,.int .i64 s,v,.slice none 0 0])∧M.Nodup∧∀x,x∈M→Blk v [] x:=by
 obtain⟨A3,c3,L3,e3,r3,n3,b3⟩:=h.ownRow
 rw[List.length_map]at e3
 subst e3
 refine⟨L3++[],fun s hs=>TObject.own_mk hk ht hs r3 (x4:=[]) (OwnRow.nil w 6 none 0 (Nat.zero_le _)),by simpa using n3,fun x hx=>b3 x (by simpa using hx)⟩
def FewI (w:World) (e:Ending) (w':World):Prop:=∃(A:Option Addr) (m c:Nat),m≤2∧e=.returned (.slice A m c)∧(m≠0→∃g,A=some ⟨g,0,none⟩∧w.heap.size≤g∧RowI w' g m)∧Bel w w'
theorem l13PatternItems_any (op:Int) (w:World):Calls Tryd.prog 54 #[.int .i64 op] w (FewI w):=by
 go_enter Tryd.func54,Tryd.ntmps54
 go_wp2_with (fail)
 all_goals
  go_returns
  first
   | exact⟨none,0,0,by omega,rfl,fun h=>absurd rfl h,bl⟩
   | exact⟨_,1,_,by omega,rfl,fun _=>⟨w.heap.size,rfl,Nat.le_refl _,rowI_new [1] (by decide)⟩,bl⟩
   | exact⟨_,1,_,by omega,rfl,fun _=>⟨w.heap.size,rfl,Nat.le_refl _,rowI_new [2] (by decide)⟩,bl⟩
   | exact⟨_,1,_,by omega,rfl,fun _=>⟨w.heap.size,rfl,Nat.le_refl _,rowI_new [3] (by decide)⟩,bl⟩
   | exact⟨_,1,_,by omega,rfl,fun _=>⟨w.heap.size,rfl,Nat.le_refl _,rowI_new [12] (by decide)⟩,bl⟩
   | exact⟨_,1,_,by omega,rfl,fun _=>⟨w.heap.size,rfl,Nat.le_refl _,rowI_new [13] (by decide)⟩,bl⟩
   | exact⟨_,2,_,by omega,rfl,fun _=>⟨w.heap.size,rfl,Nat.le_refl _,rowI_new [12,12] (by decide)⟩,bl⟩
   | exact⟨_,2,_,by omega,rfl,fun _=>⟨w.heap.size,rfl,Nat.le_refl _,rowI_new [12,13] (by decide)⟩,bl⟩
def PatP (w0:World) (c q:Nat) (A:Option Addr) (n cap:Nat) (x0:List ByteArray) (x1:List TRecordType) (x3:List TValue) (v0 v1 v3:Value) (L1:List Nat) (ts:ByteArray) (pos tk:Int) (w:World) (v2:Value) (L:List Nat) (x2:List TObject) (le:List Ent) (e:Ending) (w':World):Prop :=
 ∃(v:VVal) (y:Value) (L':List Nat) (y2:List TObject) (u:Int),v.Ok∧e=.returned v.val∧SQ w0 c q A n cap x0 x1 x3 v0 v1 v3 L1 ts pos tk w' y L' y2 u le∧y2.length≤x2.length+1∧(w.heap.size≤w'.heap.size∧∀d,d<w.heap.size→d≠q→d≠c→v2.ownBlock≠some d→w'.heap[d]?=w.heap[d]?)∧∀x,Blk y L' x→Blk v2 L x∨w.heap.size≤x
section
variable {w0:World} {c q:Nat} {A:Option Addr} {n cap:Nat} {x0:List ByteArray} {x1:List TRecordType} {x3:List TValue} {v0 v1 v3:Value} {L1:List Nat} {ts:ByteArray} {pos tk:Int} {w w' w4:World} {v2:Value} {L:List Nat} {x2:List TObject} {mm:Int} {le:List Ent} {b:Nat}
theorem SQ.butb (h:SQ w0 c q A n cap x0 x1 x3 v0 v1 v3 L1 ts pos tk w v2 L x2 mm le) (hl:∀f,f∈(LA x0 x1 v0 v1 L1)++EO v2 L x2 :: (LG x3 v3 le)→¬Blk f.v f.L b) (hb:w0.heap.size≤b∧b≠q) (k:ButB b w w'):SQ w0 c q A n cap x0 x1 x3 v0 v1 v3 L1 ts pos tk w' v2 L x2 mm le:=by
 have hz:=k.size
 exact h.via ⟨h.st.box.block (by omega) (k.block q (Ne.symm hb.2)),h.st.ents.keep (by omega) (fun e he x hx=>k.block x (fun e2=>hl e he (e2▸hx))),h.st.low⟩ ⟨k.os,k.tape,k.output,by omega⟩ (fun d hd=>k.block d (by omega)) h.ok.2.2.1 h.sml
theorem PatP.plain (h:SQ w0 c q A n cap x0 x1 x3 v0 v1 v3 L1 ts pos tk w v2 L x2 mm le) (hC:Cur w' c A n cap) (hO:Oth c w w') {v:VVal} (hv:v.Ok):PatP w0 c q A n cap x0 x1 x3 v0 v1 v3 L1 ts pos tk w v2 L x2 le (.returned v.val) w' :=
 ⟨v,v2,L,x2,mm,hv,rfl,h.oth' hO hC,Nat.le_succ _,⟨hO.size,fun d hd _ hc _=>hO.block d hd hc⟩,fun x hx=>Or.inl hx⟩
end
def LitP (w0:World) (c q:Nat) (A:Option Addr) (n cap:Nat) (x0:List ByteArray) (x1:List TRecordType) (x3:List TValue) (v0 v1 v3:Value) (L1:List Nat) (ts:ByteArray) (pos tk:Int) (w1:World) (v2:Value) (L:List Nat) (x2:List TObject) (le:List Ent) (e:Ending) (w':World):Prop :=
 ∃(y:Value) (L':List Nat) (y2:List TObject) (u:Int),e=.returned (.int .i64 (x2.length:Nat))∧SQ w0 c q A n cap x0 x1 x3 v0 v1 v3 L1 ts pos tk w' y L' y2 u le∧y2.length=x2.length+1∧w1.heap.size≤w'.heap.size∧(∀d,d<w1.heap.size→d≠q→v2.ownBlock≠some d→w'.heap[d]?=w1.heap[d]?)∧∀x,Blk y L' x→Blk v2 L x∨w1.heap.size≤x
theorem new_lit {w0:World} {c q:Nat} {A:Option Addr} {n cap:Nat} {x0:List ByteArray} {x1:List TRecordType} {x3:List TValue} {v0 v1 v3:Value} {L1:List Nat} {ts:ByteArray} {pos tk:Int} {w w1:World} {v2:Value} {L:List Nat} {x2:List TObject} {mm:Int} {le:List Ent} (h:SQ w0 c q A n cap x0 x1 x3 v0 v1 v3 L1 ts pos tk w v2 L x2 mm le) (hb1:Bel w w1) (kk t:Int) (xs:List TValue) (hok:∀x,x∈xs→x.v.Ok) (hx:xs.length≤100) {cs:Array Value} (hcs:cs=(xs.flatMap cellsV).toArray) (hk:InI kk) (ht:InI t) (hl:x2.length≤2097152) :
  Calls Tryd.prog 35 #[.pointer (some ⟨q,0,none⟩),.agg #[.int .i64 kk,.int .i64 t,.int .i64 0,.slice (some ⟨w1.heap.size,0,none⟩) xs.length xs.length,.slice none 0 0]] (w1.alloc (.cells cs 34)) (LitP w0 c q A n cap x0 x1 x3 v0 v1 v3 L1 ts pos tk w1 v2 L x2 le):=by
 have hbx:Bel w (w1.alloc (.cells cs 34)):=hb1.trans bl
 have hs:=h.on hbx
 have hz:=hb1.size
 have hz0:=h.oth.size
 have hqs:=h.st.box.1
 obtain⟨M,hd,hn,hM⟩:=lit_obj kk t xs _ (OwnD.litV w1 34 xs hok (by omega) hcs) hk ht
 have hMe:∀x,x∈M→x=w1.heap.size:=fun x hx=>by
  rcases hM x hx with q | q
  ·
   exact (Option.some.inj (show some w1.heap.size=some x from q)).symm
  ·
   cases q
 refine (new_SQ hs kk t _ _ xs [] M hd hn (fun x hx=>?_) hl ⟨hx,by simp⟩).mono ?_
 ·
  have e:=hMe x hx
  exact⟨by omega,by omega,fun f hf hb=>by have:=(h.st.ents.own f hf).lt x hb;omega⟩
 ·
  rintro e w' ⟨y,o,u,rfl,hq,hf,hy⟩
  have hzx:(w1.alloc (.cells cs 34)).heap.size=w1.heap.size+1:=by simp
  refine⟨y,_,_,u,rfl,hq,by simp,by omega,fun d hd h1 h2=>(hf.2 d (by omega) h1 h2).trans (heap_alloc_old w1 _ hd),fun x hx=>?_⟩
  rcases hy x hx with q | q | q
  ·
   exact Or.inl q
  ·
   exact Or.inr (by have:=hMe x q;omega)
  ·
   exact Or.inr (by omega)
theorem SQ.fresh {w0:World} {c q:Nat} {A:Option Addr} {n cap:Nat} {x0:List ByteArray} {x1:List TRecordType} {x3:List TValue} {v0 v1 v3:Value} {L1:List Nat} {ts:ByteArray} {pos tk:Int} {w w1:World} {v2 y:Value} {L L':List Nat} {x2 y2:List TObject} {mm:Int} {le:List Ent} (h:SQ w0 c q A n cap x0 x1 x3 v0 v1 v3 L1 ts pos tk w v2 L x2 mm le) (hx:∀x,Blk y L' x→Blk v2 L x∨w1.heap.size≤x) {b:Nat} (h1:w.heap.size≤b) (h2:b<w1.heap.size):∀f,f∈(LA x0 x1 v0 v1 L1)++EO y L' y2 :: (LG x3 v3 le)→¬Blk f.v f.L b:=fun f hf hb=>by
 rcases (show f∈(LA x0 x1 v0 v1 L1)++EO v2 L x2 :: (LG x3 v3 le)∨f=EO y L' y2 by simp at hf ⊢;grind)with q | rfl
 ·
  have:=(h.st.ents.own f q).lt b hb;omega
 ·
  rcases hx b hb with q | q
  ·
   have:=(h.st.ents.own (EO v2 L x2) (by simp)).lt b q;omega
  ·
   omega
set_option maxHeartbeats 4000000 in
theorem l13PatternItem_any {w0:World} {c q:Nat} {A:Option Addr} {n cap:Nat} {x0:List ByteArray} {x1:List TRecordType} {x3:List TValue} {v0 v1 v3:Value} {L1:List Nat} {ts:ByteArray} {pos tk:Int} {w:World} {v2:Value} {L:List Nat} {x2:List TObject} {mm:Int} {le:List Ent} (h:SQ w0 c q A n cap x0 x1 x3 v0 v1 v3 L1 ts pos tk w v2 L x2 mm le) (k:Int) (hl:x2.length≤2097152) :
  Calls Tryd.prog 55 #[.pointer (some ⟨c,0,none⟩),.pointer (some ⟨q,0,none⟩),.int .i64 k] w (PatP w0 c q A n cap x0 x1 x3 v0 v1 v3 L1 ts pos tk w v2 L x2 le):=by
 have H:=hide h
 have HC:=hide h.cur
 have hlt:=h.cur.1
 have hqs:=h.st.box.1
 have hsz:=h.oth.size
 have hne:w.heap.size≠c:=by omega
 have hqn:¬q=w.heap.size:=by omega
 clear h
 have HC0:=hide (HC.out.bel (w':=w.alloc (.cells #[.int .i64 0,.int .i64 0,.int .i64 0,.string ByteArray.empty,.int .i64 0,.int .i64 0] 34)) bl)
 rcases (show k=1∨k=2∨k=3∨k=13∨(k≠1∧k≠2∧k≠3∧k≠13) by omega)with rfl | rfl | rfl | rfl | ⟨k1,k2,k3,k13⟩
 all_goals
  go_enter Tryd.func55,Tryd.ntmps55
 ·
  go_wp2_with (first
   | (go_at_call 50;refine (l1Below_any 4 c A n cap _ (HC.out.bel bl) (by unfold InI;omega)).mono ?_;rintro e w1 ⟨y,y1,y2,rfl,hC,hO⟩;have r2:y≤3:=y2;clear y2;have HC1:=hide hC;have HO1:=hide (Oth.trans (Oth.of_bel (c:=c) (w:=w) bl) hO);have Z1:=hide (Z6.oth Z6.new hO hne);clear hC hO;have h9:=Z1.out;obtain⟨z0,z1,z2,z3,z4,z5,zf,zl⟩:=h9)
   | (go_at_call 48;refine (l11IntD_any y _).mono ?_;rintro e w2 ⟨rfl,hb⟩;have HC2:=hide (HC1.out.bel hb);have HO2:=hide (HO1.out.trans (Oth.of_bel hb));have Z2:=hide (Z1.out.on hb);have h9:=Z2.out;obtain⟨z0,z1,z2,z3,z4,z5,zf,zl⟩:=h9;clear hb))
  refine gen_ret6o (Z2.out) fun wz d0 d1 d2 d3 d4 d5 ho hf hz _=>?_
  exact bodyPost_ret (v:=(VVal.ofInt y).val) (by simp[results,Tryd.results55,d0,d1,d2,d3,d4,d5,go_sem];try rfl) rfl (PatP.plain H.out (Cur.fin HC.out (HC2.out) (ho _ _ (HO2.out) (Nat.le_refl _)) (fun o=>hf _ _ (Ne.symm hne)) (fun o=>hz _)) (ho _ _ (HO2.out) (Nat.le_refl _)) (⟨inI_small (by show -100≤(1:Int);omega) (by show (1:Int)≤100;omega),by show InI y;unfold InI;omega,in0,by show ByteArray.empty.size≤maxLen;decide,in0,in0⟩))
 ·
  go_wp2_with (first
   | (go_at_call 49;refine (l1Pick_any (w.heap.size+1) 4 3 4 c A n cap ((w.alloc (.cells #[.int .i64 0,.int .i64 0,.int .i64 0,.string ByteArray.empty,.int .i64 0,.int .i64 0] 34)).alloc _) (HC.out.bel bl) (by have h:=rowT_new (w:=w.alloc (.cells #[.int .i64 0,.int .i64 0,.int .i64 0,.string ByteArray.empty,.int .i64 0,.int .i64 0] 34)) (t:=9) 3 [⟨#[]⟩,⟨#[97]⟩,⟨#[97,110]⟩,⟨#[98,97,110]⟩] (by decide +kernel);rw[World.size_alloc]at h;exact h) (by omega) (by omega) (by omega)).mono ?_;rintro e w1 ⟨x,hx,rfl,hC,hO⟩;have hx':=hide hx;have HC1:=hide hC;have HO1:=hide (Oth.trans (Oth.of_bel (c:=c) (w:=w) bl) hO);have Z1:=hide (Z6.oth (Z6.on (w':=(w.alloc (.cells #[.int .i64 0,.int .i64 0,.int .i64 0,.string ByteArray.empty,.int .i64 0,.int .i64 0] 34)).alloc _) Z6.new bl) hO hne);clear hC hO hx;have h9:=Z1.out;obtain⟨z0,z1,z2,z3,z4,z5,zf,zl⟩:=h9)
   | (go_at_call 51;refine (l11TextD_any x _).mono ?_;rintro e w2 ⟨rfl,hb⟩;have HC2:=hide (HC1.out.bel hb);have HO2:=hide (HO1.out.trans (Oth.of_bel hb));have Z2:=hide (Z1.out.on hb);have h9:=Z2.out;obtain⟨z0,z1,z2,z3,z4,z5,zf,zl⟩:=h9;clear hb))
  refine gen_ret6o (Z2.out) fun wz d0 d1 d2 d3 d4 d5 ho hf hz _=>?_
  exact bodyPost_ret (v:=(VVal.ofText x).val) (by simp[results,Tryd.results55,d0,d1,d2,d3,d4,d5,go_sem];try rfl) rfl (PatP.plain H.out (Cur.fin HC.out (HC2.out) (ho _ _ (HO2.out) (Nat.le_refl _)) (fun o=>hf _ _ (Ne.symm hne)) (fun o=>hz _)) (ho _ _ (HO2.out) (Nat.le_refl _)) (⟨inI_small (by show -100≤(2:Int);omega) (by show (2:Int)≤100;omega),in0,in0,by have h:=hx'.out;show x.size≤maxLen;unfold maxLen;omega,in0,in0⟩))
 ·
  go_wp2_with (first
   | (go_at_call 49;refine (l1Pick_any (w.heap.size+1) 4 3 4 c A n cap ((w.alloc (.cells #[.int .i64 0,.int .i64 0,.int .i64 0,.string ByteArray.empty,.int .i64 0,.int .i64 0] 34)).alloc _) (HC.out.bel bl) (by have h:=rowT_new (w:=w.alloc (.cells #[.int .i64 0,.int .i64 0,.int .i64 0,.string ByteArray.empty,.int .i64 0,.int .i64 0] 34)) (t:=9) 3 [⟨#[97]⟩,⟨#[97,110]⟩,⟨#[98,97,110]⟩,⟨#[]⟩] (by decide +kernel);rw[World.size_alloc]at h;exact h) (by omega) (by omega) (by omega)).mono ?_;rintro e w1 ⟨x,hx,rfl,hC,hO⟩;have hx':=hide hx;have HC1:=hide hC;have HO1:=hide (Oth.trans (Oth.of_bel (c:=c) (w:=w) bl) hO);have Z1:=hide (Z6.oth (Z6.on (w':=(w.alloc (.cells #[.int .i64 0,.int .i64 0,.int .i64 0,.string ByteArray.empty,.int .i64 0,.int .i64 0] 34)).alloc _) Z6.new bl) hO hne);clear hC hO hx;have h9:=Z1.out;obtain⟨z0,z1,z2,z3,z4,z5,zf,zl⟩:=h9)
   | (go_at_call 73;refine (specNewCset_any x _ (by have h:=hx'.out;unfold maxLen;omega)).mono ?_;rintro e w2 ⟨rfl,hb⟩;have hI:=ns_in x;have hI1:=hide hI.1;have hI2:=hide hI.2;clear hI;generalize nsLo x=lo at hI1 ⊢;generalize nsHi x=hi at hI2 ⊢;generalize nsOk x=ok;have HC2:=hide (HC1.out.bel hb);have HO2:=hide (HO1.out.trans (Oth.of_bel hb));have Z2:=hide (Z1.out.on hb);clear hb)
   | (go_at_call 57;refine (l11CsetD_any lo hi _).mono ?_;rintro e w3 ⟨rfl,hb⟩;have HC3:=hide (HC2.out.bel (Bel.trans (show Bel w2 _ from bl) hb));have HO3:=hide (HO2.out.trans (Oth.of_bel (Bel.trans (show Bel w2 _ from bl) hb)));have Z3:=hide (Z2.out.on (Bel.trans (show Bel w2 _ from bl) hb));have h9:=Z3.out;obtain⟨z0,z1,z2,z3,z4,z5,zf,zl⟩:=h9;clear hb))
  refine gen_ret6o (Z3.out) fun wz d0 d1 d2 d3 d4 d5 ho hf hz _=>?_
  exact bodyPost_ret (v:=(VVal.ofSet lo hi).val) (by simp[results,Tryd.results55,d0,d1,d2,d3,d4,d5,go_sem];try rfl) rfl (PatP.plain H.out (Cur.fin HC.out (HC3.out) (ho _ _ (HO3.out) (Nat.le_refl _)) (fun o=>hf _ _ (Ne.symm hne)) (fun o=>hz _)) (ho _ _ (HO3.out) (Nat.le_refl _)) (⟨inI_small (by show -100≤(3:Int);omega) (by show (3:Int)≤100;omega),in0,in0,by show ByteArray.empty.size≤maxLen;decide,hI1.out,hI2.out⟩))
 ·
  go_wp2_with (first
   | (go_at_call 50;refine (l1Below_any 2 c A n cap _ (HC.out.bel bl) (by unfold InI;omega)).mono ?_;rintro e w1 ⟨y,y1,y2,rfl,hC,hO⟩;have r2:y≤1:=y2;clear y2;have HC1:=hide hC;have HO1:=hide (Oth.trans (Oth.of_bel (c:=c) (w:=w) bl) hO);have Z1:=hide (Z6.oth Z6.new hO hne);clear hC hO;have h9:=Z1.out;obtain⟨z0,z1,z2,z3,z4,z5,zf,zl⟩:=h9))
  refine gen_ret6o (Z1.out) fun wz d0 d1 d2 d3 d4 d5 ho hf hz _=>?_
  exact bodyPost_ret (v:=((⟨14,0,y,ByteArray.empty,0,0⟩:VVal)).val) (by simp[results,Tryd.results55,d0,d1,d2,d3,d4,d5,go_sem];try rfl) rfl (PatP.plain H.out (Cur.fin HC.out (HC1.out) (ho _ _ (HO1.out) (Nat.le_refl _)) (fun o=>hf _ _ (Ne.symm hne)) (fun o=>hz _)) (ho _ _ (HO1.out) (Nat.le_refl _)) (⟨inI_small (by show -100≤(14:Int);omega) (by show (14:Int)≤100;omega),in0,by show InI y;unfold InI;omega,by show ByteArray.empty.size≤maxLen;decide,in0,in0⟩))
 ·
  have e1:(k==1)=false:=beq_eq_false_iff_ne.2 k1
  have e2:(k==2)=false:=beq_eq_false_iff_ne.2 k2
  have e3:(k==3)=false:=beq_eq_false_iff_ne.2 k3
  have e13:(k==13)=false:=beq_eq_false_iff_ne.2 k13
  clear k1 k2 k3 k13
  have hv2:v2.ownBlock≠some w.heap.size:=fun e=>by have:=(H.out.st.ents.own (EO v2 L x2) (by simp)).lt w.heap.size (Or.inl e);omega
  have ok2:(TValue.mk 2 0 0 ⟨#[97]⟩ 0 0).v.Ok:=⟨inI_small (by show -100≤(2:Int);omega) (by show (2:Int)≤100;omega),in0,in0,by show (⟨#[97]⟩:ByteArray).size≤maxLen;decide,in0,in0⟩
  go_wp2_with (first
   | (go_at_call 51;refine (l11TextD_any _ _).mono ?_;rintro e w1 ⟨rfl,hb1⟩;have Z1:=hide (Z6.on Z6.new hb1);have k1:Bel w w1:=bl;have hz1:w.heap.size<w1.heap.size:=Z1.out.2.2.2.2.2.2.2)
   | (go_at_call 35;refine (new_lit H.out (w1:=w1) bl 7 1 [.mk 2 0 0 ⟨#[97]⟩ 0 0] (fun x hx=>by rw[List.mem_singleton.1 hx];exact ok2) (by decide) rfl (by unfold InI;omega) (by unfold InI;omega) hl).mono ?_;rintro e w2 ⟨y,L9,y2,u,rfl,hs,hn2,hz2,hf,hx⟩;have HS2:=hide hs;have HF:=hide hf;have HX:=hide hx;have Z2:=hide (Z6.block Z1.out hz2 (hf _ (by omega) (by omega) hv2));have h9:=Z2.out;obtain⟨z0,z1,z2,z3,z4,z5,zf,zl⟩:=h9;clear hs hf hx))
  refine gen_ret6k Z2.out fun wz d0 d1 d2 d3 d4 d5 hB=>?_
  have hzB:=hB.size
  exact bodyPost_ret (v:=((⟨12,x2.length,0,ByteArray.empty,0,0⟩:VVal)).val) (by simp[results,Tryd.results55,d0,d1,d2,d3,d4,d5,go_sem];try rfl) rfl ⟨_,y,L9,y2,u,⟨inI_small (by show -100≤(12:Int);omega) (by show (12:Int)≤100;omega),by show InI (x2.length:Int);unfold InI;omega,in0,by show ByteArray.empty.size≤maxLen;decide,in0,in0⟩,rfl,HS2.out.butb (SQ.fresh H.out (w1:=w1) HX.out (Nat.le_refl _) (by omega)) ⟨hsz,Ne.symm hqn⟩ hB,by omega,⟨by omega,fun d hd h1 _ h3=>(hB.block d (by omega)).trans ((HF.out d (by omega) h1 h3).trans (Below.block k1 d hd))⟩,fun x hx=>(HX.out x hx).imp id (fun h=>by omega)⟩
end Go.Proofs.YtoikhhnmbbbjjaaDoor
namespace Go.Proofs.YtoikhhnmbbbjjaaDoor
set_option linter.unusedVariables false
set_option linter.unusedSimpArgs false
set_option maxRecDepth 100000
open Go.RowKit
def nmD:List ByteArray:=[⟨#[109,97,105,110]⟩,⟨#[102]⟩]
def flD:List ByteArray:=[⟨#[117]⟩,⟨#[118]⟩]
def rcD:List TRecordType:=[.mk ⟨#[112,111,105,110,116]⟩ flD 0]
def glD:List TValue:=[.mk 0 0 0 ⟨#[]⟩ 0 0,.mk 1 3 0 ⟨#[]⟩ 0 0]
def obD:List TValue:=[.mk 0 0 0 ⟨#[]⟩ 0 0,.mk 1 1 0 ⟨#[]⟩ 0 0,.mk 2 0 0 ⟨#[97,98]⟩ 0 0]
theorem ok_small (k n i:Int) (t:ByteArray) (hk : -100≤k∧k≤100) (hn : -100≤n∧n≤100) (hi : -100≤i∧i≤100) (ht:t.size≤100):(TValue.mk k n i t 0 0).v.Ok:=⟨inI_small hk.1 hk.2,inI_small hn.1 hn.2,inI_small hi.1 hi.2,by show t.size≤maxLen;unfold maxLen;omega,in0,in0⟩
theorem glD_ok:∀x,x∈glD→x.v.Ok:=fun x hx=>by
 simp only[glD,List.mem_cons,List.not_mem_nil,or_false]at hx
 rcases hx with rfl | rfl
 ·
  exact ok_small 0 0 0 _ (by decide) (by decide) (by decide) (by decide)
 ·
  exact ok_small 1 3 0 _ (by decide) (by decide) (by decide) (by decide)
theorem obD_ok:∀x,x∈obD→x.v.Ok:=fun x hx=>by
 simp only[obD,List.mem_cons,List.not_mem_nil,or_false]at hx
 rcases hx with rfl | rfl | rfl
 ·
  exact ok_small 0 0 0 _ (by decide) (by decide) (by decide) (by decide)
 ·
  exact ok_small 1 1 0 _ (by decide) (by decide) (by decide) (by decide)
 ·
  exact ok_small 2 0 0 _ (by decide) (by decide) (by decide) (by decide)
theorem ownFl_strs (w:World):∀xs:List ByteArray,(∀x,x∈xs→x.size≤maxLen)→Dat.OwnFl w 1 [] (xs.map fun x=>[Dat.str x]) (xs.map Value.string)
 | [],_=>⟨rfl,rfl⟩
 | x :: r,h=>⟨[],[],[.string x],r.map Value.string,rfl,rfl,rfl,⟨[],[],rfl,Dat.own_str.2 ⟨rfl,rfl,h x (by simp)⟩,rfl⟩,ownFl_strs w r (fun y hy=>h y (by simp[hy]))⟩
theorem OwnD.litS (w:World) (E:TypeId) (xs:List ByteArray) (hok:∀x,x∈xs→x.size≤maxLen) (hl:xs.length≤1000) {cs:Array Value} (hcs:cs=(xs.map Value.string).toArray):OwnD (w.alloc (.cells cs E)) E 1 (.slice (some ⟨w.heap.size,0,none⟩) xs.length xs.length) [] (xs.map fun x=>[Dat.str x]):=by
 subst hcs
 refine⟨xs.map Value.string,⟨by simp,Or.inr ⟨w.heap.size,xs.length,(xs.map Value.string).toArray,by rw[List.length_map],Nat.zero_le _,heap_alloc_new w _,by simp,by unfold maxLen;omega,by simp,by simp[List.take_of_length_le]⟩⟩,ownFl_strs _ xs hok,List.nodup_nil,fun b _ h=>by cases h⟩
theorem strs_ok (xs:List ByteArray) (h:xs.all (fun x=>decide (x.size≤1000))=true):∀x,x∈xs→x.size≤maxLen:=fun x hx=>by
 have:=List.all_eq_true.1 h x hx
 simp at this
 unfold maxLen;omega
theorem Blk.one {b x:Nat} {o m n:Nat} (h:Blk (.slice (some ⟨b,o,none⟩) m n) [] x):x=b:=by
 rcases h with q | q
 ·
  exact (Option.some.inj (show some b=some x from q)).symm
 ·
  cases q
theorem ents_start {w0 w1:World} (hb:Bel (((w0.alloc (.cells #[.string ⟨#[109,97,105,110]⟩,.string ⟨#[102]⟩] 9)).alloc (.cells #[.string ⟨#[117]⟩,.string ⟨#[118]⟩] 9)).alloc (.cells #[.string ⟨#[112,111,105,110,116]⟩,.slice (some ⟨w0.heap.size+1,0,none⟩) 2 2,.int .i64 0] 71)) w1) :
  ∃L1:List Nat,Ents w0.heap.size w1 (LA nmD rcD (.slice (some ⟨w0.heap.size,0,none⟩) 2 2) (.slice (some ⟨w0.heap.size+1+1,0,none⟩) 1 1) L1++[EO nilS [] []]):=by
 have h1:OwnD (w0.alloc (.cells #[.string ⟨#[109,97,105,110]⟩,.string ⟨#[102]⟩] 9)) 9 1 (.slice (some ⟨w0.heap.size,0,none⟩) 2 2) [] (nmD.map fun x=>[Dat.str x]):=OwnD.litS w0 9 nmD (strs_ok nmD (by decide)) (by decide) rfl
 obtain⟨wa,hwa⟩:∃x,w0.alloc (.cells #[.string ⟨#[109,97,105,110]⟩,.string ⟨#[102]⟩] 9)=x:=⟨_,rfl⟩
 have hza:wa.heap.size=w0.heap.size+1:=by rw[←hwa];simp
 have hba:Bel w0 wa:=by rw[←hwa];exact bl
 rw[hwa]at h1 hb
 have h2:OwnD (wa.alloc (.cells #[.string ⟨#[117]⟩,.string ⟨#[118]⟩] 9)) 9 1 (.slice (some ⟨wa.heap.size,0,none⟩) 2 2) [] (flD.map fun x=>[Dat.str x]):=OwnD.litS wa 9 flD (strs_ok flD (by decide)) (by decide) rfl
 obtain⟨wb,hwb⟩:∃x,wa.alloc (.cells #[.string ⟨#[117]⟩,.string ⟨#[118]⟩] 9)=x:=⟨_,rfl⟩
 have hzb:wb.heap.size=w0.heap.size+1+1:=by rw[←hwb];simp[hza]
 have hbb:Bel wa wb:=by rw[←hwb];exact bl
 rw[hwb]at h2 hb
 rw[hza]at h2
 clear hwa hwb
 obtain⟨A3,c3,L3,e3,r3,n3,b3⟩:=h2.ownRow
 have hL3:∀x,x∈L3→x=w0.heap.size+1:=fun x hx=>(b3 x hx).one
 have hv:Dat.OwnVals wb L3 (TRecordType.mk ⟨#[112,111,105,110,116]⟩ flD 0).D [.string ⟨#[112,111,105,110,116]⟩,.slice (some ⟨w0.heap.size+1,0,none⟩) 2 2,.int .i64 0]:=by
  rw[TRecordType.D_mk]
  exact⟨[],L3,rfl,Dat.own_str.2 ⟨rfl,rfl,by show (5:Nat)≤maxLen;decide⟩,⟨L3,[],by simp,Dat.own_row.2 ⟨A3,c3,e3,r3⟩,⟨[],[],rfl,Dat.own_int.2 ⟨rfl,rfl,in0⟩,rfl⟩⟩⟩
 have h3:=OwnD.lit1 wb 71 hv rfl n3
 rw[hzb]at h3
 have hz1:=hb.size
 refine⟨L3,?_⟩
 have E0:Ents w0.heap.size wa ([]++[⟨9,1,.slice (some ⟨w0.heap.size,0,none⟩) 2 2,[],nmD.map fun x=>[Dat.str x]⟩]):=(Ents.nil _ w0).snoc hba h1 (Nat.le_refl _) (fun x hx=>by have:=hx.one;omega)
 have E1:Ents w0.heap.size w1 (([]++[⟨9,1,.slice (some ⟨w0.heap.size,0,none⟩) 2 2,[],nmD.map fun x=>[Dat.str x]⟩])++[⟨71,3,.slice (some ⟨w0.heap.size+1+1,0,none⟩) 1 1,L3,rcD.map TRecordType.D⟩]):=by
  refine E0.snoc ((hbb.trans (Bel.alloc (Bel.refl wb) _)).trans hb) (h3.bel hb) (by omega) (fun x hx=>?_)
  rcases hx with q | q
  ·
   have:=Option.some.inj (show some (w0.heap.size+1+1)=some x from q);omega
  ·
   have:=hL3 x q;omega
 exact E1.snoc (Bel.refl w1) (OwnD.nil w1 _ _) (by rw[World.size_alloc]at hz1;omega) (fun x hx=>absurd hx (fun h=>OwnD.blk_nil h))
structure V6 (w:World) (b:Nat) (k n i:Int) (t:ByteArray) (lo hi:Int):Prop where
 lt:b<w.heap.size
 fr:∀o,w.frozen? ⟨b,o,none⟩=false
 c0:w.cell? ⟨b,0,none⟩=some (.int .i64 k)
 c1:w.cell? ⟨b,1,none⟩=some (.int .i64 n)
 c2:w.cell? ⟨b,2,none⟩=some (.int .i64 i)
 c3:w.cell? ⟨b,3,none⟩=some (.string t)
 c4:w.cell? ⟨b,4,none⟩=some (.int .i64 lo)
 c5:w.cell? ⟨b,5,none⟩=some (.int .i64 hi)
theorem V6.block {w w':World} {b:Nat} {k n i:Int} {t:ByteArray} {lo hi:Int} (h:V6 w b k n i t lo hi) (hs:w.heap.size≤w'.heap.size) (hb:w'.heap[b]?=w.heap[b]?):V6 w' b k n i t lo hi:=by
 have e:∀o,w'.cell? ⟨b,o,none⟩=w.cell? ⟨b,o,none⟩:=fun o=>World.cell?_of_block hb
 exact⟨Nat.lt_of_lt_of_le h.lt hs,fun o=>(World.frozen?_of_block hb).trans (h.fr o),(e 0).trans h.c0,(e 1).trans h.c1,(e 2).trans h.c2,(e 3).trans h.c3,(e 4).trans h.c4,(e 5).trans h.c5⟩
theorem V6.on {w w':World} {b:Nat} {k n i:Int} {t:ByteArray} {lo hi:Int} (h:V6 w b k n i t lo hi) (k':Bel w w'):V6 w' b k n i t lo hi:=h.block k'.size (Below.block k' b h.lt)
theorem V6.new (w:World) (ty:TypeId) {k n i:Int} {t:ByteArray} {lo hi:Int}:V6 (w.alloc (.cells #[.int .i64 k,.int .i64 n,.int .i64 i,.string t,.int .i64 lo,.int .i64 hi] ty)) w.heap.size k n i t lo hi:=⟨by simp,fun o=>by simp,by simp,by simp,by simp,by simp,by simp,by simp⟩
theorem V6.put {w:World} {b:Nat} {k n i:Int} {t:ByteArray} {lo hi:Int} (h:V6 w b k n i t lo hi) (k2 n2 i2:Int) (t2:ByteArray) (lo2 hi2:Int):V6 ((((((w.setCell ⟨b,0,none⟩ (.int .i64 k2)).setCell ⟨b,1,none⟩ (.int .i64 n2)).setCell ⟨b,2,none⟩ (.int .i64 i2)).setCell ⟨b,3,none⟩ (.string t2)).setCell ⟨b,4,none⟩ (.int .i64 lo2)).setCell ⟨b,5,none⟩ (.int .i64 hi2)) b k2 n2 i2 t2 lo2 hi2:=by
 obtain⟨l,f,c0,c1,c2,c3,c4,c5⟩:=h
 exact⟨by simpa using l,fun o=>by simp[f],by simp[c0,go_sem],by simp[c1,go_sem],by simp[c2,go_sem],by simp[c3,go_sem],by simp[c4,go_sem],by simp[c5,go_sem]⟩
theorem ButB.six (w:World) (b:Nat) (x0 x1 x2 x3 x4 x5:Value):ButB b w ((((((w.setCell ⟨b,0,none⟩ x0).setCell ⟨b,1,none⟩ x1).setCell ⟨b,2,none⟩ x2).setCell ⟨b,3,none⟩ x3).setCell ⟨b,4,none⟩ x4).setCell ⟨b,5,none⟩ x5) :=
 ((((((ButB.set ⟨rfl,rfl,rfl,rfl,fun _ _=>rfl⟩ 0 x0).set 1 x1).set 2 x2).set 3 x3).set 4 x4).set 5 x5)
theorem V6.far {w:World} {b b':Nat} {k n i:Int} {t:ByteArray} {lo hi:Int} (h:V6 w b k n i t lo hi) (hn:b'≠b) (o:Nat) (u:Value):V6 (w.setCell ⟨b',o,none⟩ u) b k n i t lo hi:=h.block (by simp) (set_block o u hn)
section
variable {w0:World} {c q:Nat} {A:Option Addr} {n cap:Nat} {x0:List ByteArray} {x1:List TRecordType} {x3:List TValue} {v0 v1 v3:Value} {L1:List Nat} {ts:ByteArray} {pos tk:Int} {w w' wm w9:World} {v2:Value} {L:List Nat} {x2:List TObject} {mm:Int} {le:List Ent} {b bv:Nat} {k t:Int} {vi vk:Value} {its kys:List TValue}
theorem SO.slI (h:SO w0 c q A n cap x0 x1 x3 v0 v1 v3 L1 ts pos tk w v2 L x2 mm b k t vi vk its kys):∃A3 c3,vi=.slice A3 its.length c3:=by
 obtain⟨A3,c3,-,e,-⟩:=(h.sq.st.ents.own (EV vi its) (by simp)).ownRow
 rw[List.length_map]at e
 exact⟨A3,c3,e⟩
theorem SO.slK (h:SO w0 c q A n cap x0 x1 x3 v0 v1 v3 L1 ts pos tk w v2 L x2 mm b k t vi vk its kys):∃A4 c4,vk=.slice A4 kys.length c4:=by
 obtain⟨A3,c3,-,e,-⟩:=(h.sq.st.ents.own (EV vk kys) (by simp)).ownRow
 rw[List.length_map]at e
 exact⟨A3,c3,e⟩
theorem SO.own3 (h:SO w0 c q A n cap x0 x1 x3 v0 v1 v3 L1 ts pos tk w v2 L x2 mm b k t vi vk its kys):OwnD w 34 6 vi [] (its.map TValue.D):=h.sq.st.ents.own (EV vi its) (by simp)
theorem SO.own4 (h:SO w0 c q A n cap x0 x1 x3 v0 v1 v3 L1 ts pos tk w v2 L x2 mm b k t vi vk its kys):OwnD w 34 6 vk [] (kys.map TValue.D):=h.sq.st.ents.own (EV vk kys) (by simp)
theorem SO.ob3 (h:SO w0 c q A n cap x0 x1 x3 v0 v1 v3 L1 ts pos tk w v2 L x2 mm b k t vi vk its kys) (hm:Bel w wm) (hg:wm.grownBy w9 vi.ownBlock):OB w9 b (.int .i64 k) (.int .i64 t) (.int .i64 0) vi vk:=by
 have hz:=hm.size
 have hz9:=hg.size
 have hb:=h.ob.1
 exact h.ob.block (by omega) ((hg.block b (by omega) (fun e=>h.low (EV vi its) (by simp) (Or.inl e.symm))).trans (Below.block hm b hb))
theorem SO.ob4 (h:SO w0 c q A n cap x0 x1 x3 v0 v1 v3 L1 ts pos tk w v2 L x2 mm b k t vi vk its kys) (hm:Bel w wm) (hg:wm.grownBy w9 vk.ownBlock):OB w9 b (.int .i64 k) (.int .i64 t) (.int .i64 0) vi vk:=by
 have hz:=hm.size
 have hz9:=hg.size
 have hb:=h.ob.1
 exact h.ob.block (by omega) ((hg.block b (by omega) (fun e=>h.low (EV vk kys) (by simp) (Or.inl e.symm))).trans (Below.block hm b hb))
theorem SO.butb (h:SO w0 c q A n cap x0 x1 x3 v0 v1 v3 L1 ts pos tk w v2 L x2 mm b k t vi vk its kys) (k':ButB bv w w') (hl:∀f,f∈(LA x0 x1 v0 v1 L1)++EO v2 L x2 :: LG x3 v3 [EV vi its,EV vk kys]→¬Blk f.v f.L bv) (h1:w0.heap.size≤bv) (h2:bv≠q) (h3:bv≠b):SO w0 c q A n cap x0 x1 x3 v0 v1 v3 L1 ts pos tk w' v2 L x2 mm b k t vi vk its kys:=by
 have hz:=k'.size
 exact⟨h.sq.butb hl ⟨h1,h2⟩ k',h.ob.block (by omega) (k'.block b (Ne.symm h3)),h.low,h.neb,h.okk⟩
theorem SO.lt (h:SO w0 c q A n cap x0 x1 x3 v0 v1 v3 L1 ts pos tk w v2 L x2 mm b k t vi vk its kys):∀f,f∈(LA x0 x1 v0 v1 L1)++EO v2 L x2 :: LG x3 v3 [EV vi its,EV vk kys]→¬Blk f.v f.L w.heap.size:=fun f hf hb=>by have:=(h.sq.st.ents.own f hf).lt _ hb;omega
end
theorem start_glo {N c:Nat} {w1 w2:World} {la:List Ent} {o2:Obj} (E1:Ents N w1 la) (hN:N≤w1.heap.size) (hO:Oth c ((w1.alloc (.cells #[.int .i64 0,.int .i64 0,.int .i64 0,.string ⟨#[]⟩,.int .i64 0,.int .i64 0,.int .i64 1,.int .i64 3,.int .i64 0,.string ByteArray.empty,.int .i64 0,.int .i64 0] 34)).alloc o2) w2) (hc:c<N) :
  Ents N w2 (la++[EV (.slice (some ⟨w1.heap.size,0,none⟩) 2 2) glD])∧Oth c w1 w2∧w1.heap.size+1+1≤w2.heap.size:=by
 have hv:=OwnD.litV w1 34 glD glD_ok (by decide) (cs:=#[.int .i64 0,.int .i64 0,.int .i64 0,.string ⟨#[]⟩,.int .i64 0,.int .i64 0,.int .i64 1,.int .i64 3,.int .i64 0,.string ByteArray.empty,.int .i64 0,.int .i64 0]) rfl
 obtain⟨wa,hwa⟩:∃x,w1.alloc (.cells #[.int .i64 0,.int .i64 0,.int .i64 0,.string ⟨#[]⟩,.int .i64 0,.int .i64 0,.int .i64 1,.int .i64 3,.int .i64 0,.string ByteArray.empty,.int .i64 0,.int .i64 0] 34)=x:=⟨_,rfl⟩
 have hza:wa.heap.size=w1.heap.size+1:=by rw[←hwa];simp
 have hba:Bel w1 wa:=by rw[←hwa];exact bl
 rw[hwa]at hv hO
 clear hwa
 have hbb:Bel wa (wa.alloc o2):=bl
 have hz2:=hO.size
 rw[World.size_alloc]at hz2
 have E2:Ents N wa (la++[EV (.slice (some ⟨w1.heap.size,0,none⟩) 2 2) glD]):=E1.snoc hba hv hN (fun x hx=>by have:=hx.one;omega)
 have E3:=E2.bel hbb
 exact⟨E3.keep hO.size fun e he b hb=>hO.block b ((E3.own e he).lt b hb) (by have:=E3.low e he b hb;omega),(Oth.of_bel (hba.trans hbb)).trans hO,by omega⟩
theorem Ents.oth {N c:Nat} {w w':World} {l:List Ent} (h:Ents N w l) (k:Oth c w w') (hc:c<N):Ents N w' l:=h.keep k.size fun e he b hb=>k.block b ((h.own e he).lt b hb) (by have:=h.low e he b hb;omega)
theorem SQ.begin {w0:World} {c q:Nat} {A:Option Addr} {n cap:Nat} {x0:List ByteArray} {x1:List TRecordType} {x3:List TValue} {v0 v1 v3:Value} {L1:List Nat} {ts:ByteArray} {pos tk:Int} {w:World} (h0:Cur w0 c A n cap) (hc:Cur w c A n cap) (ho:Oth c w0 w) (hE:Ents w0.heap.size w ((LA x0 x1 v0 v1 L1)++EO nilS [] [] :: LG x3 v3 [])) (hq:SB w q v0 v1 nilS v3 (.string ts) (.int .i64 pos) nilS nilS nilS (.bool false) (.int .i64 tk) (.int .i64 400) (.int .i64 0))
  (hlow:∀f,f∈(LA x0 x1 v0 v1 L1)++EO nilS [] [] :: LG x3 v3 []→¬Blk f.v f.L q) (hne:w0.heap.size≤q) (h1:InI pos) (h2:InI tk) (h3:ts.size≤maxLen):SQ w0 c q A n cap x0 x1 x3 v0 v1 v3 L1 ts pos tk w nilS [] [] 0 [] :=
 ⟨h0,hc,⟨hq,hE,hlow⟩,⟨h0.1,hne⟩,ho,⟨h1,h2,⟨Int.le_refl _,Int.le_refl _,in0⟩,h3⟩,fun o h=>by cases h⟩
theorem SQ.pos {w0:World} {c q:Nat} {A:Option Addr} {n cap:Nat} {x0:List ByteArray} {x1:List TRecordType} {x3:List TValue} {v0 v1 v3:Value} {L1:List Nat} {ts:ByteArray} {pos tk:Int} {w:World} {v2:Value} {L:List Nat} {x2:List TObject} {mm:Int} {le:List Ent} (h:SQ w0 c q A n cap x0 x1 x3 v0 v1 v3 L1 ts pos tk w v2 L x2 mm le) {p2:Int} (hp:InI p2):SQ w0 c q A n cap x0 x1 x3 v0 v1 v3 L1 ts p2 tk (w.setCell ⟨q,5,none⟩ (.int .i64 p2)) v2 L x2 mm le:=by
 have hB:Below q w (w.setCell ⟨q,5,none⟩ (.int .i64 p2)):=Below.setCell (Below.refl q w) (show q≤(⟨q,5,none⟩:Addr).block from Nat.le_refl q) _
 have hne:=h.ne
 have same:∀k,k≠q→(w.setCell ⟨q,5,none⟩ (.int .i64 p2)).heap[k]?=w.heap[k]?:=fun k hk=>set_block 5 _ (fun e=>hk e.symm)
 exact⟨h.cur0,h.cur0.low h.cur h.oth.size hB.size (fun k hk=>same k (by omega)),⟨h.st.box.put5 _,h.st.ents.far2 h.st.low 5 _,h.st.low⟩,h.ne,⟨hB.os.trans h.oth.os,hB.tape.trans h.oth.tape,hB.output.trans h.oth.output,Nat.le_trans h.oth.size hB.size,fun k hk hc=>(same k (by omega)).trans (h.oth.block k hk hc)⟩,⟨hp,h.ok.2⟩,h.sml⟩
end Go.Proofs.YtoikhhnmbbbjjaaDoor
namespace Go.Proofs.YtoikhhnmbbbjjaaDoor
set_option linter.unusedVariables false
set_option linter.unusedSimpArgs false
set_option maxRecDepth 100000
open Go.RowKit
structure SM (w0:World) (c q:Nat) (A:Option Addr) (n cap:Nat) (x0:List ByteArray) (x1:List TRecordType) (x3:List TValue) (v0 v1 v3:Value) (L1:List Nat) (ts:ByteArray) (pos tk:Int) (w:World) (v2:Value) (L:List Nat) (x2:List TObject) (mm:Int) (b:Nat) (k t:Int) (vi v9 vk:Value) (its kys:List TValue):Prop where
 sq:SQ w0 c q A n cap x0 x1 x3 v0 v1 v3 L1 ts pos tk w v2 L x2 mm [EV v9 its,EV vk kys]
 ob:OB w b (.int .i64 k) (.int .i64 t) (.int .i64 0) vi vk
 low:∀f,f∈(LA x0 x1 v0 v1 L1)++EO v2 L x2 :: LG x3 v3 [EV v9 its,EV vk kys]→¬Blk f.v f.L b
 neb:w0.heap.size≤b∧b≠q
 okk:InI k∧InI t
structure RG (q c:Nat) (x0:List ByteArray) (x1:List TRecordType) (x3:List TValue) (v0 v1 v3:Value) (L1:List Nat) (w:World) (v2:Value) (L:List Nat) (x2:List TObject) (b:Nat) (vi vk:Value) (its kys:List TValue) (gl m:Nat):Prop where
 row:RowI w gl m
 low:∀f,f∈(LA x0 x1 v0 v1 L1)++EO v2 L x2 :: LG x3 v3 [EV vi its,EV vk kys]→¬Blk f.v f.L gl
 ne:gl≠q∧gl≠c∧gl≠b
theorem RowI.block {w w':World} {g m:Nat} (h:RowI w g m) (hs:w.heap.size≤w'.heap.size) (hb:w'.heap[g]?=w.heap[g]?):RowI w' g m :=
 ⟨Nat.lt_of_lt_of_le h.1 hs,fun j hj=>by obtain⟨x,hx,hc⟩:=h.2 j hj;exact⟨x,hx,(World.cell?_of_block hb).trans hc⟩⟩
section
variable {w0:World} {c q:Nat} {A:Option Addr} {n cap:Nat} {x0:List ByteArray} {x1:List TRecordType} {x3:List TValue} {v0 v1 v3:Value} {L1:List Nat} {ts:ByteArray} {pos tk:Int} {w w' wm w9:World} {v2 y:Value} {L L':List Nat} {x2 y2:List TObject} {mm:Int} {le:List Ent} {b gl m:Nat} {k t:Int} {vi v9 vk:Value} {its its' kys:List TValue}
theorem SO.mid3 (h:SO w0 c q A n cap x0 x1 x3 v0 v1 v3 L1 ts pos tk w v2 L x2 mm b k t vi vk its kys) (hm:Bel w wm) (hg:wm.grownBy w9 vi.ownBlock) (ho:OwnD w9 34 6 v9 [] (its'.map TValue.D)) (hn:∀x,v9.ownBlock=some x→vi.ownBlock=some x∨w.heap.size≤x):SM w0 c q A n cap x0 x1 x3 v0 v1 v3 L1 ts pos tk w9 v2 L x2 mm b k t vi v9 vk its' kys:=by
 have hs:=h.sq.oth.size
 have hz1:=hm.size
 have hz2:=hg.size
 have hE:Ents w0.heap.size w (((LA x0 x1 v0 v1 L1)++[EO v2 L x2,EV v3 x3])++EV vi its :: [EV vk kys]):=by simpa using h.sq.st.ents
 have hlt:∀f,f∈((LA x0 x1 v0 v1 L1)++[EO v2 L x2,EV v3 x3])++[EV vk kys]→∀x,Blk f.v f.L x→x<w.heap.size:=fun f hf x hx=>(h.sq.st.ents.own f (by simp at hf ⊢;grind)).lt x hx
 have hE9:Ents w0.heap.size w9 (((LA x0 x1 v0 v1 L1)++[EO v2 L x2,EV v3 x3])++EV v9 its' :: [EV vk kys]):=hE.growAt hm hg ho fun x hx=>by
  rcases hx with q | q
  ·
   exact rk188
  ·
   cases q
 have hin:∀f,f∈(LA x0 x1 v0 v1 L1)++EO v2 L x2 :: LG x3 v3 [EV v9 its',EV vk kys]→f∈(LA x0 x1 v0 v1 L1)++EO v2 L x2 :: LG x3 v3 [EV vi its,EV vk kys]∨f=EV v9 its':=fun f hf=>by simp at hf ⊢;grind
 have vlow:∀x,vi.ownBlock=some x→w0.heap.size≤x:=fun x hx=>h.sq.st.ents.low (EV vi its) (by simp) x (Or.inl hx)
 have vne:∀d,(∀f,f∈(LA x0 x1 v0 v1 L1)++EO v2 L x2 :: LG x3 v3 [EV vi its,EV vk kys]→¬Blk f.v f.L d)→d<w.heap.size→(∀f,f∈(LA x0 x1 v0 v1 L1)++EO v2 L x2 :: LG x3 v3 [EV v9 its',EV vk kys]→¬Blk f.v f.L d):=fun d hd hl f hf=>by
  rcases hin f hf with q | rfl
  ·
   exact hd f q
  ·
   exact rk215
 have same:∀d,d<w.heap.size→vi.ownBlock≠some d→w9.heap[d]?=w.heap[d]?:=fun d hd hne=>(hg.block d (by omega) (fun q=>hne q.symm)).trans (Below.block hm d hd)
 have hqb:=h.sq.st.box.1
 have hob:=h.ob.1
 have hqn:vi.ownBlock≠some q:=fun e=>h.sq.st.low (EV vi its) (by simp) (Or.inl e)
 have hbn:vi.ownBlock≠some b:=fun e=>h.low (EV vi its) (by simp) (Or.inl e)
 have S9:SQ w0 c q A n cap x0 x1 x3 v0 v1 v3 L1 ts pos tk w9 v2 L x2 mm [EV v9 its',EV vk kys]:=h.sq.via ⟨h.sq.st.box.block (by omega) (same q hqb hqn),by simpa using hE9,vne q h.sq.st.low hqb⟩ ⟨hg.os.trans hm.os,hg.tape.trans hm.tape,hg.output.trans hm.output,by omega⟩ (fun d hd=>same d (by omega) (fun e=>by have:=vlow d e;omega)) h.sq.ok.2.2.1 h.sq.sml
 exact⟨S9,h.ob.block (by omega) (same b hob hbn),vne b h.low hob,h.neb,h.okk⟩
theorem SM.put3 (h:SM w0 c q A n cap x0 x1 x3 v0 v1 v3 L1 ts pos tk w v2 L x2 mm b k t vi v9 vk its kys):SO w0 c q A n cap x0 x1 x3 v0 v1 v3 L1 ts pos tk (w.setCell ⟨b,3,none⟩ v9) v2 L x2 mm b k t v9 vk its kys:=⟨h.sq.setb h.low h.neb 3 v9,h.ob.put3 v9,h.low,h.neb,h.okk⟩
theorem SM.own3 (h:SM w0 c q A n cap x0 x1 x3 v0 v1 v3 L1 ts pos tk w v2 L x2 mm b k t vi v9 vk its kys):OwnD w 34 6 v9 [] (its.map TValue.D):=h.sq.st.ents.own (EV v9 its) (by simp)
theorem RG.on (h:RG q c x0 x1 x3 v0 v1 v3 L1 w v2 L x2 b vi vk its kys gl m) (k':Bel w w'):RG q c x0 x1 x3 v0 v1 v3 L1 w' v2 L x2 b vi vk its kys gl m:=⟨h.row.block k'.size (Below.block k' gl h.row.1),h.low,h.ne⟩
theorem RG.other (h:RG q c x0 x1 x3 v0 v1 v3 L1 w v2 L x2 b vi vk its kys gl m) (hf:w.heap.size≤w'.heap.size∧∀d,d<w.heap.size→d≠q→d≠c→v2.ownBlock≠some d→w'.heap[d]?=w.heap[d]?) (hx:∀x,Blk y L' x→Blk v2 L x∨w.heap.size≤x):RG q c x0 x1 x3 v0 v1 v3 L1 w' y L' y2 b vi vk its kys gl m:=by
 refine⟨h.row.block hf.1 (hf.2 gl h.row.1 h.ne.1 h.ne.2.1 (fun e=>h.low (EO v2 L x2) (by simp) (Or.inl e))),fun f hf hc=>?_,h.ne⟩
 have hin:f∈(LA x0 x1 v0 v1 L1)++EO v2 L x2 :: LG x3 v3 [EV vi its,EV vk kys]∨f=EO y L' y2:=by simp at hf ⊢;grind
 rcases hin with q | rfl
 ·
  exact h.low f q hc
 ·
  rcases hx gl hc with q | q
  ·
   exact h.low (EO v2 L x2) (by simp) q
  ·
   have:=h.row.1;omega
theorem RG.grow (h:RG q c x0 x1 x3 v0 v1 v3 L1 w v2 L x2 b vi vk its kys gl m) (hm:Bel w wm) (hg:wm.grownBy w9 vi.ownBlock) (hn:∀x,v9.ownBlock=some x→vi.ownBlock=some x∨w.heap.size≤x):RG q c x0 x1 x3 v0 v1 v3 L1 w9 v2 L x2 b v9 vk its' kys gl m:=by
 have hz:=hm.size
 have hz2:=hg.size
 have hl:=h.row.1
 refine⟨h.row.block (by omega) ((hg.block gl (by omega) (fun e=>h.low (EV vi its) (by simp) (Or.inl e.symm))).trans (Below.block hm gl hl)),fun f hf=>?_,h.ne⟩
 have hin:f∈(LA x0 x1 v0 v1 L1)++EO v2 L x2 :: LG x3 v3 [EV vi its,EV vk kys]∨f=EV v9 its':=by simp at hf ⊢;grind
 rcases hin with q | rfl
 ·
  exact h.low f q
 ·
  rintro (q | q)
  ·
   rcases hn gl q with q | q
   ·
    exact h.low (EV vi its) (by simp) (Or.inl q)
   ·
    omega
  ·
   cases q
theorem RG.set (h:RG q c x0 x1 x3 v0 v1 v3 L1 w v2 L x2 b vi vk its kys gl m) (o:Nat) (u:Value):RG q c x0 x1 x3 v0 v1 v3 L1 (w.setCell ⟨b,o,none⟩ u) v2 L x2 b vi vk its kys gl m:=⟨h.row.block (by simp) (set_block o u (Ne.symm h.ne.2.2)),h.low,h.ne⟩
end
def lenAt (w:World) (b:Nat):Nat:=match w.cell? ⟨b,3,none⟩with | some (.slice _ n _)=>n | _=>0
theorem lenAt_of {w:World} {b n c:Nat} {A:Option Addr} (h:w.cell? ⟨b,3,none⟩=some (.slice A n c)):lenAt w b=n:=by unfold lenAt;rw[h]
end Go.Proofs.YtoikhhnmbbbjjaaDoor
namespace Go.Proofs.YtoikhhnmbbbjjaaDoor
set_option linter.unusedVariables false
set_option linter.unusedSimpArgs false
set_option maxRecDepth 100000
open Go.RowKit
abbrev EA (v:Value) (xs:List TActive):Ent:=⟨53,2,v,[],xs.map TActive.D⟩
structure FQ (w0:World) (c q:Nat) (A:Option Addr) (n cap:Nat) (x0:List ByteArray) (x1:List TRecordType) (x3:List TValue) (v0 v1 v3:Value) (L1:List Nat) (ts:ByteArray) (pos tk:Int) (w:World) (v2:Value) (L:List Nat) (x2:List TObject) (mm:Int) (v8:Value) (x8:List TActive):Prop where
 cur0:Cur w0 c A n cap
 cur:Cur w c A n cap
 st:MkS w0.heap.size w q v0 v1 v2 v3 (.string ts) (.int .i64 pos) nilS nilS v8 (.bool false) (.int .i64 tk) (.int .i64 400) (.int .i64 mm) (LA x0 x1 v0 v1 L1) [EV v3 x3,EA v8 x8] L (x2.map TObject.D)
 ne:c<w0.heap.size∧w0.heap.size≤q
 oth:Oth c w0 w
 ok:InI pos∧InI tk∧MmOk x2.length mm∧ts.size≤maxLen
 sml:∀o,o∈x2→o.its.length≤100∧o.kys.length≤100
structure FH (w0:World) (c q:Nat) (A:Option Addr) (n cap:Nat) (w:World) (t:TStore):Prop where
 cur:Cur w c A n cap
 oth:Oth c w0 w
 ne:c<w0.heap.size∧w0.heap.size≤q
 st:StoreAt w (fun b=>w0.heap.size≤b∧b≠q) q t
 fr:∀o,w.frozen? ⟨q,o,none⟩=false
def TObject.tagTo (tg:Int):TObject→TObject | .mk k _ s i y=>.mk k tg s i y
theorem tag_small {o:TObject} {tg:Int} (h:o.its.length≤100∧o.kys.length≤100):(o.tagTo tg).its.length≤100∧(o.tagTo tg).kys.length≤100:=by cases o;exact h
theorem FH.oth' {w0 w w':World} {c q:Nat} {A:Option Addr} {n cap:Nat} {t:TStore} (h:FH w0 c q A n cap w t) (k:Oth c w w') (hc:Cur w' c A n cap):FH w0 c q A n cap w' t :=
 ⟨hc,h.oth.trans k,h.ne,h.st.oth k (fun e=>by have:=h.ne.1;omega) (by have:=h.ne;omega),fun o=>(World.frozen?_of_block (k.block q h.st.1 (by have:=h.ne;omega))).trans (h.fr o)⟩
section
variable {w0:World} {c q:Nat} {A:Option Addr} {n cap:Nat} {x0:List ByteArray} {x1:List TRecordType} {x3:List TValue} {v0 v1 v3:Value} {L1:List Nat} {ts:ByteArray} {pos tk:Int} {w w':World} {v2:Value} {L:List Nat} {x2:List TObject} {mm:Int} {v8:Value} {x8:List TActive}
theorem FQ.of (h:SQ w0 c q A n cap x0 x1 x3 v0 v1 v3 L1 ts pos tk w v2 L x2 mm []):FQ w0 c q A n cap x0 x1 x3 v0 v1 v3 L1 ts pos tk w v2 L x2 mm nilS []:=by
 have hs:=h.oth.size
 have h1:Ents w0.heap.size w (((LA x0 x1 v0 v1 L1)++EO v2 L x2 :: LG x3 v3 [])++[EA nilS []]):=h.st.ents.snoc (Bel.refl w) (OwnD.nil w _ _) hs (fun x hx=>absurd hx (fun h=>OwnD.blk_nil h))
 refine⟨h.cur0,h.cur,⟨h.st.box,by simpa using h1,fun f hf=>?_⟩,h.ne,h.oth,h.ok,h.sml⟩
 rcases (show f∈(LA x0 x1 v0 v1 L1)++EO v2 L x2 :: LG x3 v3 []∨f=EA nilS [] by simp at hf ⊢;grind)with q | rfl
 ·
  exact h.st.low f q
 ·
  exact fun hx=>OwnD.blk_nil hx
theorem FQ.act (h:SQ w0 c q A n cap x0 x1 x3 v0 v1 v3 L1 ts pos tk w v2 L x2 mm []) {k:Int} (hk:InI k):FQ w0 c q A n cap x0 x1 x3 v0 v1 v3 L1 ts pos tk ((w.alloc (.cells #[.int .i64 k,.int .i64 0] 53)).setCell ⟨q,8,none⟩ (.slice (some ⟨w.heap.size,0,none⟩) 1 1)) v2 L x2 mm (.slice (some ⟨w.heap.size,0,none⟩) 1 1) [.mk k 0]:=by
 have hs:=h.oth.size
 have hql:=h.st.box.1
 have hO:OwnD (w.alloc (.cells #[.int .i64 k,.int .i64 0] 53)) 53 2 (.slice (some ⟨w.heap.size,0,none⟩) 1 1) [] [(TActive.mk k 0).D]:=OwnD.lit1 w 53 (TActive.own_mk hk in0) rfl List.nodup_nil
 obtain⟨wa,hwa⟩:∃x,w.alloc (.cells #[.int .i64 k,.int .i64 0] 53)=x:=⟨_,rfl⟩
 have hb:Bel w wa:=by rw[←hwa];exact bl
 rw[hwa]at hO ⊢
 clear hwa
 have h0:=h.on hb
 have h1:Ents w0.heap.size wa (((LA x0 x1 v0 v1 L1)++EO v2 L x2 :: LG x3 v3 [])++[EA (.slice (some ⟨w.heap.size,0,none⟩) 1 1) [.mk k 0]]):=h.st.ents.snoc hb hO hs (fun x hx=>by have:=hx.one;omega)
 have hl:∀f,f∈(LA x0 x1 v0 v1 L1)++EO v2 L x2 :: [EV v3 x3,EA (.slice (some ⟨w.heap.size,0,none⟩) 1 1) [.mk k 0]]→¬Blk f.v f.L q:=fun f hf=>by
  rcases (show f∈(LA x0 x1 v0 v1 L1)++EO v2 L x2 :: LG x3 v3 []∨f=EA (.slice (some ⟨w.heap.size,0,none⟩) 1 1) [.mk k 0] by simp at hf ⊢;grind)with q | rfl
  ·
   exact h.st.low f q
  ·
   exact fun hx=>by have:=hx.one;omega
 have hB:Below q wa (wa.setCell ⟨q,8,none⟩ (.slice (some ⟨w.heap.size,0,none⟩) 1 1)):=Below.setCell (Below.refl q wa) (show q≤(⟨q,8,none⟩:Addr).block from Nat.le_refl q) _
 have hne:=h.ne
 have same:∀d,d≠q→(wa.setCell ⟨q,8,none⟩ (.slice (some ⟨w.heap.size,0,none⟩) 1 1)).heap[d]?=wa.heap[d]?:=fun d hd=>set_block 8 _ (fun e=>hd e.symm)
 have h2:Ents w0.heap.size wa ((LA x0 x1 v0 v1 L1)++EO v2 L x2 :: [EV v3 x3,EA (.slice (some ⟨w.heap.size,0,none⟩) 1 1) [.mk k 0]]):=by simpa using h1
 exact⟨h.cur0,h.cur0.low h0.cur h0.oth.size hB.size (fun d hd=>same d (by omega)),⟨h0.st.box.put8 _,h2.far2 hl 8 _,hl⟩,h.ne,⟨hB.os.trans h0.oth.os,hB.tape.trans h0.oth.tape,hB.output.trans h0.oth.output,Nat.le_trans h0.oth.size hB.size,fun d hd hc=>(same d (by omega)).trans (h0.oth.block d hd hc)⟩,h.ok,h.sml⟩
theorem FQ.oth' (h:FQ w0 c q A n cap x0 x1 x3 v0 v1 v3 L1 ts pos tk w v2 L x2 mm v8 x8) (k:Oth c w w') (hc:Cur w' c A n cap):FQ w0 c q A n cap x0 x1 x3 v0 v1 v3 L1 ts pos tk w' v2 L x2 mm v8 x8:=by
 exact rk186
theorem store_rows (h:FQ w0 c q A n cap x0 x1 x3 v0 v1 v3 L1 ts pos tk w v2 L x2 mm v8 x8) {wz:World} {y2:List TObject} {A2:Option Addr} {c2:Nat} (hv2:v2=.slice A2 y2.length c2) (hr:Row wz (fun b=>w0.heap.size≤b∧b≠q) 5 A2 c2 (y2.map TObject.D)) (hof:OffS (fun b=>¬Blk v2 L b) w wz):StoreAt wz (fun b=>w0.heap.size≤b∧b≠q) q (TStore.mk x0 x1 y2 x3 ts pos [] [] x8 false tk 400 mm):=by
 have E:=h.st.ents
 have hp:=List.pairwise_append.1 E.sep
 have hp2:=List.pairwise_cons.1 hp.2.1
 have hS:∀f,f∈(LA x0 x1 v0 v1 L1)++EO v2 L x2 :: [EV v3 x3,EA v8 x8]→∀b,Blk f.v f.L b→w0.heap.size≤b∧b≠q:=fun f hf b hb=>⟨E.low f hf b hb,fun e=>h.st.low f hf (e▸hb)⟩
 have hne:∀f,f∈(LA x0 x1 v0 v1 L1)++[EV v3 x3,EA v8 x8]→∀b,Blk f.v f.L b→¬Blk v2 L b:=fun f hf b hb hc=>by
  rcases List.mem_append.1 hf with q | q
  ·
   exact hp.2.2 f q (EO v2 L x2) (by simp) b hb hc
  ·
   exact hp2.1 f q b hc hb
 have up:∀f,f∈(LA x0 x1 v0 v1 L1)++[EV v3 x3,EA v8 x8]→OwnD wz f.E f.k f.v f.L f.ds:=fun f hf=>(E.own f (by simp at hf ⊢;grind)).offS hof (hne f hf)
 obtain⟨A0,c0,e0,r0⟩:=(up ⟨9,1,v0,[],x0.map fun x=>[Dat.str x]⟩ (by simp)).row (hS ⟨9,1,v0,[],x0.map fun x=>[Dat.str x]⟩ (by simp))
 obtain⟨A1,c1,e1,r1⟩:=(up ⟨71,3,v1,L1,x1.map TRecordType.D⟩ (by simp)).row (hS ⟨71,3,v1,L1,x1.map TRecordType.D⟩ (by simp))
 obtain⟨A3,c3,e3,r3⟩:=(up (EV v3 x3) (by simp)).row (hS (EV v3 x3) (by simp))
 obtain⟨A8,c8,e8,r8⟩:=(up (EA v8 x8) (by simp)).row (hS (EA v8 x8) (by simp))
 have hbox:=h.st.box.block hof.size (hof.block q (fun e=>h.st.low (EO v2 L x2) (by simp) e) h.st.box.1)
 obtain⟨hlb,hfb,k0,k1,k2,k3,k4,k5,k6,k7,k8,k9,k10,k11,k12⟩:=hbox
 simp only[List.length_map]at e0 e1 e3 e8
 have z:∀k,Row wz (fun b=>w0.heap.size≤b∧b≠q) k none 0 []:=fun k=>⟨Nat.le_refl _,Nat.zero_le _,fun h=>absurd rfl h⟩
 refine⟨hlb,_,TStore.vals_mk r0 r1 hr r3 h.ok.2.2.2 h.ok.1 (x6:=[]) (x7:=[]) (z 1) (z 1) r8 h.ok.2.1 (by unfold InI;omega) h.ok.2.2.1.2.2,fun j hj=>?_⟩
 subst e0 e1 hv2 e3 e8
 match j,hj with
 | 0,_=>exact k0
 | 1,_=>exact k1
 | 2,_=>exact k2
 | 3,_=>exact k3
 | 4,_=>exact k4
 | 5,_=>exact k5
 | 6,_=>exact k6
 | 7,_=>exact k7
 | 8,_=>exact k8
 | 9,_=>exact k9
 | 10,_=>exact k10
 | 11,_=>exact k11
 | 12,_=>exact k12
 | m+13,h=>omega
theorem FQ.own2 (h:FQ w0 c q A n cap x0 x1 x3 v0 v1 v3 L1 ts pos tk w v2 L x2 mm v8 x8):OwnD w 42 5 v2 L (x2.map TObject.D):=h.st.ents.own (EO v2 L x2) (by simp)
theorem FQ.fin (h:FQ w0 c q A n cap x0 x1 x3 v0 v1 v3 L1 ts pos tk w v2 L x2 mm v8 x8):FH w0 c q A n cap w (TStore.mk x0 x1 x2 x3 ts pos [] [] x8 false tk 400 mm):=by
 obtain⟨A2,c2,e2,r2⟩:=h.own2.row (S:=fun b=>w0.heap.size≤b∧b≠q) (fun b hb=>⟨h.st.ents.low (EO v2 L x2) (by simp) b hb,fun e=>h.st.low (EO v2 L x2) (by simp) (e▸hb)⟩)
 rw[List.length_map]at e2
 exact⟨h.cur,h.oth,h.ne,store_rows h e2 r2 (OffS.refl _ w),h.st.box.2.1⟩
theorem FQ.tag (h:FQ w0 c q A n cap x0 x1 x3 v0 v1 v3 L1 ts pos tk w v2 L x2 mm v8 x8) {A2:Option Addr} {c2:Nat} (hv2:v2=.slice A2 x2.length c2) (j:Nat) (hj:j<x2.length) {tg:Int} (ht:InI tg) :
  ∃g o,A2=some ⟨g,o,none⟩∧g<w.heap.size∧(∀i,w.frozen? ⟨g,i,none⟩=false)∧(∃u,w.cell? ⟨g,o+j*5+1,none⟩=some (.int .i64 u))∧FH w0 c q A n cap (w.setCell ⟨g,o+j*5+1,none⟩ (.int .i64 tg)) (TStore.mk x0 x1 (x2.set j (x2[j].tagTo tg)) x3 ts pos [] [] x8 false tk 400 mm):=by
 obtain⟨A',c',L',e',hr,hnd,hL'⟩:=h.own2.ownRow
 rw[List.length_map]at e'
 obtain⟨rfl,rfl⟩:A2=A'∧c2=c':=by have:=hv2.symm.trans e';simpa using this
 obtain⟨g,o,La,Le,Lb,vs,rfl,hg,hf,rfl,hvs,hlen,hcell,hset⟩:=hr.at j (by simpa using hj)
 obtain⟨k,t,s,i,y,ex⟩:∃k t s i y,x2[j]=.mk k t s i y:=by cases x2[j];exact⟨_,_,_,_,_,rfl⟩
 rw[List.getElem_map,ex,TObject.D_mk]at hvs
 have hgb:Blk v2 L g:=hL' g (by simp)
 have hnd2:g∉La++(Le++Lb):=(List.nodup_cons.1 hnd).1
 match vs,hlen,hcell,hvs with
 | [u0,u1,u2,u3,u4],_,hcell,hvs =>
  obtain⟨M0,M0',e0,p0,M1,M1',e1,p1,pr⟩:=hvs
  have hc1:w.cell? ⟨g,o+j*5+1,none⟩=some u1:=hcell 1 (by decide)
  obtain⟨q0,rfl,i1⟩:=Dat.own_int.1 p1
  obtain⟨wz,hwz⟩:∃x,w.setCell ⟨g,o+j*5+1,none⟩ (.int .i64 tg)=x:=⟨_,rfl⟩
  have hB:Below g w wz:=by rw[←hwz];exact Below.setCell (Below.refl g w) (show g≤(⟨g,o+j*5+1,none⟩:Addr).block from Nat.le_refl g) _
  have same:∀d,d≠g→wz.heap[d]?=w.heap[d]?:=fun d hd=>by rw[←hwz];exact set_block _ _ (fun e=>hd e.symm)
  have sameB:∀d,d≠g→SameB w wz d:=fun d hd=>⟨fun o=>World.cell?_of_block (same d hd),fun o=>World.frozen?_of_block (same d hd)⟩
  have hgz:=h.st.ents.low (EO v2 L x2) (by simp) g hgb
  have hgq:g≠q:=fun e=>h.st.low (EO v2 L x2) (by simp) (e▸hgb)
  have hvz:Dat.OwnVals wz Le (TObject.mk k tg s i y).D [u0,.int .i64 tg,u2,u3,u4]:=by
   rw[TObject.D_mk]
   have hk:Dat.OwnVals wz Le [.int k,.int t,.int s,.row 6 (i.map TValue.D),.row 6 (y.map TValue.D)] [u0,.int .i64 t,u2,u3,u4]:=Dat.OwnVals.keep hB.size _ _ _ (fun d hd=>sameB d (fun e=>hnd2 (by rw[←e];simp[hd]))) ⟨M0,M0',e0,p0,M1,M1',e1,p1,pr⟩
   obtain⟨N0,N0',f0,s0,N1,N1',f1,s1,sr⟩:=hk
   exact⟨N0,N0',f0,s0,N1,N1',f1,Dat.own_int.2 ⟨(Dat.own_int.1 s1).1,rfl,ht⟩,sr⟩
  have hrow:=hset wz (TObject.mk k tg s i y).D [u0,.int .i64 tg,u2,u3,u4] hvz rfl hB.size (fun d hd=>sameB d (fun e=>hnd2 (by rw[←e];rcases hd with hd | hd <;> simp[hd]))) (fun i=>by rw[←hwz];simp[hf]) (fun d hd=>by rw[←hwz];refine World.cell?_setCell_other _ _ _ _ ?_;intro e;injection e with e1 e2 e3;omega) (fun d hd=>by
   rw[←hwz]
   match d,hd with
   | 0,_=>rw[World.cell?_setCell_other (h:=fun e=>by injection e with e1 e2 e3;omega)];exact hcell 0 (by decide)
   | 1,_=>rw[World.cell?_setCell_same (h:=hc1)];rfl
   | 2,_=>rw[World.cell?_setCell_other (h:=fun e=>by injection e with e1 e2 e3;omega)];exact hcell 2 (by decide)
   | 3,_=>rw[World.cell?_setCell_other (h:=fun e=>by injection e with e1 e2 e3;omega)];exact hcell 3 (by decide)
   | 4,_=>rw[World.cell?_setCell_other (h:=fun e=>by injection e with e1 e2 e3;omega)];exact hcell 4 (by decide)
   | m+5,h=>omega)
  have hmap:(x2.map TObject.D).set j (TObject.mk k tg s i y).D=(x2.set j (x2[j].tagTo tg)).map TObject.D:=by rw[List.map_set,ex];rfl
  rw[hmap]at hrow
  have hof:OffS (fun b=>¬Blk v2 L b) w wz:=⟨hB.os,hB.tape,hB.output,hB.size,fun d hd _=>same d (fun e=>hd (e▸hgb))⟩
  have hrS:Row wz (fun b=>w0.heap.size≤b∧b≠q) 5 (some ⟨g,o,none⟩) c2 ((x2.set j (x2[j].tagTo tg)).map TObject.D):=hrow.row (fun b hb=>⟨h.st.ents.low (EO v2 L x2) (by simp) b (hL' b hb),fun e=>h.st.low (EO v2 L x2) (by simp) (e▸hL' b hb)⟩)
  have hne:=h.ne
  refine⟨g,o,rfl,hg,hf,⟨t,hc1⟩,?_⟩
  rw[hwz]
  exact⟨h.cur0.low h.cur h.oth.size hB.size (fun d hd=>same d (by omega)),⟨hB.os.trans h.oth.os,hB.tape.trans h.oth.tape,hB.output.trans h.oth.output,Nat.le_trans h.oth.size hB.size,fun d hd hc=>(same d (by omega)).trans (h.oth.block d hd hc)⟩,h.ne,store_rows h (by rw[List.length_set];exact hv2) hrS hof,fun o=>(World.frozen?_of_block (same q (Ne.symm hgq))).trans (h.st.box.2.1 o)⟩
end
theorem Row.tail {w:World} {S:Nat→Prop} {A A':Option Addr} {cc c':Nat} {x2:List TObject} (hr:Row w S 5 A cc (x2.map TObject.D)) (hc:x2.length - 1≤c'∧c'≤maxLen) (hA:x2.length - 1≠0→∀g o,A=some ⟨g,o,none⟩→A'=some ⟨g,o+5,none⟩):Row w S 5 A' c' (x2.tail.map TObject.D):=by
 refine⟨by rw[List.length_map,List.length_tail];exact hc.1,hc.2,fun hne=>?_⟩
 match x2,hr,hA,hne with
 | [],_,_,hne=>exact absurd rfl hne
 | a :: r,hr,hA,hne =>
  have hr0:r≠[]:=fun e=>by subst e;exact hne rfl
  obtain⟨g,o,e,hS,hg,hrows⟩:=hr.2.2 (by simp)
  rw[List.map_cons]at hrows
  simp only[Dat.HoldRows]at hrows
  exact⟨g,o+5,hA (by simp only[List.length_cons,Nat.add_sub_cancel];exact fun e=>hr0 (List.length_eq_zero_iff.1 e)) g o e,hS,hg,hrows.2.2⟩
theorem FH.cut {w0 w:World} {c q:Nat} {A:Option Addr} {n cap:Nat} {x0:List ByteArray} {x1:List TRecordType} {x2:List TObject} {x3:List TValue} {x4:ByteArray} {x5:Int} {x6 x7:List ByteArray} {x8:List TActive} {x9:Bool} {x10 x11 x12:Int} (h:FH w0 c q A n cap w (TStore.mk x0 x1 x2 x3 x4 x5 x6 x7 x8 x9 x10 x11 x12)) (h0:Cur w0 c A n cap) {A2 A':Option Addr} {c2 c':Nat} (hcl:w.cell? ⟨q,2,none⟩=some (.slice A2 x2.length c2))
  (hc:c2≤maxLen→x2.length≤c2→x2.length - 1≤c'∧c'≤maxLen) (hA:x2.length≤c2→x2.length - 1≠0→∀g o,A2=some ⟨g,o,none⟩→A'=some ⟨g,o+5,none⟩):FH w0 c q A n cap (w.setCell ⟨q,2,none⟩ (.slice A' (x2.length - 1) c')) (TStore.mk x0 x1 x2.tail x3 x4 x5 x6 x7 x8 x9 x10 x11 x12):=by
 obtain⟨A0,c0,A1,c1,B2,d2,A3,c3,A6,c6,A7,c7,A8,c8,hqs,k0,k1,k2,k3,k4,k5,k6,k7,k8,k9,k10,k11,k12,r0,r1,r2,r3,i4,i5,r6,r7,r8,i10,i11,i12⟩:=StoreAt.cells h.st
 have e2:=hcl.symm.trans k2
 obtain⟨rfl,rfl⟩:A2=B2∧c2=d2:=by simpa using e2
 have hl2:=r2.1
 rw[List.length_map]at hl2
 have hB:Below q w (w.setCell ⟨q,2,none⟩ (.slice A' (x2.length - 1) c')):=Below.setCell (Below.refl q w) (show q≤(⟨q,2,none⟩:Addr).block from Nat.le_refl q) _
 have same:∀d,d≠q→(w.setCell ⟨q,2,none⟩ (.slice A' (x2.length - 1) c')).heap[d]?=w.heap[d]?:=fun d hd=>set_block 2 _ (fun e=>hd e.symm)
 have hof:OffS (fun b=>w0.heap.size≤b∧b≠q) w (w.setCell ⟨q,2,none⟩ (.slice A' (x2.length - 1) c')):=⟨hB.os,hB.tape,hB.output,hB.size,fun d hd _=>same d hd.2⟩
 have hne:=h.ne
 have up:∀{k:Nat} {AA:Option Addr} {cc:Nat} {xs:List (List Dat)},Row w (fun b=>w0.heap.size≤b∧b≠q) k AA cc xs→Row (w.setCell ⟨q,2,none⟩ (.slice A' (x2.length - 1) c')) (fun b=>w0.heap.size≤b∧b≠q) k AA cc xs:=fun hr=>Row.offS hof (fun _ hx=>hx) hr
 have far:∀j u,j≠2→w.cell? ⟨q,j,none⟩=some u→(w.setCell ⟨q,2,none⟩ (.slice A' (x2.length - 1) c')).cell? ⟨q,j,none⟩=some u:=fun j u hj hu=>by
  rw[World.cell?_setCell_other _ _ _ _ (fun e=>hj (by injection e with e1 e2 e3;omega))];exact hu
 refine⟨h0.low h.cur h.oth.size hB.size (fun d hd=>same d (by omega)),⟨hB.os.trans h.oth.os,hB.tape.trans h.oth.tape,hB.output.trans h.oth.output,Nat.le_trans h.oth.size hB.size,fun d hd hc=>(same d (by omega)).trans (h.oth.block d hd hc)⟩,h.ne,⟨by simpa using hqs,_,TStore.vals_mk (up r0) (up r1) (up (Row.tail r2 (hc r2.2.1 hl2) (hA hl2))) (up r3) i4 i5 (up r6) (up r7) (up r8) i10 i11 i12,fun j hj=>?_⟩,fun o=>by simp[h.fr]⟩
 match j,hj with
 | 0,_=>exact far 0 _ (by decide) k0
 | 1,_=>exact far 1 _ (by decide) k1
 | 2,_=>rw[World.cell?_setCell_same (h:=k2),List.length_tail];rfl
 | 3,_=>exact far 3 _ (by decide) k3
 | 4,_=>exact far 4 _ (by decide) k4
 | 5,_=>exact far 5 _ (by decide) k5
 | 6,_=>exact far 6 _ (by decide) k6
 | 7,_=>exact far 7 _ (by decide) k7
 | 8,_=>exact far 8 _ (by decide) k8
 | 9,_=>exact far 9 _ (by decide) k9
 | 10,_=>exact far 10 _ (by decide) k10
 | 11,_=>exact far 11 _ (by decide) k11
 | 12,_=>exact far 12 _ (by decide) k12
 | m+13,h=>omega
theorem SB.fill {w:World} {b:Nat} {v0 v1 v2 v3 v4 v5 v6 v7 v8 v9 v10 v11 v12:Value} (h:SB w b v0 v1 v2 v3 v4 v5 v6 v7 v8 v9 v10 v11 v12) (u0 u1 u2 u3 u4 u5 u6 u7 u8 u9 u10 u11 u12:Value):SB (w.setCells b 0 [u0,u1,u2,u3,u4,u5,u6,u7,u8,u9,u10,u11,u12]) b u0 u1 u2 u3 u4 u5 u6 u7 u8 u9 u10 u11 u12 :=
 ((((((((((((h.put0 u0).put1 u1).put2 u2).put3 u3).put4 u4).put5 u5).put6 u6).put7 u7).put8 u8).put9 u9).put10 u10).put11 u11).put12 u12
theorem setCells_but (b:Nat):∀(vs:List Value) (o:Nat) (w:World),ButB b w (w.setCells b o vs)
 | [],o,w=>⟨rfl,rfl,rfl,rfl,fun _ _=>rfl⟩
 | v :: r,o,w=>by
  have h1:ButB b w (w.setCell ⟨b,o,none⟩ v):=ButB.set ⟨rfl,rfl,rfl,rfl,fun _ _=>rfl⟩ o v
  have h2:=setCells_but b r (o+1) (w.setCell ⟨b,o,none⟩ v)
  exact⟨h2.size.trans h1.size,h2.os.trans h1.os,h2.tape.trans h1.tape,h2.output.trans h1.output,fun k hk=>(h2.block k hk).trans (h1.block k hk)⟩
theorem FH.out {w w0 wx:World} {c q:Nat} {A:Option Addr} {n cap:Nat} {t:TStore} (hc:Cur w c A n cap) (hb0:Bel w w0) (hz:w0.heap.size=w.heap.size+1) (h:FH w0 c q A n cap wx t) (us:List Value) {ds:List Dat} {vs:List Value} (hv:Dat.HoldVals wx (fun b=>w0.heap.size≤b∧b≠q) ds vs) :
  Dat.HoldVals (wx.setCells w.heap.size 0 us) (fun b=>w.heap.size≤b) ds vs∧Cur (wx.setCells w.heap.size 0 us) c A n cap∧Oth c w (wx.setCells w.heap.size 0 us):=by
 have hB:=setCells_but w.heap.size us 0 wx
 have hs:=hB.size
 have hz1:=h.oth.size
 refine⟨(Dat.HoldVals.offS (S0:=fun b=>w0.heap.size≤b∧b≠q) ⟨hB.os,hB.tape,hB.output,by omega,fun d hd _=>hB.block d (by have:=hd.1;omega)⟩ (fun _ hx=>hx) hv).wide (fun b hb=>by have:=hb.1;omega),hc.low h.cur (by omega) (by omega) (fun d hd=>hB.block d (by omega)),⟨hB.os.trans (h.oth.os.trans hb0.os),hB.tape.trans (h.oth.tape.trans hb0.tape),hB.output.trans (h.oth.output.trans hb0.output),by omega,fun d hd hdc=>(hB.block d (by omega)).trans ((h.oth.block d (by omega) hdc).trans (Below.block hb0 d hd))⟩⟩
end Go.Proofs.YtoikhhnmbbbjjaaDoor
