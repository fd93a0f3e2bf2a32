/- A value of a store that is drawn. -/
import Derived.Test.YtoikhhnmbbbjjaaDoorPr
import Derived.Test.YtoikhhnmbbbjjaaDoorPF1
import Derived.Test.YtoikhhnmbbbjjaaDoorPS2z
import Derived.Test.YtoikhhnmbbbjjaaDoorPOw
import Derived.Test.YtoikhhnmbbbjjaaDoorPK6
import Derived.Lib.BufferOwn
import Derived.StillTailTactics
namespace Go.Proofs.YtoikhhnmbbbjjaaDoor
set_option linter.unusedVariables false
set_option linter.unusedSimpArgs false
set_option maxRecDepth 100000
open Go.RowKit
theorem Oth.offS {c:Nat} {w w':World} {S:Nat→Prop} (h:Oth c w w') (hS:¬S c):OffS S w w':=⟨h.os,h.tape,h.output,h.size,fun b hb hl=>h.block b hl (fun e=>hS (e▸hb))⟩
theorem StoreAt.oth {c:Nat} {w w':World} {S:Nat→Prop} {q:Nat} {t:TStore} (h:StoreAt w S q t) (k:Oth c w w') (hS:¬S c) (hq:q≠c):StoreAt w' S q t:=by
 obtain⟨hl,vs,hv,hc⟩:=h
 exact⟨Nat.lt_of_lt_of_le hl k.size,vs,Dat.HoldVals.offS (k.offS hS) (fun _ hx=>hx) hv,fun j hj=>(k.cell hl hq).trans (hc j hj)⟩
structure RdS (w:World) (S:Nat→Prop) (q:Nat) (t:TStore) (A2:Option Addr) (c2:Nat):Prop where
 st:StoreAt w S q t
 cell:w.cell? ⟨q,2,none⟩=some (.slice A2 t.objects.length c2)
 row:Row w S 5 A2 c2 (t.objects.map TObject.D)
theorem RdS.oth {c:Nat} {w w':World} {S:Nat→Prop} {q:Nat} {t:TStore} {A2:Option Addr} {c2:Nat} (h:RdS w S q t A2 c2) (k:Oth c w w') (hS:¬S c) (hq:q≠c):RdS w' S q t A2 c2 :=
 ⟨h.st.oth k hS hq,(k.cell h.st.1 hq).trans h.cell,Row.offS (k.offS hS) (fun _ hx=>hx) h.row⟩
theorem RdS.of {w:World} {S:Nat→Prop} {q:Nat} {t:TStore} (h:StoreAt w S q t):∃A2 c2,RdS w S q t A2 c2:=by
 obtain⟨x0,x1,x2,x3,x4,x5,x6,x7,x8,x9,x10,x11,x12⟩:=t
 obtain⟨A0,c0,A1,c1,A2,c2,A3,c3,A6,c6,A7,c7,A8,c8,hqs,e0,e1,e2,e3,e4,e5,e6,e7,e8,e9,e10,e11,e12,g0,g1,g2,-⟩:=StoreAt.cells h
 exact⟨A2,c2,h,e2,g2⟩
theorem wpList_namedD {P:Program} {ops:Array Oper} {Q:Exit→Act→World→Prop} {l:List Oper} {a:Act} {W:World} (h:∀wz,wz=W→wpList P ops Q l a wz):wpList P ops Q l a W:=h W rfl
def VBox (w:World) (b:Nat) (k n i:Int) (t:ByteArray) (lo hi:Int):Prop:=w.cell? ⟨b,0,none⟩=some (.int .i64 k)∧w.cell? ⟨b,1,none⟩=some (.int .i64 n)∧w.cell? ⟨b,2,none⟩=some (.int .i64 i)∧w.cell? ⟨b,3,none⟩=some (.string t)∧w.cell? ⟨b,4,none⟩=some (.int .i64 lo)∧w.cell? ⟨b,5,none⟩=some (.int .i64 hi)
theorem VBox.new (w:World) (ty:TypeId) {k n i:Int} {t:ByteArray} {lo hi:Int}:VBox (w.alloc (.cells #[.int .i64 k,.int .i64 n,.int .i64 i,.string t,.int .i64 lo,.int .i64 hi] ty)) w.heap.size k n i t lo hi:=⟨by simp,by simp,by simp,by simp,by simp,by simp⟩
theorem VBox.bel {w w':World} {b:Nat} {k n i:Int} {t:ByteArray} {lo hi:Int} (h:VBox w b k n i t lo hi) (hb:b<w.heap.size) (k':Bel w w'):VBox w' b k n i t lo hi:=by
 obtain⟨c0,c1,c2,c3,c4,c5⟩:=h
 exact⟨(k'.box b hb 0).trans c0,(k'.box b hb 1).trans c1,(k'.box b hb 2).trans c2,(k'.box b hb 3).trans c3,(k'.box b hb 4).trans c4,(k'.box b hb 5).trans c5⟩
theorem VBox.on {w w':World} {ty:TypeId} {k n i:Int} {t:ByteArray} {lo hi:Int} (h:Bel (w.alloc (.cells #[.int .i64 k,.int .i64 n,.int .i64 i,.string t,.int .i64 lo,.int .i64 hi] ty)) w'):VBox w' w.heap.size k n i t lo hi:=(VBox.new w ty).bel (by simp) h
set_option maxHeartbeats 4000000 in
theorem l13Some_any (t:TStore) (S:Nat→Prop) (q c:Nat) (A:Option Addr) (n cap:Nat) (w:World) (hc:Cur w c A n cap) (hs:StoreAt w S q t) (hS:¬S c) (hq:q≠c) (hl:t.objects.length≤1048576) :
  Calls Tryd.prog 29 #[.pointer (some ⟨c,0,none⟩),.pointer (some ⟨q,0,none⟩)] w (DrewV w c A n cap):=by
 have HC:=hide hc
 obtain⟨A2,c2,hrd⟩:=RdS.of hs
 have HR:=hide hrd
 have hqs:=hs.1
 have e2:=hrd.cell
 have hlt:=hc.1
 have hne:w.heap.size≠c:=by omega
 have hqn:¬q=w.heap.size:=by omega
 have HS:=hide hS
 obtain⟨N,hN⟩:∃N:Nat,t.objects.length=N:=⟨_,rfl⟩
 rw[hN]at e2 hl
 have HN:=hide hN
 clear hc hs hrd hS hN
 go_enter Tryd.func29,Tryd.ntmps29
 go_upto_region 1 with (fail)
 go_cut [17]from 8 to 17 (fun u wx=>∃z:Bool,u=.bool z∧(z=true→0<N)∧Cur wx c A n cap∧Oth c w wx∧Z6 wx w.heap.size)
 case first =>
  go_wp2_with (go_at_call 27;refine (l1Once_any 2 c A n cap _ (HC.out.bel bl) (by unfold InI;omega)).mono ?_;rintro e w1 ⟨z,rfl,hC1,hO1⟩;have HC1:=hide hC1;have HO1:=hide (Oth.trans (Oth.of_bel (c:=c) (w:=w) bl) hO1);have Z1:=hide (Z6.oth Z6.new hO1 hne);clear hC1 hO1;have e3:=(HR.out.oth HO1.out HS.out hq).cell;rw[HN.out]at e3;cases z)
  all_goals go_meet
  all_goals exact⟨_,rfl,fun h=>by first | cases h | (simp at h;omega) | (have h2:=of_decide_eq_true h;omega),HC1.out,HO1.out,Z1.out⟩
 case rest =>
  obtain⟨z,rfl,hz,hC1,hO1,hZ1⟩:=hcut
  have HC1:=hide hC1
  have HO1:=hide hO1
  have Z1:=hide hZ1
  have hz1:=hO1.size
  clear hC1 hO1 hZ1
  go_upto_if 17 with (fail)
  go_cut []from 18 to 45 (fun wx=>Cur wx c A n cap∧Oth c w wx∧Z6 wx w.heap.size)
  case first =>
   cases z
   ·
    go_wp2_with (fail)
    all_goals go_meet
    all_goals exact⟨HC1.out,HO1.out,Z1.out⟩
   ·
    have hz0:0<N:=hz rfl
    clear hz
    have e3:=(HR.out.oth HO1.out HS.out hq).cell
    rw[HN.out]at e3
    go_upto_region 3 with (go_at_call 50;refine (l1Below_any N c A n cap _ HC1.out (by unfold InI;omega)).mono ?_;rintro e w2 ⟨y,y1,y2,rfl,hC2,hO2⟩;have HC2:=hide hC2;have HO2:=hide (HO1.out.trans hO2);have Z2:=hide (Z6.oth Z1.out hO2 hne);clear hC2 hO2)
    have y3:y≤(N:Int) - 1:=by have h:=y2;unfold belowHi at h;rw[if_neg (by omega)]at h;exact h
    clear y2
    obtain⟨j,rfl⟩:=Int.eq_ofNat_of_zero_le y1
    have hj:j<N:=by omega
    have hji:(j:Int)<(N:Int):=by omega
    have HR2:=hide (HR.out.oth HO2.out HS.out hq)
    have e4:=HR2.out.cell
    rw[HN.out]at e4
    obtain⟨g,o,a0,a1,a2,a3,a4,B3,d3,B4,d4,hA2,hSg,hlg,hx,hv,i0,i1,i2,r3,r4,k0,k1,k2,k3,k4⟩:=TObject.at HR2.out.row j (by rw[HN.out];exact hj)
    subst hA2
    clear hv r3 r4 hx hSg
    have hz2:=HO2.out.size
    have h9:=Z2.out
    obtain⟨z0,z1,z2,z3,z4,z5,zf,zl⟩:=h9
    by_cases hk:2≤a0∧a0≤7
    ·
     obtain⟨m,hm0⟩:=Int.eq_ofNat_of_zero_le (show 0≤a0 - 2 by omega)
     obtain rfl:a0=(m:Int)+2:=by omega
     have hm6:m<6:=by omega
     have hmi:(m:Int)<6:=by omega
     have d1:decide (2≤(m:Int)+2)=true:=decide_eq_true (by omega)
     have d2:decide ((m:Int)+2≤7)=true:=decide_eq_true (by omega)
     go_upto_region 5 with (fail)
     refine wp_region_lit ?_
     refine wpList_plain rfl fun K hK=>?_
     go_simp
     refine hK _ _ ?_
     clear hK K
     refine wpList_namedD fun w3 hw3=>?_
     have hb3:Bel w2 w3:=by rw[hw3];exact bl
     obtain⟨kk,hkk,hcell⟩:∃x:Int,InI x∧w3.cell? ⟨w2.heap.size,m,none⟩=some (.int .i64 x):=by rw[hw3];exact (rowI_new (w:=w2) (t:=3) [4,5,6,7,11,12] (by decide)).2 m hm6
     have HC3:=hide (HC2.out.bel hb3)
     have HO3:=hide (HO2.out.trans (Oth.of_bel hb3))
     have Z3:=hide (Z2.out.on hb3)
     clear hw3 z0 z1 z2 z3 z4 z5 zf zl e4
     have h9:=Z3.out
     obtain⟨z0,z1,z2,z3,z4,z5,zf,zl⟩:=h9
     go_wp2_with (fail)
     refine gen_ret6o (Z3.out) fun wz d0 d1 d2 d3 d4 d5 ho hf hz _=>?_
     exact bodyPost_ret (v:=((⟨kk,j,0,ByteArray.empty,0,0⟩:VVal)).val) (by simp[results,Tryd.results29,d0,d1,d2,d3,d4,d5,go_sem];try rfl) rfl ⟨(⟨kk,j,0,ByteArray.empty,0,0⟩:VVal),⟨hkk,by show InI (j:Int);unfold InI;omega,in0,by show ByteArray.empty.size≤maxLen;decide,in0,in0⟩,rfl,Cur.fin HC.out (HC3.out) (ho _ _ (HO3.out) (Nat.le_refl _)) (fun o=>hf _ _ (Ne.symm hne)) (fun o=>hz _),ho _ _ (HO3.out) (Nat.le_refl _)⟩
    ·
     have hd:decide (2≤a0)=false∨(decide (2≤a0)=true∧decide (a0≤7)=false):=by
      by_cases h:2≤a0
      ·
       exact Or.inr ⟨decide_eq_true h,decide_eq_false (by omega)⟩
      ·
       exact Or.inl (decide_eq_false h)
     rcases hd with d1 | ⟨d1,d2⟩
     all_goals
      go_wp2_with (fail)
      all_goals go_meet
      all_goals exact⟨HC2.out,HO2.out,Z2.out⟩
  case rest =>
   clear HC1 HO1 Z1 hz1 hz
   obtain⟨hC1,hO1,hZ1⟩:=hcut
   have HC1:=hide hC1
   have HO1:=hide hO1
   have Z1:=hide hZ1
   have hz1:=hO1.size
   clear hC1 hO1 hZ1
   go_upto_if 50 with (first
    | (go_at_call 28;refine (l11Draw_any c A n cap _ HC1.out).mono ?_;rintro e w2 ⟨⟨k,m,i,s,lo,hi⟩,hv,he,hC2,hO2⟩;replace he:e=.returned (.agg #[.int .i64 k,.int .i64 m,.int .i64 i,.string s,.int .i64 lo,.int .i64 hi]):=he;subst he;have HV:=hide hv;have HC2:=hide hC2;have HO2:=hide (HO1.out.trans hO2);have Z2:=hide (Z6.oth Z1.out hO2 hne);clear hC2 hO2 hv;have hts:=HV.out.t;unfold maxLen at hts;simp only at hts)
    | (go_at_call 15;refine (specData_any t ⟨k,m,i,s,lo,hi⟩ S q _ (StoreAt.bel bl (HR.out.oth HO2.out HS.out hq).st) HV.out).mono ?_;rintro e w3 ⟨rfl,hb3⟩))
   have HC3:=hide (HC2.out.bel (w':=w3) bl)
   have HO3:=hide (HO2.out.trans (Oth.of_bel (w':=w3) bl))
   have Z3:=hide (Z2.out.on (w':=w3) bl)
   have B3:VBox w3 w2.heap.size k m i s lo hi:=VBox.on hb3
   obtain⟨b0,b1,b2,b3,b4,b5⟩:=B3
   have h9:=Z3.out
   obtain⟨z0,z1,z2,z3,z4,z5,zf,zl⟩:=h9
   cases dataB t ⟨k,m,i,s,lo,hi⟩
   ·
    go_wp2_with (first
     | (go_at_call 50;refine (l1Below_any 5 c A n cap _ HC3.out (by unfold InI;omega)).mono ?_;rintro e w4 ⟨y,y1,y2,rfl,hC4,hO4⟩;have y3:y≤4:=y2;have HC4:=hide hC4;have HO4:=hide (HO3.out.trans hO4);have Z4:=hide (Z6.oth Z3.out hO4 hne);clear hC4 hO4 y2)
     | (go_at_call 48;refine (l11IntD_any y _).mono ?_;rintro e w5 ⟨rfl,hb5⟩;have HC5:=hide (HC4.out.bel hb5);have HO5:=hide (HO4.out.trans (Oth.of_bel hb5));have Z5:=hide (Z4.out.on hb5);have h5:=Z5.out;obtain⟨z0,z1,z2,z3,z4,z5,zf,zl⟩:=h5;clear hb5))
    refine gen_ret6o (Z5.out) fun wz d0 d1 d2 d3 d4 d5 ho hf hz _=>?_
    exact bodyPost_ret (v:=(VVal.ofInt y).val) (by simp[results,Tryd.results29,d0,d1,d2,d3,d4,d5,go_sem];try rfl) rfl ⟨VVal.ofInt y,⟨inI_small (by show -100≤(1:Int);omega) (by show (1:Int)≤100;omega),by show InI y;unfold InI;omega,in0,by show ByteArray.empty.size≤maxLen;decide,in0,in0⟩,rfl,Cur.fin HC.out (HC5.out) (ho _ _ (HO5.out) (Nat.le_refl _)) (fun o=>hf _ _ (Ne.symm hne)) (fun o=>hz _),ho _ _ (HO5.out) (Nat.le_refl _)⟩
   ·
    go_wp2_with (fail)
    refine gen_ret6o (Z3.out) fun wz d0 d1 d2 d3 d4 d5 ho hf hz _=>?_
    exact bodyPost_ret (v:=((⟨k,m,i,s,lo,hi⟩:VVal)).val) (by simp[results,Tryd.results29,d0,d1,d2,d3,d4,d5,go_sem];try rfl) rfl ⟨(⟨k,m,i,s,lo,hi⟩:VVal),HV.out,rfl,Cur.fin HC.out (HC3.out) (ho _ _ (HO3.out) (Nat.le_refl _)) (fun o=>hf _ _ (Ne.symm hne)) (fun o=>hz _),ho _ _ (HO3.out) (Nat.le_refl _)⟩
end Go.Proofs.YtoikhhnmbbbjjaaDoor
namespace Go.Proofs.YtoikhhnmbbbjjaaDoor
set_option linter.unusedVariables false
set_option linter.unusedSimpArgs false
set_option maxRecDepth 100000
open Go.RowKit
theorem below_lt {m y:Int} (h:y≤belowHi m):y≤0∨y<m:=by
 unfold belowHi at h
 split at h <;> omega
end Go.Proofs.YtoikhhnmbbbjjaaDoor
namespace Go.Proofs.YtoikhhnmbbbjjaaDoor
set_option linter.unusedVariables false
set_option linter.unusedSimpArgs false
set_option maxRecDepth 100000
open Go.RowKit
abbrev nilS:Value:=.slice none 0 0
abbrev EV (v:Value) (xs:List TValue):Ent:=⟨34,6,v,[],xs.map TValue.D⟩
abbrev EO (v:Value) (L:List Nat) (xs:List TObject):Ent:=⟨42,5,v,L,xs.map TObject.D⟩
abbrev LA (x0:List ByteArray) (x1:List TRecordType) (v0 v1:Value) (L1:List Nat):List Ent:=[⟨9,1,v0,[],x0.map fun x=>[Dat.str x]⟩,⟨71,3,v1,L1,x1.map TRecordType.D⟩]
abbrev LG (x3:List TValue) (v3:Value) (le:List Ent):List Ent:=EV v3 x3 :: le
theorem Cur.low {c:Nat} {A:Option Addr} {n cap:Nat} {w0 w w':World} (h0:Cur w0 c A n cap) (h:Cur w c A n cap) (hs0:w0.heap.size≤w.heap.size) (hs:w.heap.size≤w'.heap.size) (hb:∀k,k<w0.heap.size→w'.heap[k]?=w.heap[k]?):Cur w' c A n cap:=by
 obtain⟨l0,-,hB0,-⟩:=h0
 obtain⟨l,f,hB,i,x,hi,c0,c1,c2⟩:=h
 have e:∀o,w'.cell? ⟨c,o,none⟩=w.cell? ⟨c,o,none⟩:=fun o=>World.cell?_of_block (hb c l0)
 refine⟨by omega,fun o=>(World.frozen?_of_block (hb c l0)).trans (f o),⟨hB.1,fun hn=>?_⟩,i,x,hi,(e 0).trans c0,(e 1).trans c1,(e 2).trans c2⟩
 obtain⟨b,o,hA,hlt,hc,hj⟩:=hB.2 hn
 obtain⟨b',o',hA',hlt',-,-⟩:=hB0.2 hn
 have e2:=hA.symm.trans hA'
 obtain⟨rfl,rfl⟩:b=b'∧o=o':=by simpa using e2
 exact⟨b,o,hA,by omega,hc,fun j hl=>by obtain⟨x,hx,hcell⟩:=hj j hl;exact⟨x,hx,(World.cell?_of_block (hb b hlt')).trans hcell⟩⟩
theorem Ents.sub {N:Nat} {w:World} {l l':List Ent} (h:Ents N w l) (hs:List.Sublist l' l):Ents N w l':=⟨fun e he=>h.own e (hs.subset he),fun e he=>h.low e (hs.subset he),h.sep.sublist hs⟩
def MmOk (n:Nat) (m:Int):Prop:=0≤m∧m≤n∧InI m
theorem MmOk.more {n:Nat} {m:Int} (h:MmOk n m):MmOk (n+1) m:=⟨h.1,by have:=h.2.1;omega,h.2.2⟩
theorem MmOk.nextM {n:Nat} {m:Int} (h:MmOk n m) (hn:n≤2097152):MmOk (n+1) (IntKind.i64.wrap (m+1)):=by
 obtain⟨h1,h2,h3⟩:=h
 have e:IntKind.i64.wrap (m+1)=m+1:=by rw[IntKind.wrap_i64];omega
 rw[e]
 exact⟨by omega,by omega,by unfold InI;omega⟩
structure SQ (w0:World) (c q:Nat) (A:Option Addr) (n cap:Nat) (x0:List ByteArray) (x1:List TRecordType) (x3:List TValue) (v0 v1 v3:Value) (L1:List Nat) (ts:ByteArray) (pos tk:Int) (w:World) (v2:Value) (L:List Nat) (x2:List TObject) (mm:Int) (le:List Ent):Prop where
 cur0:Cur w0 c A n cap
 cur:Cur w c A n cap
 st:MkS w0.heap.size w q v0 v1 v2 v3 (.string ts) (.int .i64 pos) nilS nilS nilS (.bool false) (.int .i64 tk) (.int .i64 400) (.int .i64 mm) (LA x0 x1 v0 v1 L1) (LG x3 v3 le) L (x2.map TObject.D)
 ne:c<w0.heap.size∧w0.heap.size≤q
 oth:Oth c w0 w
 ok:InI pos∧InI tk∧MmOk x2.length mm∧ts.size≤maxLen
 sml:∀o,o∈x2→o.its.length≤100∧o.kys.length≤100
structure SO (w0:World) (c q:Nat) (A:Option Addr) (n cap:Nat) (x0:List ByteArray) (x1:List TRecordType) (x3:List TValue) (v0 v1 v3:Value) (L1:List Nat) (ts:ByteArray) (pos tk:Int) (w:World) (v2:Value) (L:List Nat) (x2:List TObject) (mm:Int) (b:Nat) (k t:Int) (vi vk:Value) (its kys:List TValue):Prop where
 sq:SQ w0 c q A n cap x0 x1 x3 v0 v1 v3 L1 ts pos tk w v2 L x2 mm [EV vi its,EV vk kys]
 ob:OB w b (.int .i64 k) (.int .i64 t) (.int .i64 0) vi vk
 low:∀f,f∈(LA x0 x1 v0 v1 L1)++EO v2 L x2 :: LG x3 v3 [EV vi its,EV vk kys]→¬Blk f.v f.L b
 neb:w0.heap.size≤b∧b≠q
 okk:InI k∧InI t
section
variable {w0:World} {c q:Nat} {A:Option Addr} {n cap:Nat} {x0:List ByteArray} {x1:List TRecordType} {x3:List TValue} {v0 v1 v3:Value} {L1:List Nat} {ts:ByteArray} {pos tk:Int} {w w':World} {v2:Value} {L:List Nat} {x2:List TObject} {mm:Int} {le:List Ent} {b:Nat} {k t:Int} {vi vk:Value} {its kys:List TValue}
theorem SQ.oth' (h:SQ w0 c q A n cap x0 x1 x3 v0 v1 v3 L1 ts pos tk w v2 L x2 mm le) (k:Oth c w w') (hc:Cur w' c A n cap):SQ w0 c q A n cap x0 x1 x3 v0 v1 v3 L1 ts pos tk w' v2 L x2 mm le:=by
 exact rk186
theorem SQ.on (h:SQ w0 c q A n cap x0 x1 x3 v0 v1 v3 L1 ts pos tk w v2 L x2 mm le) (k:Bel w w'):SQ w0 c q A n cap x0 x1 x3 v0 v1 v3 L1 ts pos tk w' v2 L x2 mm le:=h.oth' (Oth.of_bel k) (h.cur.bel k)
theorem SQ.store (h:SQ w0 c q A n cap x0 x1 x3 v0 v1 v3 L1 ts pos tk w v2 L x2 mm le):StoreAt w (fun b=>w0.heap.size≤b) q (TStore.mk x0 x1 x2 x3 ts pos [] [] [] false tk 400 mm):=by
 have E:=h.st.ents
 obtain⟨A0,c0,e0,r0⟩:=(E.own ⟨9,1,v0,[],x0.map fun x=>[Dat.str x]⟩ (by simp)).row (S:=fun b=>w0.heap.size≤b) (E.low ⟨9,1,v0,[],x0.map fun x=>[Dat.str x]⟩ (by simp))
 obtain⟨A1,c1,e1,r1⟩:=(E.own ⟨71,3,v1,L1,x1.map TRecordType.D⟩ (by simp)).row (S:=fun b=>w0.heap.size≤b) (E.low ⟨71,3,v1,L1,x1.map TRecordType.D⟩ (by simp))
 obtain⟨A2,c2,e2,r2⟩:=(E.own (EO v2 L x2) (by simp)).row (S:=fun b=>w0.heap.size≤b) (E.low (EO v2 L x2) (by simp))
 obtain⟨A3,c3,e3,r3⟩:=(E.own (EV v3 x3) (by simp)).row (S:=fun b=>w0.heap.size≤b) (E.low (EV v3 x3) (by simp))
 obtain⟨hlb,hfb,k0,k1,k2,k3,k4,k5,k6,k7,k8,k9,k10,k11,k12⟩:=h.st.box
 simp only[List.length_map]at e0 e1 e2 e3
 have z:∀k,Row w (fun b=>w0.heap.size≤b) k none 0 []:=fun k=>⟨Nat.le_refl _,Nat.zero_le _,fun h=>absurd rfl h⟩
 refine⟨hlb,_,TStore.vals_mk r0 r1 r2 r3 h.ok.2.2.2 h.ok.1 (x6:=[]) (x7:=[]) (x8:=[]) (z 1) (z 1) (z 2) h.ok.2.1 (by unfold InI;omega) h.ok.2.2.1.2.2,fun j hj=>?_⟩
 subst e0 e1 e2 e3
 match j,hj with
 | 0,_=>exact k0
 | 1,_=>exact k1
 | 2,_=>exact k2
 | 3,_=>exact k3
 | 4,_=>exact k4
 | 5,_=>exact k5
 | 6,_=>exact k6
 | 7,_=>exact k7
 | 8,_=>exact k8
 | 9,_=>exact k9
 | 10,_=>exact k10
 | 11,_=>exact k11
 | 12,_=>exact k12
 | m+13,h=>omega
theorem SQ.v2low (h:SQ w0 c q A n cap x0 x1 x3 v0 v1 v3 L1 ts pos tk w v2 L x2 mm le) {x:Nat} (hx:v2.ownBlock=some x):w0.heap.size≤x:=h.st.ents.low (EO v2 L x2) (by simp) x (Or.inl hx)
theorem SQ.via (h:SQ w0 c q A n cap x0 x1 x3 v0 v1 v3 L1 ts pos tk w v2 L x2 mm le) {u2:Value} {L':List Nat} {y2:List TObject} {u:Int} {le':List Ent} (hk:MkS w0.heap.size w' q v0 v1 u2 v3 (.string ts) (.int .i64 pos) nilS nilS nilS (.bool false) (.int .i64 tk) (.int .i64 400) (.int .i64 u) (LA x0 x1 v0 v1 L1) (LG x3 v3 le') L' (y2.map TObject.D))
  (hf:w'.os=w.os∧w'.tape=w.tape∧w'.output=w.output∧w.heap.size≤w'.heap.size) (old:∀k,k<w0.heap.size→w'.heap[k]?=w.heap[k]?) (hu:MmOk y2.length u) (hs:∀o,o∈y2→o.its.length≤100∧o.kys.length≤100):SQ w0 c q A n cap x0 x1 x3 v0 v1 v3 L1 ts pos tk w' u2 L' y2 u le' :=
 ⟨h.cur0,h.cur0.low h.cur h.oth.size hf.2.2.2 old,hk,h.ne,⟨hf.1.trans h.oth.os,hf.2.1.trans h.oth.tape,hf.2.2.1.trans h.oth.output,Nat.le_trans h.oth.size hf.2.2.2,fun k hk hc=>(old k hk).trans (h.oth.block k hk hc)⟩,⟨h.ok.1,h.ok.2.1,hu,h.ok.2.2.2⟩,hs⟩
theorem SQ.made (h:SQ w0 c q A n cap x0 x1 x3 v0 v1 v3 L1 ts pos tk w v2 L x2 mm le) {M:List Nat} {o:TObject} {u:Int} {r:Value} {e:Ending} (hm:MadeP w0.heap.size w q v0 v1 v2 v3 (.string ts) (.int .i64 pos) nilS nilS nilS (.bool false) (.int .i64 tk) (.int .i64 400) (.int .i64 mm) (.int .i64 u) (LA x0 x1 v0 v1 L1) (LG x3 v3 le) L M (x2.map TObject.D) o.D r e w') (hu:MmOk (x2.length+1) u) (ho:o.its.length≤100∧o.kys.length≤100) :
  ∃y,e=.returned r∧SQ w0 c q A n cap x0 x1 x3 v0 v1 v3 L1 ts pos tk w' y (L++M) (x2++[o]) u le∧(w.heap.size≤w'.heap.size∧∀k,k<w.heap.size→k≠q→v2.ownBlock≠some k→w'.heap[k]?=w.heap[k]?)∧∀x,Blk y (L++M) x→Blk v2 L x∨x∈M∨w.heap.size≤x:=by
 obtain⟨y,he,hk,hf,hy,hs⟩:=hm
 have hne:=h.ne
 have hsz:=h.oth.size
 refine⟨y,he,h.via (by rw[List.map_append];exact hk) hf (fun k hk=>hs k (by omega) (by omega) (fun e=>by have:=h.v2low e;omega)) (by rw[List.length_append];exact hu) (fun o' ho'=>?_),⟨hf.2.2.2,hs⟩,fun x hx=>?_⟩
 ·
  rcases List.mem_append.1 ho' with q | q
  ·
   exact h.sml o' q
  ·
   rw[List.mem_singleton.1 q];exact ho
 ·
  rcases hx with q | q
  ·
   exact (hy x q).elim (fun e=>Or.inl (Or.inl e)) (fun e=>Or.inr (Or.inr e))
  ·
   exact (List.mem_append.1 q).elim (fun e=>Or.inl (Or.inr e)) (fun e=>Or.inr (Or.inl e))
theorem SQ.drop (h:SQ w0 c q A n cap x0 x1 x3 v0 v1 v3 L1 ts pos tk w v2 L x2 mm le):SQ w0 c q A n cap x0 x1 x3 v0 v1 v3 L1 ts pos tk w v2 L x2 mm [] :=
 have hs:List.Sublist ((LA x0 x1 v0 v1 L1)++EO v2 L x2 :: LG x3 v3 []) ((LA x0 x1 v0 v1 L1)++EO v2 L x2 :: (LG x3 v3 le)):=(((List.nil_sublist le).cons_cons (EV v3 x3)).cons_cons (EO v2 L x2)).append_left (LA x0 x1 v0 v1 L1)
 ⟨h.cur0,h.cur,⟨h.st.box,h.st.ents.sub hs,fun f hf=>h.st.low f (hs.subset hf)⟩,h.ne,h.oth,h.ok,h.sml⟩
theorem SQ.setb (h:SQ w0 c q A n cap x0 x1 x3 v0 v1 v3 L1 ts pos tk w v2 L x2 mm le) (hl:∀f,f∈(LA x0 x1 v0 v1 L1)++EO v2 L x2 :: (LG x3 v3 le)→¬Blk f.v f.L b) (hb:w0.heap.size≤b∧b≠q) (o:Nat) (u:Value):SQ w0 c q A n cap x0 x1 x3 v0 v1 v3 L1 ts pos tk (w.setCell ⟨b,o,none⟩ u) v2 L x2 mm le:=by
 have hB:Below b w (w.setCell ⟨b,o,none⟩ u):=Below.setCell (Below.refl b w) (show b≤(⟨b,o,none⟩:Addr).block from Nat.le_refl b) u
 exact h.via ⟨h.st.box.far o u hb.2,h.st.ents.far2 hl o u,h.st.low⟩ ⟨hB.os,hB.tape,hB.output,hB.size⟩ (fun k hk=>set_block o u (by omega)) h.ok.2.2.1 h.sml
theorem SO.oth (h:SO w0 c q A n cap x0 x1 x3 v0 v1 v3 L1 ts pos tk w v2 L x2 mm b k t vi vk its kys) (k':Oth c w w') (hc:Cur w' c A n cap):SO w0 c q A n cap x0 x1 x3 v0 v1 v3 L1 ts pos tk w' v2 L x2 mm b k t vi vk its kys :=
 ⟨h.sq.oth' k' hc,h.ob.block k'.size (k'.block b h.ob.1 (by have:=h.neb;have:=h.sq.ne;omega)),h.low,h.neb,h.okk⟩
theorem SO.on (h:SO w0 c q A n cap x0 x1 x3 v0 v1 v3 L1 ts pos tk w v2 L x2 mm b k t vi vk its kys) (k':Bel w w'):SO w0 c q A n cap x0 x1 x3 v0 v1 v3 L1 ts pos tk w' v2 L x2 mm b k t vi vk its kys:=h.oth (Oth.of_bel k') (h.sq.cur.bel k')
theorem SO.put0 (h:SO w0 c q A n cap x0 x1 x3 v0 v1 v3 L1 ts pos tk w v2 L x2 mm b k t vi vk its kys) {k2:Int} (hk:InI k2):SO w0 c q A n cap x0 x1 x3 v0 v1 v3 L1 ts pos tk (w.setCell ⟨b,0,none⟩ (.int .i64 k2)) v2 L x2 mm b k2 t vi vk its kys:=⟨h.sq.setb h.low h.neb 0 _,h.ob.put0 _,h.low,h.neb,⟨hk,h.okk.2⟩⟩
theorem SO.put1 (h:SO w0 c q A n cap x0 x1 x3 v0 v1 v3 L1 ts pos tk w v2 L x2 mm b k t vi vk its kys) {t2:Int} (hk:InI t2):SO w0 c q A n cap x0 x1 x3 v0 v1 v3 L1 ts pos tk (w.setCell ⟨b,1,none⟩ (.int .i64 t2)) v2 L x2 mm b k t2 vi vk its kys:=⟨h.sq.setb h.low h.neb 1 _,h.ob.put1 _,h.low,h.neb,⟨h.okk.1,hk⟩⟩
theorem SO.start (h:SQ w0 c q A n cap x0 x1 x3 v0 v1 v3 L1 ts pos tk w v2 L x2 mm []) (hb:Bel w w') (ho:OB w' b (.int .i64 k) (.int .i64 0) (.int .i64 0) nilS nilS) (hn:w.heap.size≤b) (hk:InI k):SO w0 c q A n cap x0 x1 x3 v0 v1 v3 L1 ts pos tk w' v2 L x2 mm b k 0 nilS nilS [] []:=by
 have hq:=h.st.box.1
 have hs:=h.oth.size
 have hnil:∀w,OwnD w 34 6 nilS [] (([]:List TValue).map TValue.D):=fun w=>OwnD.nil w _ _
 have hnb:∀x,¬Blk nilS [] x:=fun x hx=>OwnD.blk_nil hx
 have h1:Ents w0.heap.size w' (((LA x0 x1 v0 v1 L1)++EO v2 L x2 :: LG x3 v3 [])++[EV nilS []]):=h.st.ents.snoc hb (hnil w') hs (fun x hx=>absurd hx (hnb x))
 have h2:Ents w0.heap.size w' ((((LA x0 x1 v0 v1 L1)++EO v2 L x2 :: LG x3 v3 [])++[EV nilS []])++[EV nilS []]):=h1.snoc (Bel.refl w') (hnil w') (Nat.le_trans hs hb.size) (fun x hx=>absurd hx (hnb x))
 have hm:∀f,f∈(LA x0 x1 v0 v1 L1)++EO v2 L x2 :: LG x3 v3 [EV nilS [],EV nilS []]→f∈(LA x0 x1 v0 v1 L1)++EO v2 L x2 :: LG x3 v3 []∨f=EV nilS []:=fun f hf=>by
  simp only[LA,LG,List.cons_append,List.nil_append,List.mem_cons,List.not_mem_nil,or_false]at hf ⊢
  rcases hf with q | q | q | q | q | q
  ·
   exact Or.inl (Or.inl q)
  ·
   exact Or.inl (Or.inr (Or.inl q))
  ·
   exact Or.inl (Or.inr (Or.inr (Or.inl q)))
  ·
   exact Or.inl (Or.inr (Or.inr (Or.inr q)))
  ·
   exact Or.inr q
  ·
   exact Or.inr q
 refine⟨⟨h.cur0,h.cur.bel hb,⟨h.st.box.on hb,by simpa using h2,fun f hf=>?_⟩,h.ne,h.oth.trans (Oth.of_bel hb),h.ok,h.sml⟩,ho,fun f hf=>?_,⟨by omega,by omega⟩,⟨hk,by unfold InI;omega⟩⟩
 ·
  rcases hm f hf with q | q
  ·
   exact h.st.low f q
  ·
   rw[q];exact hnb _
 ·
  rcases hm f hf with q | q
  ·
   intro hx
   have:=(h.st.ents.own f q).lt b hx
   omega
  ·
   rw[q];exact hnb _
theorem SO.grow3 (h:SO w0 c q A n cap x0 x1 x3 v0 v1 v3 L1 ts pos tk w v2 L x2 mm b k t vi vk its kys) {wm w9:World} {v9:Value} {its':List TValue} (hm:Bel w wm) (hg:wm.grownBy w9 vi.ownBlock) (ho:OwnD w9 34 6 v9 [] (its'.map TValue.D)) (hn:∀x,v9.ownBlock=some x→vi.ownBlock=some x∨w.heap.size≤x) :
  SO w0 c q A n cap x0 x1 x3 v0 v1 v3 L1 ts pos tk (w9.setCell ⟨b,3,none⟩ v9) v2 L x2 mm b k t v9 vk its' kys:=by
 have hs:=h.sq.oth.size
 have hz1:=hm.size
 have hz2:=hg.size
 have hE:Ents w0.heap.size w (((LA x0 x1 v0 v1 L1)++[EO v2 L x2,EV v3 x3])++EV vi its :: [EV vk kys]):=by simpa using h.sq.st.ents
 have hlt:∀f,f∈((LA x0 x1 v0 v1 L1)++[EO v2 L x2,EV v3 x3])++[EV vk kys]→∀x,Blk f.v f.L x→x<w.heap.size:=fun f hf x hx=>(h.sq.st.ents.own f (by simp at hf ⊢;grind)).lt x hx
 have hE9:Ents w0.heap.size w9 (((LA x0 x1 v0 v1 L1)++[EO v2 L x2,EV v3 x3])++EV v9 its' :: [EV vk kys]):=hE.growAt hm hg ho fun x hx=>by
  rcases hx with q | q
  ·
   exact rk188
  ·
   cases q
 have hin:∀f,f∈(LA x0 x1 v0 v1 L1)++EO v2 L x2 :: LG x3 v3 [EV v9 its',EV vk kys]→f∈(LA x0 x1 v0 v1 L1)++EO v2 L x2 :: LG x3 v3 [EV vi its,EV vk kys]∨f=EV v9 its':=fun f hf=>by simp at hf ⊢;grind
 have vlow:∀x,vi.ownBlock=some x→w0.heap.size≤x:=fun x hx=>h.sq.st.ents.low (EV vi its) (by simp) x (Or.inl hx)
 have vne:∀d,(∀f,f∈(LA x0 x1 v0 v1 L1)++EO v2 L x2 :: LG x3 v3 [EV vi its,EV vk kys]→¬Blk f.v f.L d)→d<w.heap.size→(∀f,f∈(LA x0 x1 v0 v1 L1)++EO v2 L x2 :: LG x3 v3 [EV v9 its',EV vk kys]→¬Blk f.v f.L d):=fun d hd hl f hf=>by
  rcases hin f hf with q | rfl
  ·
   exact hd f q
  ·
   exact rk215
 have same:∀d,d<w.heap.size→vi.ownBlock≠some d→w9.heap[d]?=w.heap[d]?:=fun d hd hne=>(hg.block d (by omega) (fun q=>hne q.symm)).trans (Below.block hm d hd)
 have hqb:=h.sq.st.box.1
 have hob:=h.ob.1
 have hqn:vi.ownBlock≠some q:=fun e=>h.sq.st.low (EV vi its) (by simp) (Or.inl e)
 have hbn:vi.ownBlock≠some b:=fun e=>h.low (EV vi its) (by simp) (Or.inl e)
 have S9:SQ w0 c q A n cap x0 x1 x3 v0 v1 v3 L1 ts pos tk w9 v2 L x2 mm [EV v9 its',EV vk kys]:=h.sq.via ⟨h.sq.st.box.block (by omega) (same q hqb hqn),by simpa using hE9,vne q h.sq.st.low hqb⟩ ⟨hg.os.trans hm.os,hg.tape.trans hm.tape,hg.output.trans hm.output,by omega⟩ (fun d hd=>same d (by omega) (fun e=>by have:=vlow d e;omega)) h.sq.ok.2.2.1 h.sq.sml
 have l9:=vne b h.low hob
 exact⟨S9.setb l9 h.neb 3 v9,(h.ob.block (by omega) (same b hob hbn)).put3 v9,l9,h.neb,h.okk⟩
theorem SO.grow4 (h:SO w0 c q A n cap x0 x1 x3 v0 v1 v3 L1 ts pos tk w v2 L x2 mm b k t vi vk its kys) {wm w9:World} {v9:Value} {kys':List TValue} (hm:Bel w wm) (hg:wm.grownBy w9 vk.ownBlock) (ho:OwnD w9 34 6 v9 [] (kys'.map TValue.D)) (hn:∀x,v9.ownBlock=some x→vk.ownBlock=some x∨w.heap.size≤x) :
  SO w0 c q A n cap x0 x1 x3 v0 v1 v3 L1 ts pos tk (w9.setCell ⟨b,4,none⟩ v9) v2 L x2 mm b k t vi v9 its kys':=by
 have hs:=h.sq.oth.size
 have hz1:=hm.size
 have hz2:=hg.size
 have hE:Ents w0.heap.size w (((LA x0 x1 v0 v1 L1)++[EO v2 L x2,EV v3 x3,EV vi its])++EV vk kys :: []):=by simpa using h.sq.st.ents
 have hlt:∀f,f∈((LA x0 x1 v0 v1 L1)++[EO v2 L x2,EV v3 x3,EV vi its])++[]→∀x,Blk f.v f.L x→x<w.heap.size:=fun f hf x hx=>(h.sq.st.ents.own f (by simp at hf ⊢;grind)).lt x hx
 have hE9:Ents w0.heap.size w9 (((LA x0 x1 v0 v1 L1)++[EO v2 L x2,EV v3 x3,EV vi its])++EV v9 kys' :: []):=hE.growAt hm hg ho fun x hx=>by
  rcases hx with q | q
  ·
   exact rk188
  ·
   cases q
 have hin:∀f,f∈(LA x0 x1 v0 v1 L1)++EO v2 L x2 :: LG x3 v3 [EV vi its,EV v9 kys']→f∈(LA x0 x1 v0 v1 L1)++EO v2 L x2 :: LG x3 v3 [EV vi its,EV vk kys]∨f=EV v9 kys':=fun f hf=>by simp at hf ⊢;grind
 have vlow:∀x,vk.ownBlock=some x→w0.heap.size≤x:=fun x hx=>h.sq.st.ents.low (EV vk kys) (by simp) x (Or.inl hx)
 have vne:∀d,(∀f,f∈(LA x0 x1 v0 v1 L1)++EO v2 L x2 :: LG x3 v3 [EV vi its,EV vk kys]→¬Blk f.v f.L d)→d<w.heap.size→(∀f,f∈(LA x0 x1 v0 v1 L1)++EO v2 L x2 :: LG x3 v3 [EV vi its,EV v9 kys']→¬Blk f.v f.L d):=fun d hd hl f hf=>by
  rcases hin f hf with q | rfl
  ·
   exact hd f q
  ·
   rintro (q | q)
   ·
    rcases hn d q with q | q
    ·
     exact hd (EV vk kys) (by simp) (Or.inl q)
    ·
     omega
   ·
    cases q
 have same:∀d,d<w.heap.size→vk.ownBlock≠some d→w9.heap[d]?=w.heap[d]?:=fun d hd hne=>(hg.block d (by omega) (fun q=>hne q.symm)).trans (Below.block hm d hd)
 have hqb:=h.sq.st.box.1
 have hob:=h.ob.1
 have hqn:vk.ownBlock≠some q:=fun e=>h.sq.st.low (EV vk kys) (by simp) (Or.inl e)
 have hbn:vk.ownBlock≠some b:=fun e=>h.low (EV vk kys) (by simp) (Or.inl e)
 have S9:SQ w0 c q A n cap x0 x1 x3 v0 v1 v3 L1 ts pos tk w9 v2 L x2 mm [EV vi its,EV v9 kys']:=h.sq.via ⟨h.sq.st.box.block (by omega) (same q hqb hqn),by simpa using hE9,vne q h.sq.st.low hqb⟩ ⟨hg.os.trans hm.os,hg.tape.trans hm.tape,hg.output.trans hm.output,by omega⟩ (fun d hd=>same d (by omega) (fun e=>by have:=vlow d e;omega)) h.sq.ok.2.2.1 h.sq.sml
 have l9:=vne b h.low hob
 exact⟨S9.setb l9 h.neb 4 v9,(h.ob.block (by omega) (same b hob hbn)).put4 v9,l9,h.neb,h.okk⟩
theorem grown_refl (w:World) (r:Option Nat):w.grownBy w r:=⟨rfl,rfl,rfl,Nat.le_refl _,fun _ _ _=>rfl⟩
theorem SO.take (h:SO w0 c q A n cap x0 x1 x3 v0 v1 v3 L1 ts pos tk w v2 L x2 mm b k t vi vk its kys):∃M:List Nat,(∀s,InI s→Dat.OwnVals w M (TObject.mk k t s its kys).D [.int .i64 k,.int .i64 t,.int .i64 s,vi,vk])∧M.Nodup∧∀x,x∈M→w0.heap.size≤x∧x≠q∧∀f,f∈(LA x0 x1 v0 v1 L1)++EO v2 L x2 :: LG x3 v3 []→¬Blk f.v f.L x:=by
 have E:=h.sq.st.ents
 have H3:OwnD w 34 6 vi [] (its.map TValue.D):=E.own (EV vi its) (by simp)
 have H4:OwnD w 34 6 vk [] (kys.map TValue.D):=E.own (EV vk kys) (by simp)
 obtain⟨A3,c3,L3,e3,r3,n3,b3⟩:=H3.ownRow
 obtain⟨A4,c4,L4,e4,r4,n4,b4⟩:=H4.ownRow
 rw[List.length_map]at e3 e4
 have E2:Ents w0.heap.size w (((LA x0 x1 v0 v1 L1)++[EO v2 L x2,EV v3 x3])++[EV vi its,EV vk kys]):=by simpa using E
 have hp:=List.pairwise_append.1 E2.sep
 have hp2:=List.pairwise_cons.1 hp.2.1
 refine⟨L3++L4,fun s hs=>?_,nodup_app n3 n4 (fun x h3 h4=>hp2.1 (EV vk kys) (by simp) x (b3 x h3) (b4 x h4)),fun x hx=>?_⟩
 ·
  subst e3 e4
  exact TObject.own_mk h.okk.1 h.okk.2 hs r3 r4
 ·
  have hf:∀f,f∈(LA x0 x1 v0 v1 L1)++EO v2 L x2 :: LG x3 v3 []→f∈(LA x0 x1 v0 v1 L1)++[EO v2 L x2,EV v3 x3]:=fun f hf=>by simpa using hf
  rcases List.mem_append.1 hx with q | q
  ·
   exact⟨E.low (EV vi its) (by simp) x (b3 x q),fun e=>h.sq.st.low (EV vi its) (by simp) (e▸b3 x q),fun f hm hb=>hp.2.2 f (hf f hm) (EV vi its) (by simp) x hb (b3 x q)⟩
  ·
   exact⟨E.low (EV vk kys) (by simp) x (b4 x q),fun e=>h.sq.st.low (EV vk kys) (by simp) (e▸b4 x q),fun f hm hb=>hp.2.2 f (hf f hm) (EV vk kys) (by simp) x hb (b4 x q)⟩
theorem SO.other (h:SO w0 c q A n cap x0 x1 x3 v0 v1 v3 L1 ts pos tk w v2 L x2 mm b k t vi vk its kys) {y:Value} {L':List Nat} {y2:List TObject} {u:Int} (hs:SQ w0 c q A n cap x0 x1 x3 v0 v1 v3 L1 ts pos tk w' y L' y2 u [EV vi its,EV vk kys]) (hb:w'.heap[b]?=w.heap[b]?) (hz:w.heap.size≤w'.heap.size) (hx:∀x,Blk y L' x→Blk v2 L x∨w.heap.size≤x):SO w0 c q A n cap x0 x1 x3 v0 v1 v3 L1 ts pos tk w' y L' y2 u b k t vi vk its kys:=by
 refine⟨hs,h.ob.block hz hb,fun f hf hc=>?_,h.neb,h.okk⟩
 have hin:f∈(LA x0 x1 v0 v1 L1)++EO v2 L x2 :: LG x3 v3 [EV vi its,EV vk kys]∨f=EO y L' y2:=by simp at hf ⊢;grind
 rcases hin with q | rfl
 ·
  exact h.low f q hc
 ·
  rcases hx b hc with q | q
  ·
   exact h.low (EO v2 L x2) (by simp) q
  ·
   have:=h.ob.1;omega
end
end Go.Proofs.YtoikhhnmbbbjjaaDoor
namespace Go.Proofs.YtoikhhnmbbbjjaaDoor
set_option linter.unusedVariables false
set_option linter.unusedSimpArgs false
set_option maxRecDepth 100000
open Go.RowKit
set_option maxHeartbeats 4000000 in
theorem l13New_no (kk mm:Int) (hk:kk<2∨7<kk) (N:Nat) (w:World) (q:Nat) (v0 v1 v2 v3 v4 v5 v6 v7 v8 v9 v10 v11:Value) (la lb:List Ent) (L M:List Nat) (ds:List (List Dat)) (d:List Dat) (o1 o2 o3 o4:Value) (h:MkS N w q v0 v1 v2 v3 v4 v5 v6 v7 v8 v9 v10 v11 (.int .i64 mm) la lb L ds) (hd:Dat.OwnVals w M d [.int .i64 kk,o1,o2,o3,o4]) (hn:M.Nodup) (hM:∀b,b∈M→N≤b∧b≠q∧∀f,f∈la++⟨42,5,v2,L,ds⟩ :: lb→¬Blk f.v f.L b) (hl:ds.length≤2097152) (hNw:N≤w.heap.size) :
  Calls Tryd.prog 35 #[.pointer (some ⟨q,0,none⟩),.agg #[.int .i64 kk,o1,o2,o3,o4]] w (MadeP N w q v0 v1 v2 v3 v4 v5 v6 v7 v8 v9 v10 v11 (.int .i64 mm) (.int .i64 mm) la lb L M ds d (.int .i64 (ds.length:Nat))):=by
 have HH0:=hide h
 have HD0:=hide hd
 have HN:=hide hn
 have HM:=hide hM
 have hqN:=h.low
 obtain⟨io,hio,zo0,zo1,zo2⟩:=info_parts infoObj
 clear h hd hn hM
 have hc1:=HD0.out.oneCell
 obtain⟨hlb,hfb,kb_0,kb_1,kb_2,kb_3,kb_4,kb_5,kb_6,kb_7,kb_8,kb_9,kb_10,kb_11,kb_12⟩:=HH0.out.box
 have hdk:decide (2≤kk)=false∨(decide (2≤kk)=true∧decide (kk≤7)=false):=by
  rcases hk with h | h
  ·
   exact Or.inl (decide_eq_false (by omega))
  ·
   exact Or.inr ⟨decide_eq_true (by omega),decide_eq_false (by omega)⟩
 clear hk
 rcases hdk with dk1 | ⟨dk1,dk2⟩
 all_goals
  go_enter Tryd.func35,Tryd.ntmps35
  go_upto_region 4 with (fail)
  refine wp_named2 fun wr hwr=>?_
  clear hlb hfb kb_0 kb_1 kb_2 kb_3 kb_4 kb_5 kb_6 kb_7 kb_8 kb_9 kb_10 kb_11 kb_12 hc1
  obtain⟨w1,hw1⟩:∃x,w=x:=⟨_,rfl⟩
  replace hwr:w1.alloc (.cells #[.int .i64 kk,o1,o2,o3,o4] 42)=wr:=by rw[←hw1];exact hwr
  have hB1:Below q w w1:=by rw[←hw1];exact Below.refl q w
  have hz1:w1.heap.size=w.heap.size:=by rw[←hw1]
  have same1:∀k,k≠q→w1.heap[k]?=w.heap[k]?:=fun k hk=>by rw[←hw1]
  have HS:=hide (show w1.heap.size=w.heap.size∧w1.os=w.os∧w1.tape=w.tape∧w1.output=w.output∧∀k,k≠q→w1.heap[k]?=w.heap[k]? from⟨hz1,hB1.os,hB1.tape,hB1.output,same1⟩)
  have HH:=hide (show MkS N w1 q v0 v1 v2 v3 v4 v5 v6 v7 v8 v9 v10 v11 (.int .i64 mm) la lb L ds from by rw[←hw1];exact HH0.out)
  have HD:=hide (show Dat.OwnVals w1 M d [.int .i64 kk,o1,o2,o3,o4]from Dat.OwnVals.keep (by omega) _ _ _ (fun x hx=>⟨fun o=>World.cell?_of_block (same1 x (HM.out x hx).2.1),fun o=>World.frozen?_of_block (same1 x (HM.out x hx).2.1)⟩) HD0.out)
  replace hNw:N≤w1.heap.size:=by omega
  clear HH0 HD0 hB1 same1 hw1
  have HE:=hide (show OwnD w1 42 5 v2 L ds from HH.out.ents.own ⟨42,5,v2,L,ds⟩ (by simp))
  have hbr:Bel w1 wr:=by rw[←hwr];exact bl
  have OA:=hide (show OB wr w.heap.size (.int .i64 kk) o1 o2 o3 o4 from by rw[←hwr];have h:=OB.new w1 42 (v0:=.int .i64 kk) (v1:=o1) (v2:=o2) (v3:=o3) (v4:=o4);rw[hz1]at h;exact h)
  clear hwr hz1
  refine wp_region_factsU (m:=10) (p:=7) (fun j=>match j with  | _=>[]) (fun j vf wq=>match j with | 0=>((vf 0)=.pointer (some ⟨q,0,none⟩)) | 1=>((vf 1)=.pointer (some ⟨q,0,none⟩)) | 2=>((vf 2)=.pointer (some ⟨q,0,none⟩)) | 3=>((vf 3)=.pointer (some ⟨q,2,none⟩)) | 4=>((vf 4)=v2) | 5=>((vf 5)=.agg #[.int .i64 kk,o1,o2,o3,o4]) | 6=>(∃g:Nat,(vf 6)=.slice (some ⟨g,0,none⟩) 1 1∧wr.heap.size≤g∧wq.heap[g]?=some (.cells #[.int .i64 kk,o1,o2,o3,o4] 42)) | 7=>(OwnD wq 42 5 (vf 7) (L++M) (ds++[d])∧∀b,Value.ownBlock (vf 7)=some b→v2.ownBlock=some b∨wr.heap.size≤b) | 8=>((vf 8)=.pointer (some ⟨q,0,none⟩)) | 9=>((vf 9)=.pointer (some ⟨q,2,none⟩)) | _=>True) (fun wa wb=>Bel wa wb) (fun wa wb=>KpN wr.heap.size wa wb) (fun wq=>MkS N wq q v0 v1 v2 v3 v4 v5 v6 v7 v8 v9 v10 v11 (.int .i64 mm) la lb L ds∧OB wq w.heap.size (.int .i64 kk) o1 o2 o3 o4∧Dat.OwnVals wq M d [.int .i64 kk,o1,o2,o3,o4]∧Bel wr wq) (fun wq=>∃wm:World,Bel wr wm∧wm.grownBy wq v2.ownBlock) [(0,some 25),(1,some 26),(2,some 27),(3,some 28),(4,some 29),(5,some 30),(6,some 31),(7,some 32),(8,some 33),(9,some 34),(10,none)] rfl (by kernel_rfl) (by kernel_rfl) (by kernel_rfl) (by decide) ?hG ?hR ?hR2 ?hG0 ?hG1 rfl rfl ?hstep ?hp ?hlast
  case hG=>exact⟨HH.out.on (hbr.trans bl),OA.out.on bl,HD.out.bel (hbr.trans bl),bl⟩
  case hG0=>exact fun wa wb hk hg=>⟨hg.1.on hk,hg.2.1.on hk,hg.2.2.1.bel hk,hg.2.2.2.trans hk⟩
  case hG1=>exact fun wa wb hk hg=>by obtain⟨wm,h3,h4⟩:=hg;exact⟨wm,h3,grown_bel h4 hk⟩
  case hR =>
   exact rk125
  case hR2 =>
   exact rk126
  case hstep =>
   simp only[putP,Act.put,List.setIfInBounds_toArray,List.set_cons_zero,List.set_cons_succ,List.getElem_toArray,List.getElem_cons_zero,List.getElem_cons_succ]
   refine (stepsU_cons (i:=0) (i2:=1) (o:=_) rfl ?s0 (stepsU_cons (i:=1) (i2:=2) (o:=_) rfl ?s1 (stepsU_cons (i:=2) (i2:=3) (o:=_) rfl ?s2 (stepsU_cons (i:=3) (i2:=4) (o:=_) rfl ?s3 (stepsU_cons (i:=4) (i2:=5) (o:=_) rfl ?s4 (stepsU_cons (i:=5) (i2:=6) (o:=_) rfl ?s5 (stepsU_cons (i:=6) (i2:=7) (o:=_) rfl ?s6 (stepsU_skip (p:=7) (p2:=8) (stepsU_cons (i:=8) (i2:=9) (o:=_) rfl ?s8 (stepsU_cons (i:=9) (i2:=10) (o:=_) rfl ?s9 (stepsU_nil (by decide))))))))))))
   case s0 =>
    exact rk76
   case s1 =>
    exact rk76
   case s2 =>
    exact rk128
   case s3 =>
    exact rk129
   case s4 =>
    exact rk115
   case s5 =>
    exact rk132
   case s6 =>
    intro u wa hG hf K hK
    have g0:=g0_of hG (by kernel_rfl)
    have e5:(u 5)=.agg #[.int .i64 kk,o1,o2,o3,o4]:=fact_ofU hf 5 (by kernel_rfl)
    clear hf
    clear hG
    simp only[Act.put,List.setIfInBounds_toArray,List.set_cons_zero,List.set_cons_succ,List.getElem_toArray,List.getElem_cons_zero,List.getElem_cons_succ]at hK ⊢
    rw[e5]at hK ⊢
    have hz9:=Bel.size g0.2.2.2
    have hoc:=g0.2.2.1.oneCell
    have hbx:Bel wa (wa.alloc (.cells #[.int .i64 kk,o1,o2,o3,o4] 42)):=bl
    go_simp
    exact hK.out _ _ hbx ⟨wa.heap.size,rfl,hz9,heap_alloc_new _ _⟩
   case s8 =>
    exact rk130
   case s9 =>
    exact rk131
  case hp =>
   simp only[putP,Act.put,List.setIfInBounds_toArray,List.set_cons_zero,List.set_cons_succ,List.getElem_toArray,List.getElem_cons_zero,List.getElem_cons_succ]
   intro u wa hG hf K hK
   have e4:(u 4)=v2:=fact_ofU hf 4 (by kernel_rfl)
   have e6:∃g:Nat,(u 6)=.slice (some ⟨g,0,none⟩) 1 1∧wr.heap.size≤g∧wa.heap[g]?=some (.cells #[.int .i64 kk,o1,o2,o3,o4] 42):=fact_ofU hf 6 (by kernel_rfl)
   clear hf
   rw[e4]at hK ⊢
   obtain⟨g,e6,hg1,hg2⟩:=e6
   rw[e6]at hK ⊢
   have hold:OwnD wa 42 5 v2 L ds:=hG.1.ents.own ⟨42,5,v2,L,ds⟩ (by simp)
   have hz9:=Bel.size hG.2.2.2
   have hbz:=hbr.size
   have hlv:=HE.out.lt
   have hsr:Src wa 5 (some ⟨g,0,none⟩) 1 M [d] [.int .i64 kk,o1,o2,o3,o4]:=⟨rfl,(fun h=>(by cases h)),⟨M,[],[.int .i64 kk,o1,o2,o3,o4],[],by simp,by simp,rfl,hG.2.2.1,rfl,rfl⟩,HN.out,fun ad hA j u hu=>by obtain rfl:=Option.some.inj hA;rw[addr_add];unfold World.cell?;simp only[hg2];simpa using hu⟩
   refine wp_append_D (.tmp 29) (.tmp 31) 26 rfl 42 io (.agg #[.int .i64 0,.int .i64 0,.int .i64 0,.slice none 0 0,.slice none 0 0]) 5 72 Tryd.underlying26 hio zo0 zo1 zo2 (by decide) (by decide) hold hsr 1 rfl rfl (fun b hb hm=>(HM.out b hm).2.2 ⟨42,5,v2,L,ds⟩ (by simp) hb) (by omega) (by unfold maxLen;omega) (fun v9 w9 hO9 hg9 hw9=>?_)
   (try simp only[Act.put,List.setIfInBounds_toArray,List.set_cons_zero,List.set_cons_succ,List.getElem_toArray,List.getElem_cons_zero,List.getElem_cons_succ])
   exact hK.out _ _ ⟨hg9.size,fun k hk hl=>hg9.block k hl (fun e=>by have:=hlv k (Or.inl e.symm);omega)⟩ ⟨wa,hG.2.2.2,hg9⟩ ⟨hO9,fun b hb=>(hw9 b hb).imp id (fun e=>by omega)⟩
  case hlast =>
   simp only[putP,Act.put,List.setIfInBounds_toArray,List.set_cons_zero,List.set_cons_succ,List.getElem_toArray,List.getElem_cons_zero,List.getElem_cons_succ]
   intro u wa hG hf K hK
   have e7:OwnD wa 42 5 (u 7) (L++M) (ds++[d])∧∀b,Value.ownBlock (u 7)=some b→v2.ownBlock=some b∨wr.heap.size≤b:=hf 7 (by decide)
   have e9:u 9=.pointer (some ⟨q,2,none⟩):=hf 9 (by decide)
   clear hf
   obtain⟨hO,hbl⟩:=e7
   obtain⟨A9,c9,e7⟩:∃A9 c9,u 7=.slice A9 (ds.length+1) c9:=by obtain⟨A9,c9,L9,hv9,-⟩:=hO.ownRow;exact⟨A9,c9,by rw[hv9,List.length_append];rfl⟩
   rw[e7]at hO hbl hK ⊢
   rw[e9]at hK ⊢
   obtain⟨wm,h2,h3⟩:=hG
   have hbz:=hbr.size
   have hz2:=h2.size
   have hz3:=h3.size
   have hlow:∀b,v2.ownBlock=some b→N≤b:=fun b hb=>HH.out.ents.low ⟨42,5,v2,L,ds⟩ (by simp) b (Or.inl hb)
   have same:∀k,k<w1.heap.size→v2.ownBlock≠some k→wa.heap[k]?=w1.heap[k]?:=fun k hk hne=>((h3.block k (by omega) (fun e=>hne e.symm)).trans (Below.block h2 k (by omega))).trans (Below.block hbr k hk)
   have BX:=HH.out.box.block (w':=wa) (by omega) (same q (by have:=HH.out.box.1;omega) (fun e=>hqN ⟨42,5,v2,L,ds⟩ (by simp) (Or.inl e)))
   have hent:Ents N wa (la++⟨42,5,.slice A9 (ds.length+1) c9,L++M,ds++[d]⟩ :: lb):=Ents.growAt (HH.out.ents.bel hbr) h2 h3 (e':=⟨42,5,.slice A9 (ds.length+1) c9,L++M,ds++[d]⟩) hO (fun b hb=>?gx)
   case gx =>
    exact rk32
   have hqz:=HH.out.box.1
   have hqN2:=low_grow (y:=.slice A9 (ds.length+1) c9) (M:=M) (d:=d) hqN (fun e=>(hbl q e).elim id (fun h=>by omega)) (fun e=>(HM.out q e).2.1 rfl)
   have MK:=hide (show MkS N (wa.setCell ⟨q,2,none⟩ (.slice A9 (ds.length+1) c9)) q v0 v1 (.slice A9 (ds.length+1) c9) v3 v4 v5 v6 v7 v8 v9 v10 v11 (.int .i64 mm) la lb (L++M) (ds++[d])from⟨BX.put2 _,hent.far2 hqN2 2 _,hqN2⟩)
   exact rk81
def NewP (w0:World) (c q:Nat) (A:Option Addr) (n cap:Nat) (x0:List ByteArray) (x1:List TRecordType) (x3:List TValue) (v0 v1 v3:Value) (L1:List Nat) (ts:ByteArray) (pos tk:Int) (w:World) (v2:Value) (L:List Nat) (x2:List TObject) (le:List Ent) (M:List Nat) (e:Ending) (w':World):Prop :=
 ∃(y:Value) (o:TObject) (u:Int),e=.returned (.int .i64 (x2.length:Nat))∧SQ w0 c q A n cap x0 x1 x3 v0 v1 v3 L1 ts pos tk w' y (L++M) (x2++[o]) u le∧(w.heap.size≤w'.heap.size∧∀k,k<w.heap.size→k≠q→v2.ownBlock≠some k→w'.heap[k]?=w.heap[k]?)∧∀x,Blk y (L++M) x→Blk v2 L x∨x∈M∨w.heap.size≤x
theorem inI_wr (x:Int):InI (IntKind.i64.wrap x):=by
 unfold InI
 rw[IntKind.wrap_i64]
 omega
theorem new_SQ {w0:World} {c q:Nat} {A:Option Addr} {n cap:Nat} {x0:List ByteArray} {x1:List TRecordType} {x3:List TValue} {v0 v1 v3:Value} {L1:List Nat} {ts:ByteArray} {pos tk:Int} {w:World} {v2:Value} {L:List Nat} {x2:List TObject} {mm:Int} {le:List Ent} (h:SQ w0 c q A n cap x0 x1 x3 v0 v1 v3 L1 ts pos tk w v2 L x2 mm le) (kk t:Int) (vi vk:Value) (its kys:List TValue) (M:List Nat)
  (hd:∀s,InI s→Dat.OwnVals w M (TObject.mk kk t s its kys).D [.int .i64 kk,.int .i64 t,.int .i64 s,vi,vk]) (hn:M.Nodup) (hM:∀x,x∈M→w0.heap.size≤x∧x≠q∧∀f,f∈(LA x0 x1 v0 v1 L1)++EO v2 L x2 :: (LG x3 v3 le)→¬Blk f.v f.L x) (hl:x2.length≤2097152) (ho:its.length≤100∧kys.length≤100) :
  Calls Tryd.prog 35 #[.pointer (some ⟨q,0,none⟩),.agg #[.int .i64 kk,.int .i64 t,.int .i64 0,vi,vk]] w (NewP w0 c q A n cap x0 x1 x3 v0 v1 v3 L1 ts pos tk w v2 L x2 le M):=by
 have i0:InI 0:=by unfold InI;omega
 by_cases hk:2≤kk∧kk≤7
 ·
  refine (l13New_any kk mm (IntKind.i64.wrap (mm+1)) rfl hk.1 hk.2 w0.heap.size w q v0 v1 v2 v3 _ _ _ _ _ _ _ _ (LA x0 x1 v0 v1 L1) (LG x3 v3 le) L M (x2.map TObject.D) (TObject.mk kk t (IntKind.i64.wrap (mm+1)) its kys).D _ (.int .i64 0) vi vk h.st (hd _ (inI_wr _)) rfl hn hM (by rw[List.length_map];exact hl) h.oth.size).mono ?_
  intro e w' hp
  obtain⟨y,he,hs,hf,hx⟩:=h.made hp (h.ok.2.2.1.nextM hl) ho
  exact⟨y,_,_,by rw[List.length_map]at he;exact he,hs,hf,hx⟩
 ·
  refine (l13New_no kk mm (by omega) w0.heap.size w q v0 v1 v2 v3 _ _ _ _ _ _ _ _ (LA x0 x1 v0 v1 L1) (LG x3 v3 le) L M (x2.map TObject.D) (TObject.mk kk t 0 its kys).D _ (.int .i64 0) vi vk h.st (hd _ i0) hn hM (by rw[List.length_map];exact hl) h.oth.size).mono ?_
  intro e w' hp
  obtain⟨y,he,hs,hf,hx⟩:=h.made hp h.ok.2.2.1.more ho
  exact⟨y,_,_,by rw[List.length_map]at he;exact he,hs,hf,hx⟩
end Go.Proofs.YtoikhhnmbbbjjaaDoor
namespace Go.Proofs.YtoikhhnmbbbjjaaDoor
set_option linter.unusedVariables false
set_option linter.unusedSimpArgs false
set_option maxRecDepth 100000
open Go.RowKit
--%quiet
set_option maxHeartbeats 1000000 in
theorem keyD_any (kd tag ser:Int) (n:Nat) (keys:List TValue) (k0 n0 i0:Int) (t0:ByteArray) (lo0 hi0:Int) (S:Nat→Prop) (w:World) (Ai Ak:Option Addr) (ci ck:Nat) (hR:Row w S 6 Ak ck (keys.map TValue.D)) (hts:t0.size≤maxLen) :
  Calls Tryd.prog 53 #[.agg #[.int .i64 kd,.int .i64 tag,.int .i64 ser,.slice Ai n ci,.slice Ak keys.length ck],.agg #[.int .i64 k0,.int .i64 n0,.int .i64 i0,.string t0,.int .i64 lo0,.int .i64 hi0]] w fun e w'=>(∃y:Int,e=.returned (.int .i64 y))∧Bel w w':=by
 have HR:=hide hR
 have hlen:=hR.1
 have hcm:=hR.2.1
 simp only[List.length_map]at hlen
 unfold maxLen at hcm hts
 clear hR
 go_enter Tryd.func53,Tryd.ntmps53
 go_wp2_with (fail)
 repeat (any_goals (go_quiet (fail);(try go_wp2_with (fail))))
 go_loopw [5] (fun v wr=>∃m:Nat,v=.int .i64 m∧m≤keys.length∧Bel ((w.alloc (.cells #[.int .i64 kd,.int .i64 tag,.int .i64 ser,.slice Ai n ci,.slice Ak keys.length ck] 42)).alloc (.cells #[.int .i64 k0,.int .i64 n0,.int .i64 i0,.string t0,.int .i64 lo0,.int .i64 hi0] 34)) wr) (fun v _=>keys.length - (intOf v).toNat)
 case atStart=>exact⟨0,rfl,by omega,Bel.refl _⟩
 case round =>
  obtain⟨m,rfl,m1,hb0⟩:=hrel
  have hbw:Bel w wr:=bl
  have hz0:=hb0.size
  simp only[World.size_alloc]at hz0
  have hk0_0:=hb0.box w.heap.size (by simp;omega)
  have hk0_1:=hb0.box (w.heap.size+1) (by simp)
  have hl0:w.heap.size<wr.heap.size:=by omega
  have hl1:w.heap.size+1<wr.heap.size:=by omega
  by_cases h1:m<keys.length
  ·
   have hd:decide ((m:Int)<(keys.length:Int))=true:=by simp[h1]
   (obtain⟨b1,o1,x1_0,x1_1,x1_2,x1_3,x1_4,x1_5,hA1,hS1,hl1,hx1,hv1,g1_0,g1_1,g1_2,g1_3,g1_4,g1_5,c1_0,c1_1,c1_2,c1_3,c1_4,c1_5⟩:=TValue.at HR.out m h1;subst hA1;have HV1:=hide (Dat.HoldVals.bel hbw hv1);have hh1:=hbw.box b1 hl1;have hw1:=Nat.lt_of_lt_of_le hl1 (Bel.size hbw);replace c1_0:=(hh1 _).trans c1_0;replace c1_1:=(hh1 _).trans c1_1;replace c1_2:=(hh1 _).trans c1_2;replace c1_3:=(hh1 _).trans c1_3;replace c1_4:=(hh1 _).trans c1_4;replace c1_5:=(hh1 _).trans c1_5;have HX1:=hide hx1;clear hh1 hv1 hx1 hS1)
   have hne1:¬b1=wr.heap.size:=by omega
   have hQ:=hide (fun W=>run_eqV x1_0 x1_1 x1_2 x1_3 x1_4 x1_5 k0 n0 i0 t0 lo0 hi0 W)
   have hQ2:=hQ.out
   cases hn:VVal.eqB ⟨x1_0,x1_1,x1_2,x1_3,x1_4,x1_5⟩ ⟨k0,n0,i0,t0,lo0,hi0⟩
   ·
    rw[hn]at hQ2
    clear hn
    go_wp2_with (fail)
    repeat (any_goals (go_quiet (fail);(try go_wp2_with (fail))))
    go_roundw
    case rel=>exact⟨m+1,by go_num,by omega,bl⟩
    case measure=>simp[intOf];omega
   ·
    rw[hn]at hQ2
    clear hn
    exact rk210
  ·
   have hd:decide ((m:Int)<(keys.length:Int))=false:=by simp[h1]
   exact rk210
end Go.Proofs.YtoikhhnmbbbjjaaDoor
