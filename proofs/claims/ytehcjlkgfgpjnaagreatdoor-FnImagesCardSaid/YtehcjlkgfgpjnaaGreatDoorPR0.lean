/- What a value stands for in a store: plain. -/
import Derived.Test.YtehcjlkgfgpjnaaGreatDoorPr
import Derived.Test.YtehcjlkgfgpjnaaGreatDoorPS2
import Derived.Test.YtehcjlkgfgpjnaaGreatDoorPS3z
import Derived.Test.YtehcjlkgfgpjnaaGreatDoorPShelf
import Derived.Test.YtehcjlkgfgpjnaaGreatDoorPS8
import Derived.Test.YtehcjlkgfgpjnaaGreatDoorPS9
namespace Go.Proofs.YtehcjlkgfgpjnaaGreatDoor
set_option linter.unusedVariables false
set_option linter.unusedSimpArgs false
set_option maxRecDepth 100000
open Go.RowKit
def zeroV:VVal:=⟨0,0,0,ByteArray.empty,0,0⟩
def objAt (s:TStore) (n:Int):TObject:=s.objects.getD n.toNat (.mk 0 0 0 [] [])
def rdV (s:TStore) (v:VVal):VVal × Int :=
 if v.k=13∨v.k=16 then (vAt (objAt s v.n).items v.i.toNat,0)
 else if v.k=14 then (vAt s.globals v.i.toNat,0)
 else if v.k=15 then (if ((objAt s v.n).items.length:Int)≤v.i then (zeroV,205) else (vAt (objAt s v.n).items v.i.toNat,0))
 else if v.k=17 then (vAt (objAt s (vAt (objAt s v.n).items 0).n).items (1+idxV (objAt s (vAt (objAt s v.n).items 0).n).keys (vAt (objAt s v.n).items 1)).toNat,0)
 else if v.k=18 then (if v.i=1 then⟨2,0,0,s.subject,0,0⟩ else⟨1,s.position,0,ByteArray.empty,0,0⟩,0)
 else (v,0)
theorem objAt_get {s:TStore} {m:Nat} (h:m<s.objects.length):objAt s (m:Int)=s.objects[m]:=by
 unfold objAt;rw[Int.toNat_natCast];simp[List.getD,h]
theorem vAt_get {l:List TValue} {m:Nat} (h:m<l.length):vAt l m=l[m].v:=by unfold vAt;simp[List.getD,h]
theorem inB_well {s:TStore} {v:VVal} (h:inB s v=true):wellB v=true:=by
 cases hw:wellB v
 ·
  rw[inB_bad hw]at h;cases h
 ·
  rfl
theorem in_obj {s:TStore} {k n i:Int} {t:ByteArray} {lo hi:Int} (h:inB s ⟨k,n,i,t,lo,hi⟩=true) (hk:k=5∨k=13∨k=15∨k=16∨k=17) :
  ∃m:Nat,n=m∧∃hm:m<s.objects.length,s.objects[m].kind=kindI k∧(k=13∨k=16→i<(s.objects[m].items.length:Int)):=by
 have hw:=inB_well h
 have hn:=well_n hw (by omega)
 obtain⟨m,rfl⟩:=Int.eq_ofNat_of_zero_le hn
 have hk0:kindI k≠0:=by rcases hk with rfl | rfl | rfl | rfl | rfl <;> decide
 rw[inB_obj hw hk0]at h
 rcases Nat.lt_or_ge m s.objects.length with hlt | hge
 ·
  rw[objIn_yes (o:=s.objects[m]) (by simpa using hlt) (by simp)]at h
  rw[Bool.and_eq_true,decide_eq_true_eq]at h
  refine⟨m,rfl,hlt,h.1,fun hk=>?_⟩
  have h2:=h.2
  rw[if_pos hk]at h2
  simpa using h2
 ·
  rw[objIn_no (by simpa using hge)]at h;cases h
theorem in_glo {s:TStore} {n i:Int} {t:ByteArray} {lo hi:Int} (h:inB s ⟨14,n,i,t,lo,hi⟩=true):i<(s.globals.length:Int):=by
 have hw:=inB_well h
 unfold inB at h
 rw[hw,if_neg (show ¬(kindI 14≠0) by decide)]at h
 simpa using h
theorem val_obj_of {s:TStore} (h:validB s=true) (m:Nat) (hm:m<s.objects.length):objB s s.objects[m]=true:=by
 cases ho:objB s s.objects[m]
 ·
  rw[val_obj m hm ho]at h;cases h
 ·
  rfl
theorem entry_of {s:TStore} (h:validB s=true) {m:Nat} (hm:m<s.objects.length) (hk:s.objects[m].kind=8) :
  ∃tag ser:Int,∃a b:TValue,s.objects[m]=.mk 8 tag ser [a,b] []∧a.v.k=5∧inB s a.v=true∧inB s b.v=true:=by
 have ho:=val_obj_of h m hm
 obtain⟨kd,tag,ser,its,keys,e⟩:∃kd tag ser its keys,s.objects[m]=.mk kd tag ser its keys:=by cases s.objects[m];exact⟨_,_,_,_,_,rfl⟩
 rw[e]at hk ho
 obtain rfl:kd=8:=hk
 rw[objB_8]at ho
 simp only[Bool.and_eq_true,decide_eq_true_eq]at ho
 obtain⟨-,⟨⟨⟨⟨⟨-,hkl⟩,hil⟩,h5⟩,hin0⟩,hd⟩⟩:=ho
 obtain rfl:keys=[]:=List.length_eq_zero_iff.1 hkl
 obtain⟨a,b,rfl⟩:∃a b,its=[a,b]:=by
  match its,hil with
  | [a,b],_=>exact⟨a,b,rfl⟩
 refine⟨tag,ser,a,b,e,h5,hin0,?_⟩
 unfold dataB at hd
 rw[Bool.and_eq_true]at hd
 exact hd.2
theorem table_of {s:TStore} (h:validB s=true) {m:Nat} (hm:m<s.objects.length) (hk:s.objects[m].kind=3) :
  ∃tag ser its keys,s.objects[m]=.mk 3 tag ser its keys∧its.length=keys.length+1:=by
 have ho:=val_obj_of h m hm
 obtain⟨kd,tag,ser,its,keys,e⟩:∃kd tag ser its keys,s.objects[m]=.mk kd tag ser its keys:=by cases s.objects[m];exact⟨_,_,_,_,_,rfl⟩
 rw[e]at hk ho
 obtain rfl:kd=3:=hk
 rw[objB_3]at ho
 simp only[Bool.and_eq_true,decide_eq_true_eq]at ho
 exact⟨tag,ser,its,keys,e,ho.2.1.1.1.2⟩
theorem idxV_lt (l:List TValue) (x:VVal) : -1≤idxV l x∧idxV l x<(l.length:Int)+0∨idxV l x = -1:=by
 unfold idxV
 cases h:l.findIdx? (fun y=>y.v.eqB x)with
 | none=>exact Or.inr rfl
 | some k =>
  have:=(List.findIdx?_eq_some_iff_getElem.1 h).1
  left;simp only;omega
theorem idxV_bd (l:List TValue) (x:VVal):∃d:Nat,1+idxV l x=(d:Int)∧d≤l.length:=by
 rcases idxV_lt l x with h | h
 ·
  exact⟨(1+idxV l x).toNat,by omega,by omega⟩
 ·
  exact⟨0,by omega,by omega⟩
abbrev RdC (f:FuncId) (s:TStore) (v:VVal):Prop:=∀(S:Nat→Prop) (q:Nat) (w:World),StoreAt w S q s→v.Ok →
 Calls Tryz.prog f #[.pointer (some ⟨q,0,none⟩),.agg #[.int .i64 v.k,.int .i64 v.n,.int .i64 v.i,.string v.t,.int .i64 v.lo,.int .i64 v.hi]] w fun e w' =>
  e=.returned (.tuple #[(rdV s v).1.val,.int .i64 (rdV s v).2])∧Bel w w'
end Go.Proofs.YtehcjlkgfgpjnaaGreatDoor
namespace Go.Proofs.YtehcjlkgfgpjnaaGreatDoor
set_option linter.unusedVariables false
set_option linter.unusedSimpArgs false
set_option maxRecDepth 100000
open Go.RowKit
--%quiet
def inV (s:TStore) (v:VVal):Bool:=validB s&&inB s v
set_option maxHeartbeats 8000000 in
theorem specValueIn_any (s:TStore) (v:VVal) (S:Nat→Prop) (w:World) (vs:List Value) (hv:Dat.HoldVals w S s.D vs) (hx:v.Ok):Calls Tryz.prog 18 #[.agg vs.toArray,.agg #[.int .i64 v.k,.int .i64 v.n,.int .i64 v.i,.string v.t,.int .i64 v.lo,.int .i64 v.hi]] w fun e w'=>e=.returned (.bool (inV s v))∧Bel w w':=by
 obtain⟨x0,x1,x2,x3,x4,x5,x6,x7,x8,x9,x10,x11,x12⟩:=s
 have HV:=hide hv
 obtain⟨A0,c0,A1,c1,A2,c2,A3,c3,A6,c6,A7,c7,A8,c8,rfl,g0,g1,g2,g3,g4,g5,g6,g7,g8,-,g10,g11,g12⟩:=TStore.vals hv
 have HR0:=hide g0
 have hlc0:=g0.1
 have hcm0:=g0.2.1
 simp only[List.length_map]at hlc0
 unfold maxLen at hcm0
 have HR1:=hide g1
 have hlc1:=g1.1
 have hcm1:=g1.2.1
 simp only[List.length_map]at hlc1
 unfold maxLen at hcm1
 have HR2:=hide g2
 have hlc2:=g2.1
 have hcm2:=g2.2.1
 simp only[List.length_map]at hlc2
 unfold maxLen at hcm2
 have HR3:=hide g3
 have hlc3:=g3.1
 have hcm3:=g3.2.1
 simp only[List.length_map]at hlc3
 unfold maxLen at hcm3
 have HR6:=hide g6
 have hlc6:=g6.1
 have hcm6:=g6.2.1
 simp only[List.length_map]at hlc6
 unfold maxLen at hcm6
 have HR7:=hide g7
 have hlc7:=g7.1
 have hcm7:=g7.2.1
 simp only[List.length_map]at hlc7
 unfold maxLen at hcm7
 have HR8:=hide g8
 have hlc8:=g8.1
 have hcm8:=g8.2.1
 simp only[List.length_map]at hlc8
 unfold maxLen at hcm8
 unfold maxLen at g4
 clear hv g0 g1 g2 g3 g6 g7 g8
 have HS1:=hide (show StoreAt (w.alloc (.cells #[.slice A0 x0.length c0,.slice A1 x1.length c1,.slice A2 x2.length c2,.slice A3 x3.length c3,.string x4,.int .i64 x5,.slice A6 x6.length c6,.slice A7 x7.length c7,.slice A8 x8.length c8,.bool x9,.int .i64 x10,.int .i64 x11,.int .i64 x12] 36)) S w.heap.size (TStore.mk x0 x1 x2 x3 x4 x5 x6 x7 x8 x9 x10 x11 x12)from StoreAt.mk_of HV.out rfl)
 have HX:=hide hx
 obtain⟨k0,n0,i0,t0,lo0,hi0⟩:=v
 have hts:=hx.t
 have gx0:=hx.k
 unfold maxLen at hts
 clear hx
 simp only at hts gx0 ⊢
 cases hb:validB (TStore.mk x0 x1 x2 x3 x4 x5 x6 x7 x8 x9 x10 x11 x12)
 ·
  have RR:=hide (show inV (TStore.mk x0 x1 x2 x3 x4 x5 x6 x7 x8 x9 x10 x11 x12) ⟨k0,n0,i0,t0,lo0,hi0⟩=false by unfold inV;rw[hb];rfl)
  have HB:=hide hb
  clear hb
  go_enter Tryz.func18,Tryz.ntmps18
  have mkq:=True.intro
  repeat (any_goals ((first | clear mkq | go_quiet (fail));(try go_wp2_with (first | (go_at_call 24;refine (specValid_any (TStore.mk x0 x1 x2 x3 x4 x5 x6 x7 x8 x9 x10 x11 x12) S _ _ (Dat.HoldVals.bel bl HV.out)).mono ?_;rintro e w1 ⟨rfl,hb1⟩;rw[HB.out];(have hz1:=hb1.sz;obtain⟨hk1_0,hf1_0,hl1_0,hn1_0⟩:=hb1.lay (w.heap.size);obtain⟨hk1_1,hf1_1,hl1_1,hn1_1⟩:=hb1.lay (w.heap.size+1)))))))
  all_goals
   go_returns
   exact⟨by rw[RR.out];first | done | rfl,bl⟩
 ·
  have HB:=hide hb
  cases hi:inB (TStore.mk x0 x1 x2 x3 x4 x5 x6 x7 x8 x9 x10 x11 x12) ⟨k0,n0,i0,t0,lo0,hi0⟩
  ·
   have RR:=hide (show inV (TStore.mk x0 x1 x2 x3 x4 x5 x6 x7 x8 x9 x10 x11 x12) ⟨k0,n0,i0,t0,lo0,hi0⟩=false by unfold inV;rw[hb,hi];rfl)
   exact rk46
  ·
   have RR:=hide (show inV (TStore.mk x0 x1 x2 x3 x4 x5 x6 x7 x8 x9 x10 x11 x12) ⟨k0,n0,i0,t0,lo0,hi0⟩=true by unfold inV;rw[hb,hi];rfl)
   exact rk46
set_option maxHeartbeats 8000000 in
theorem implValueIn_any (s:TStore) (v:VVal) (S:Nat→Prop) (w:World) (vs:List Value) (htab:Sp w) (hv:Dat.HoldVals w S s.D vs) (hx:v.Ok):Calls Tryz.prog 43 #[.agg vs.toArray,.agg #[.int .i64 v.k,.int .i64 v.n,.int .i64 v.i,.string v.t,.int .i64 v.lo,.int .i64 v.hi]] w fun e w'=>e=.returned (.bool (inV s v))∧Bel w w':=by
 obtain⟨x0,x1,x2,x3,x4,x5,x6,x7,x8,x9,x10,x11,x12⟩:=s
 have HV:=hide hv
 obtain⟨A0,c0,A1,c1,A2,c2,A3,c3,A6,c6,A7,c7,A8,c8,rfl,g0,g1,g2,g3,g4,g5,g6,g7,g8,-,g10,g11,g12⟩:=TStore.vals hv
 have HR0:=hide g0
 have hlc0:=g0.1
 have hcm0:=g0.2.1
 simp only[List.length_map]at hlc0
 unfold maxLen at hcm0
 have HR1:=hide g1
 have hlc1:=g1.1
 have hcm1:=g1.2.1
 simp only[List.length_map]at hlc1
 unfold maxLen at hcm1
 have HR2:=hide g2
 have hlc2:=g2.1
 have hcm2:=g2.2.1
 simp only[List.length_map]at hlc2
 unfold maxLen at hcm2
 have HR3:=hide g3
 have hlc3:=g3.1
 have hcm3:=g3.2.1
 simp only[List.length_map]at hlc3
 unfold maxLen at hcm3
 have HR6:=hide g6
 have hlc6:=g6.1
 have hcm6:=g6.2.1
 simp only[List.length_map]at hlc6
 unfold maxLen at hcm6
 have HR7:=hide g7
 have hlc7:=g7.1
 have hcm7:=g7.2.1
 simp only[List.length_map]at hlc7
 unfold maxLen at hcm7
 have HR8:=hide g8
 have hlc8:=g8.1
 have hcm8:=g8.2.1
 simp only[List.length_map]at hlc8
 unfold maxLen at hcm8
 unfold maxLen at g4
 clear hv g0 g1 g2 g3 g6 g7 g8
 have HS1:=hide (show StoreAt (w.alloc (.cells #[.slice A0 x0.length c0,.slice A1 x1.length c1,.slice A2 x2.length c2,.slice A3 x3.length c3,.string x4,.int .i64 x5,.slice A6 x6.length c6,.slice A7 x7.length c7,.slice A8 x8.length c8,.bool x9,.int .i64 x10,.int .i64 x11,.int .i64 x12] 36)) S w.heap.size (TStore.mk x0 x1 x2 x3 x4 x5 x6 x7 x8 x9 x10 x11 x12)from StoreAt.mk_of HV.out rfl)
 have HT:=hide htab
 clear htab
 have HX:=hide hx
 obtain⟨k0,n0,i0,t0,lo0,hi0⟩:=v
 have hts:=hx.t
 have gx0:=hx.k
 unfold maxLen at hts
 clear hx
 simp only at hts gx0 ⊢
 cases hb:validB (TStore.mk x0 x1 x2 x3 x4 x5 x6 x7 x8 x9 x10 x11 x12)
 ·
  have RR:=hide (show inV (TStore.mk x0 x1 x2 x3 x4 x5 x6 x7 x8 x9 x10 x11 x12) ⟨k0,n0,i0,t0,lo0,hi0⟩=false by unfold inV;rw[hb];rfl)
  have HB:=hide hb
  clear hb
  go_enter Tryz.func43,Tryz.ntmps43
  have mkq:=True.intro
  repeat (any_goals ((first | clear mkq | go_quiet (fail));(try go_wp2_with (first | (go_at_call 31;refine (implValid_any (TStore.mk x0 x1 x2 x3 x4 x5 x6 x7 x8 x9 x10 x11 x12) S _ _ (HT.out.on bl) (Dat.HoldVals.bel bl HV.out)).mono ?_;rintro e w1 ⟨rfl,hb1⟩;rw[HB.out];(have hz1:=hb1.sz;obtain⟨hk1_0,hf1_0,hl1_0,hn1_0⟩:=hb1.lay (w.heap.size);obtain⟨hk1_1,hf1_1,hl1_1,hn1_1⟩:=hb1.lay (w.heap.size+1)))))))
  all_goals
   go_returns
   exact⟨by rw[RR.out];first | done | rfl,bl⟩
 ·
  have HB:=hide hb
  cases hi:inB (TStore.mk x0 x1 x2 x3 x4 x5 x6 x7 x8 x9 x10 x11 x12) ⟨k0,n0,i0,t0,lo0,hi0⟩
  ·
   have RR:=hide (show inV (TStore.mk x0 x1 x2 x3 x4 x5 x6 x7 x8 x9 x10 x11 x12) ⟨k0,n0,i0,t0,lo0,hi0⟩=false by unfold inV;rw[hb,hi];rfl)
   exact rk45
  ·
   have RR:=hide (show inV (TStore.mk x0 x1 x2 x3 x4 x5 x6 x7 x8 x9 x10 x11 x12) ⟨k0,n0,i0,t0,lo0,hi0⟩=true by unfold inV;rw[hb,hi];rfl)
   exact rk45
end Go.Proofs.YtehcjlkgfgpjnaaGreatDoor
