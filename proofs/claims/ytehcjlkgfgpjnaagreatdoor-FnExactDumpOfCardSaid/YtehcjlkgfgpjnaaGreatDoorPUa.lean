/- The dump of a store: what it gives. -/
import Derived.Test.YtehcjlkgfgpjnaaGreatDoorPr
import Derived.Test.YtehcjlkgfgpjnaaGreatDoorPQc
import Derived.Test.YtehcjlkgfgpjnaaGreatDoorPHPattern
import Derived.Test.YtehcjlkgfgpjnaaGreatDoorPShelf
import Derived.Test.YtehcjlkgfgpjnaaGreatDoorPI2
import Derived.Test.YtehcjlkgfgpjnaaGreatDoorPI3
import Derived.Test.YtehcjlkgfgpjnaaGreatDoorPR0
import Derived.Test.YtehcjlkgfgpjnaaGreatDoorPOw
import Derived.Test.YtehcjlkgfgpjnaaGreatDoorPNb
namespace Go.Proofs.YtehcjlkgfgpjnaaGreatDoor
set_option linter.unusedVariables false
set_option linter.unusedSimpArgs false
set_option maxRecDepth 100000
open Go.RowKit
def imgsT (s:TStore) (l:List TValue):ByteArray:=joinC ⟨#[44,32]⟩ (l.map fun x=>imgV s x.v)
def lineT (s:TStore) (a:TActive):ByteArray:=nameAt s a.routine++({ data:=#[40] }:ByteArray)++imgsT s (objAt s a.frame).items++({ data:=#[41] }:ByteArray)
def dumpT (s:TStore):List ByteArray:=if validB s=true then s.actives.map (lineT s) else []
set_option maxHeartbeats 1000000 in
theorem obj_okU {w:World} {S:Nat→Prop} {q:Nat} {s:TStore} (h:StoreAt w S q s) {m:Nat} (hm:m<s.objects.length):InI s.objects[m].serial∧InI (s.objects[m].items.length:Int)∧InI (s.objects[m].keys.length:Int):=by
 obtain⟨x0,x1,x2,x3,x4,x5,x6,x7,x8,x9,x10,x11,x12⟩:=s
 obtain⟨A0,c0,A1,c1,A2,c2,A3,c3,A6,c6,A7,c7,A8,c8,hq,e0,e1,e2,e3,e4,e5,e6,e7,e8,e9,e10,e11,e12,g0,g1,g2,g3,g4,g5,g6,g7,g8,g10,g11,g12⟩:=StoreAt.cells h
 have HR2:=hide g2
 clear h g0 g1 g2 g3 g6 g7 g8
 simp only[TStore.objects_mk]at hm ⊢
 have hbw:Bel w w:=Bel.refl w
 (obtain⟨b15,o15,x15_0,x15_1,x15_2,x15_3,x15_4,A15_3,C15_3,A15_4,C15_4,hA15,hS15,hl15,hx15,hv15,g15_0,g15_1,g15_2,g15_3,g15_4,c15_0,c15_1,c15_2,c15_3,c15_4⟩:=TObject.at HR2.out m hm;subst hA15;have HV15:=hide (Dat.HoldVals.bel hbw hv15);have hh15:=hbw.box b15 hl15;have hw15:=Nat.lt_of_lt_of_le hl15 (Bel.size hbw);replace c15_0:=(hh15 _).trans c15_0;replace c15_1:=(hh15 _).trans c15_1;replace c15_2:=(hh15 _).trans c15_2;replace c15_3:=(hh15 _).trans c15_3;replace c15_4:=(hh15 _).trans c15_4;have HX15:=hide hx15;have GR15_3:=hide g15_3;have GR15_4:=hide g15_4;clear hh15 hv15 hx15 hS15 g15_3 g15_4)
 have h3:=GR15_3.out.1
 have h4:=GR15_3.out.2.1
 have h5:=GR15_4.out.1
 have h6:=GR15_4.out.2.1
 simp only[List.length_map]at h3 h5
 unfold maxLen at h4 h6
 rw[HX15.out]
 refine⟨g15_2,?_,?_⟩
 ·
  show InI (x15_3.length:Int)
  unfold InI;omega
 ·
  show InI (x15_4.length:Int)
  unfold InI;omega
theorem well_kU {v:VVal} (h:wellB v=true):0≤v.k:=by
 rcases Int.lt_or_le v.k 0 with hlt | hge
 ·
  exfalso
  unfold wellB at h
  rw[if_neg (by omega),if_neg (by omega),if_neg (by omega),if_neg (by omega),if_neg (by omega),if_neg (by omega),if_neg (by omega),if_neg (by omega)]at h
  cases h
 ·
  exact hge
theorem img_le {w:World} {S:Nat→Prop} {q:Nat} {s:TStore} (hst:StoreAt w S q s) (hval:validB s=true) {v:VVal} (hx:v.Ok) (hin:inB s v=true) (hk:v.k≤12):(imgV s v).size≤1000:=by
 have hw:=inB_well hin
 have hr:isRef v.k=false:=by unfold isRef;simp;omega
 unfold imgV
 rw[hr]
 simp only[Bool.false_eq_true,↓reduceIte]
 obtain⟨k,n,i,t,lo,hi⟩:=v
 have hn:=hx.n
 simp only at hn hk hr
 have ob:(k=4∨k=5∨k=6∨k=7∨k=11∨k=12)→∃m:Nat,n=m∧∃hm:m<s.objects.length,s.objects[m].kind=kindI k∧objAt s n=s.objects[m]∧InI s.objects[m].serial∧InI (s.objects[m].items.length:Int)∧InI (s.objects[m].keys.length:Int):=fun h=>by
  obtain⟨m,rfl,hm,hkd⟩:=in_objI hin h
  exact⟨m,rfl,hm,hkd,objAt_get hm,obj_okU hst hm⟩
 have hk0:0≤k:=well_kU hw
 rcases (show k=0∨k=1∨k=2∨k=3∨k=4∨k=5∨k=6∨k=7∨k=8∨k=9∨k=10∨k=11∨k=12 by omega)with rfl | rfl | rfl | rfl | rfl | rfl | rfl | rfl | rfl | rfl | rfl | rfl | rfl
 ·
  show (({ data:=#[38,110,117,108,108] }:ByteArray)).size≤1000
  decide
 ·
  show (itI n).size≤1000
  have:=itI_le hn;omega
 ·
  show (qt 34 t).size≤1000
  have h1:=well_t hw rfl
  have h2:=qt_size 34 t
  omega
 ·
  show (qt 39 (csT lo hi)).size≤1000
  have h1:=csT_size lo hi
  have h2:=qt_size 39 (csT lo hi)
  omega
 ·
  show (({ data:=#[108,105,115,116] }:ByteArray)++tailT (objAt s n).serial (objAt s n).items.length).size≤1000
  obtain⟨m,-,hm,-,e,h1,h2,h3⟩:=ob (by omega)
  rw[e,ByteArray.size_append]
  have:=tailT_le h1 h2
  have e1:({ data:=#[108,105,115,116] }:ByteArray).size=4:=rfl
  omega
 ·
  show (({ data:=#[116,97,98,108,101] }:ByteArray)++tailT (objAt s n).serial (objAt s n).keys.length).size≤1000
  obtain⟨m,-,hm,-,e,h1,h2,h3⟩:=ob (by omega)
  rw[e,ByteArray.size_append]
  have:=tailT_le h1 h3
  have e1:({ data:=#[116,97,98,108,101] }:ByteArray).size=5:=rfl
  omega
 ·
  show (({ data:=#[115,101,116] }:ByteArray)++tailT (objAt s n).serial (objAt s n).keys.length).size≤1000
  obtain⟨m,-,hm,-,e,h1,h2,h3⟩:=ob (by omega)
  rw[e,ByteArray.size_append]
  have:=tailT_le h1 h3
  have e1:({ data:=#[115,101,116] }:ByteArray).size=3:=rfl
  omega
 ·
  show (({ data:=#[114,101,99,111,114,100,32] }:ByteArray)++(recAt s (objAt s n).tag).name++tailT (objAt s n).serial (objAt s n).items.length).size≤1000
  obtain⟨m,-,hm,hkd,e,h1,h2,h3⟩:=ob (by omega)
  obtain⟨r,ser,its,keys,hr2,e2⟩:=rec_of hval hm hkd
  rw[e,ByteArray.size_append,ByteArray.size_append]
  have:=tailT_le h1 h2
  have e1:({ data:=#[114,101,99,111,114,100,32] }:ByteArray).size=7:=rfl
  have h4:(recAt s s.objects[m].tag).name.size≤12:=by
   rw[e2]
   show (recAt s (r:Int)).name.size≤12
   rw[recAt_get hr2]
   exact rec_name hval hr2
  omega
 ·
  show (({ data:=#[112,114,111,99,101,100,117,114,101,32] }:ByteArray)++nameAt s n).size≤1000
  obtain⟨m,rfl,hm⟩:=in_nam hin
  rw[nameAt_get hm,ByteArray.size_append]
  have:=name_of hval hm
  have e1:({ data:=#[112,114,111,99,101,100,117,114,101,32] }:ByteArray).size=10:=rfl
  omega
 ·
  show (({ data:=#[102,117,110,99,116,105,111,110,32] }:ByteArray)++funName n).size≤1000
  rw[ByteArray.size_append]
  have:=funName_le n
  have e1:({ data:=#[102,117,110,99,116,105,111,110,32] }:ByteArray).size=9:=rfl
  omega
 ·
  show (({ data:=#[114,101,99,111,114,100,32,99,111,110,115,116,114,117,99,116,111,114,32] }:ByteArray)++(recAt s n).name).size≤1000
  obtain⟨m,rfl,hm⟩:=in_rec hin
  rw[recAt_get hm,ByteArray.size_append]
  have:=rec_name hval hm
  have e1:({ data:=#[114,101,99,111,114,100,32,99,111,110,115,116,114,117,99,116,111,114,32] }:ByteArray).size=19:=rfl
  omega
 ·
  show (({ data:=#[99,111,45,101,120,112,114,101,115,115,105,111,110] }:ByteArray)++tailT (objAt s n).serial (vAt (objAt s n).items 2).n).size≤1000
  obtain⟨m,-,hm,hkd,e,h1,h2,h3⟩:=ob (by omega)
  obtain⟨tag,ser,a,b,c,keys,e2⟩:=coex_ofI hval hm hkd
  have h5:(vAt s.objects[m].items 2).Ok:=item_ok hst hm (by rw[e2];show 2<[a,b,c].length;simp)
  rw[e,ByteArray.size_append]
  have:=tailT_le h1 h5.n
  have e1:({ data:=#[99,111,45,101,120,112,114,101,115,115,105,111,110] }:ByteArray).size=13:=rfl
  omega
 ·
  show (({ data:=#[112,97,116,116,101,114,110,95] }:ByteArray)++itI (objAt s n).serial).size≤1000
  obtain⟨m,-,hm,hkd,e,h1,h2,h3⟩:=ob (by omega)
  rw[e,ByteArray.size_append]
  have:=itI_le h1
  have e1:({ data:=#[112,97,116,116,101,114,110,95] }:ByteArray).size=8:=rfl
  omega
theorem sumS_le {l:List ByteArray} {k:Nat} (h:∀x∈l,x.size≤k):sumS l≤k*l.length:=by
 induction l with
 | nil=>simp[sumS]
 | cons x r ih =>
  have h1:=h x (by simp)
  have h2:=ih (fun y hy=>h y (by simp[hy]))
  simp only[sumS,List.length_cons,Nat.mul_add]
  omega
end Go.Proofs.YtehcjlkgfgpjnaaGreatDoor
namespace Go.Proofs.YtehcjlkgfgpjnaaGreatDoor
set_option linter.unusedVariables false
set_option linter.unusedSimpArgs false
set_option maxRecDepth 100000
open Go.RowKit
--%quiet
theorem well_k {v:VVal} (h:wellB v=true):0≤v.k∧v.k≤20:=by
 refine Decidable.byContradiction fun hn=>?_
 have hb:wellB v=false:=by
  unfold wellB;rw[if_neg (by omega),if_neg (by omega),if_neg (by omega),if_neg (by omega),if_neg (by omega),if_neg (by omega),if_neg (by omega),if_neg (by omega)]
 rw[hb]at h;cases h
theorem specIm0_any (s:TStore) (v:VVal) (hval:validB s=true) (hin:inB s v=true) (hk:v.k≤12∨19≤v.k):ImC 96 s v (img0 s v):=by
 have hw:=well_k (inB_well hin)
 obtain⟨k,n,i,t,lo,hi⟩:=v
 simp only at hk hw
 rcases (by omega:k=0∨k=1∨k=2∨k=3∨k=4∨k=5∨k=6∨k=7∨k=8∨k=9∨k=10∨k=11∨k=12∨k=19∨k=20)with rfl | rfl | rfl | rfl | rfl | rfl | rfl | rfl | rfl | rfl | rfl | rfl | rfl | rfl | rfl
 ·
  exact specIm_0 n i t lo hi s 
 ·
  exact specIm_1 n i t lo hi s 
 ·
  exact specIm_2 n i t lo hi s hin
 ·
  exact specIm_3 n i t lo hi s 
 ·
  exact specIm_4 n i t lo hi s hin
 ·
  exact specIm_5 n i t lo hi s hin
 ·
  exact specIm_6 n i t lo hi s hin
 ·
  exact specIm_7 n i t lo hi s hval hin
 ·
  exact specIm_8 n i t lo hi s hval hin
 ·
  exact specIm_9 n i t lo hi s 
 ·
  exact specIm_10 n i t lo hi s hval hin
 ·
  exact specIm_11 n i t lo hi s hval hin
 ·
  exact specIm_12 n i t lo hi s hin
 ·
  exact specIm_19 n i t lo hi s 
 ·
  exact specIm_20 n i t lo hi s 
theorem implIm0_any (k n i:Int) (t:ByteArray) (lo hi:Int) (s:TStore) (v:VVal) (bR:Bool) (hbR:isRef v.k=bR) (hval:validB s=true) (hinv:inB s v=true) (hx:(⟨k,n,i,t,lo,hi⟩:VVal).Ok) (hc:(bR=false∧(⟨k,n,i,t,lo,hi⟩:VVal)=v)∨(bR=true∧rdV s v=(⟨k,n,i,t,lo,hi⟩,0)))
  (hin:inB s ⟨k,n,i,t,lo,hi⟩=true) (hk:k≤12∨19≤k):ImC 44 s v (img0 s ⟨k,n,i,t,lo,hi⟩):=by
 have hw:=well_k (inB_well hin)
 simp only at hw
 rcases (by omega:k=0∨k=1∨k=2∨k=3∨k=4∨k=5∨k=6∨k=7∨k=8∨k=9∨k=10∨k=11∨k=12∨k=19∨k=20)with rfl | rfl | rfl | rfl | rfl | rfl | rfl | rfl | rfl | rfl | rfl | rfl | rfl | rfl | rfl
 ·
  exact implIm_0 n i t lo hi s v bR hbR hval hinv hx hc 
 ·
  exact implIm_1 n i t lo hi s v bR hbR hval hinv hx hc 
 ·
  exact implIm_2 n i t lo hi s v bR hbR hval hinv hx hc (by have:=well_t (inB_well hin) rfl;omega)
 ·
  exact implIm_3 n i t lo hi s v bR hbR hval hinv hx hc 
 ·
  exact implIm_4 n i t lo hi s v bR hbR hval hinv hx hc hin
 ·
  exact implIm_5 n i t lo hi s v bR hbR hval hinv hx hc hin
 ·
  exact implIm_6 n i t lo hi s v bR hbR hval hinv hx hc hin
 ·
  exact implIm_7 n i t lo hi s v bR hbR hval hinv hx hc hin
 ·
  exact implIm_8 n i t lo hi s v bR hbR hval hinv hx hc hin
 ·
  exact implIm_9 n i t lo hi s v bR hbR hval hinv hx hc 
 ·
  exact implIm_10 n i t lo hi s v bR hbR hval hinv hx hc hin
 ·
  exact implIm_11 n i t lo hi s v bR hbR hval hinv hx hc hin
 ·
  exact implIm_12 n i t lo hi s v bR hbR hval hinv hx hc hin
 ·
  exact implIm_19 n i t lo hi s v bR hbR hval hinv hx hc 
 ·
  exact implIm_20 n i t lo hi s v bR hbR hval hinv hx hc 
set_option maxHeartbeats 4000000 in
theorem specImR_bad (s:TStore) (v:VVal) (hval:validB s=true) (hin:inB s v=true) (hr:13≤v.k∧v.k≤18) (r0 r1 r2:Int) (r3:ByteArray) (r4 r5 rc:Int) (hxv:rdV s v=(⟨r0,r1,r2,r3,r4,r5⟩,rc)) (hrc:rc≠0):ImC 96 s v ({ data:=#[118,97,114,105,97,98,108,101] }:ByteArray):=by
 intro S q w hs hv ht10 htsp
 obtain⟨x0,x1,x2,x3,x4,x5,x6,x7,x8,x9,x10,x11,x12⟩:=s
 have HSt:=hide hs
 obtain⟨A0,c0,A1,c1,A2,c2,A3,c3,A6,c6,A7,c7,A8,c8,hq,e0,e1,e2,e3,e4,e5,e6,e7,e8,e9,e10,e11,e12,hlc0,hcm0,hlc1,hcm1,hlc2,hcm2,hlc3,hcm3,hlc6,hcm6,hlc7,hcm7,hlc8,hcm8,g4,g5,g10,g11,g12,-,-,-,-,-,-,-⟩:=StoreAt.opn hs
 clear hs
 have hqn:¬q=w.heap.size:=by omega
 have hts:=hv.t
 unfold maxLen at hts
 have HV:=hide hv
 have H10:=hide ht10
 have HSP:=hide htsp
 have HVL:=hide hval
 have HIN:=hide hin
 have hbw:Bel w w:=Bel.refl w
 obtain⟨k0,n0,i0,t0,lo0,hi0⟩:=v
 simp only at hr hts ⊢
 have HF:=hide (show isRef k0=true by unfold isRef;simp;omega)
 have HK:=hide (show k0≤18 by omega)
 have HXV:=hide hxv
 clear hxv hv ht10 htsp hval hin
 have e_rc:(rc != 0)=true:=by rw[bne_iff_ne];exact hrc
 go_enter Tryz.func96,Tryz.ntmps96
 go_upto_region 3 with (first | (go_at_call 124;refine (specIsReference_any ⟨k0,n0,i0,t0,lo0,hi0⟩ _).mono ?_;rintro e w1 ⟨rfl,hb1⟩;rw[HF.out];(have hz1:=hb1.sz;obtain⟨hk1_0,hf1_0,hl1_0,hn1_0⟩:=hb1.lay (w.heap.size);obtain⟨hk1_1,hf1_1,hl1_1,hn1_1⟩:=hb1.lay (q))) | (go_at_call 45;refine (specRd_any (TStore.mk x0 x1 x2 x3 x4 x5 x6 x7 x8 x9 x10 x11 x12) ⟨k0,n0,i0,t0,lo0,hi0⟩ HVL.out HIN.out HK.out S q _ (StoreAt.bel bl HSt.out) HV.out).mono ?_;rintro e w2 ⟨rfl,hb2⟩;rw[HXV.out];simp only[VVal.val];(have hz2:=hb2.sz;obtain⟨hk2_0,hf2_0,hl2_0,hn2_0⟩:=hb2.lay (w.heap.size);obtain⟨hk2_1,hf2_1,hl2_1,hn2_1⟩:=hb2.lay (q))))
 exact rk205
set_option maxHeartbeats 4000000 in
theorem specImR_ok (s:TStore) (v:VVal) (hval:validB s=true) (hin:inB s v=true) (hr:13≤v.k∧v.k≤18) (r0 r1 r2:Int) (r3:ByteArray) (r4 r5 rc:Int) (hxv:rdV s v=(⟨r0,r1,r2,r3,r4,r5⟩,rc)) (hrc:rc=0):ImC 96 s v (img0 s ⟨r0,r1,r2,r3,r4,r5⟩):=by
 intro S q w hs hv ht10 htsp
 subst hrc
 have hx0:=rd_in hval hin hr (by rw[hxv])
 have hxo:=rd_ok hs hval hin hr (by rw[hxv])
 rw[hxv]at hx0 hxo
 have HXI:=hide hx0
 have HXO:=hide hxo
 clear hx0 hxo
 obtain⟨x0,x1,x2,x3,x4,x5,x6,x7,x8,x9,x10,x11,x12⟩:=s
 have HSt:=hide hs
 obtain⟨A0,c0,A1,c1,A2,c2,A3,c3,A6,c6,A7,c7,A8,c8,hq,e0,e1,e2,e3,e4,e5,e6,e7,e8,e9,e10,e11,e12,hlc0,hcm0,hlc1,hcm1,hlc2,hcm2,hlc3,hcm3,hlc6,hcm6,hlc7,hcm7,hlc8,hcm8,g4,g5,g10,g11,g12,-,-,-,-,-,-,-⟩:=StoreAt.opn hs
 clear hs
 have hqn:¬q=w.heap.size:=by omega
 have hts:=hv.t
 unfold maxLen at hts
 have HV:=hide hv
 have H10:=hide ht10
 have HSP:=hide htsp
 have HVL:=hide hval
 have HIN:=hide hin
 have hbw:Bel w w:=Bel.refl w
 obtain⟨k0,n0,i0,t0,lo0,hi0⟩:=v
 simp only at hr hts ⊢
 have HF:=hide (show isRef k0=true by unfold isRef;simp;omega)
 have HK:=hide (show k0≤18 by omega)
 have HXV:=hide hxv
 clear hxv hv ht10 htsp hval hin
 go_enter Tryz.func96,Tryz.ntmps96
 go_upto_region 3 with (first | (go_at_call 124;refine (specIsReference_any ⟨k0,n0,i0,t0,lo0,hi0⟩ _).mono ?_;rintro e w1 ⟨rfl,hb1⟩;rw[HF.out];(have hz1:=hb1.sz;obtain⟨hk1_0,hf1_0,hl1_0,hn1_0⟩:=hb1.lay (w.heap.size);obtain⟨hk1_1,hf1_1,hl1_1,hn1_1⟩:=hb1.lay (q))) | (go_at_call 45;refine (specRd_any (TStore.mk x0 x1 x2 x3 x4 x5 x6 x7 x8 x9 x10 x11 x12) ⟨k0,n0,i0,t0,lo0,hi0⟩ HVL.out HIN.out HK.out S q _ (StoreAt.bel bl HSt.out) HV.out).mono ?_;rintro e w2 ⟨rfl,hb2⟩;rw[HXV.out];simp only[VVal.val];(have hz2:=hb2.sz;obtain⟨hk2_0,hf2_0,hl2_0,hn2_0⟩:=hb2.lay (w.heap.size);obtain⟨hk2_1,hf2_1,hl2_1,hn2_1⟩:=hb2.lay (q))))
 refine gen_xI fun w3 h23 y0 y1 y2 y3 y4 y5 ly=>?_
 have hb3:Bel w w3:=bl
 have hqw:q<w3.heap.size:=Nat.lt_of_lt_of_le hl2_1 h23.size
 have mkq:=True.intro
 repeat (any_goals ((first | clear mkq | go_quiet (fail));(try go_wp2_with (go_at_call 96;refine (specIm0_any (TStore.mk x0 x1 x2 x3 x4 x5 x6 x7 x8 x9 x10 x11 x12) ⟨r0,r1,r2,r3,r4,r5⟩ HVL.out HXI.out.2 (Or.inl HXI.out.1) S q _ (StoreAt.bel hb3 HSt.out) HXO.out (H10.out.on hb3) (HSP.out.on hb3)).mono ?_;rintro e w4 ⟨rfl,hb4⟩))))
 all_goals
  go_returns
  exact⟨rfl,bl⟩
set_option maxHeartbeats 4000000 in
theorem implImR_bad (s:TStore) (v:VVal) (hval:validB s=true) (hin:inB s v=true) (hr:13≤v.k∧v.k≤18) (r0 r1 r2:Int) (r3:ByteArray) (r4 r5 rc:Int) (hxv:rdV s v=(⟨r0,r1,r2,r3,r4,r5⟩,rc)) (hrc:rc≠0):ImC 44 s v ({ data:=#[118,97,114,105,97,98,108,101] }:ByteArray):=by
 intro S q w hs hv ht10 htsp
 obtain⟨x0,x1,x2,x3,x4,x5,x6,x7,x8,x9,x10,x11,x12⟩:=s
 have HSt:=hide hs
 obtain⟨A0,c0,A1,c1,A2,c2,A3,c3,A6,c6,A7,c7,A8,c8,hq,e0,e1,e2,e3,e4,e5,e6,e7,e8,e9,e10,e11,e12,hlc0,hcm0,hlc1,hcm1,hlc2,hcm2,hlc3,hcm3,hlc6,hcm6,hlc7,hcm7,hlc8,hcm8,g4,g5,g10,g11,g12,-,-,-,-,-,-,-⟩:=StoreAt.opn hs
 clear hs
 have hqn:¬q=w.heap.size:=by omega
 have hts:=hv.t
 unfold maxLen at hts
 have HV:=hide hv
 have H10:=hide ht10
 have HSP:=hide htsp
 have HVL:=hide hval
 have HIN:=hide hin
 have hbw:Bel w w:=Bel.refl w
 obtain⟨k0,n0,i0,t0,lo0,hi0⟩:=v
 simp only at hr hts ⊢
 have HF:=hide (show isRef k0=true by unfold isRef;simp;omega)
 have HK:=hide (show k0≤18 by omega)
 have HXV:=hide hxv
 clear hxv hv ht10 htsp hval hin
 have e_rc:(rc != 0)=true:=by rw[bne_iff_ne];exact hrc
 go_enter Tryz.func44,Tryz.ntmps44
 go_upto_region 3 with (first | (go_at_call 77;refine (implIsReference_any ⟨k0,n0,i0,t0,lo0,hi0⟩ _).mono ?_;rintro e w1 ⟨rfl,hb1⟩;rw[HF.out];(have hz1:=hb1.sz;obtain⟨hk1_0,hf1_0,hl1_0,hn1_0⟩:=hb1.lay (w.heap.size);obtain⟨hk1_1,hf1_1,hl1_1,hn1_1⟩:=hb1.lay (q))) | (go_at_call 78;refine (implRd_any (TStore.mk x0 x1 x2 x3 x4 x5 x6 x7 x8 x9 x10 x11 x12) ⟨k0,n0,i0,t0,lo0,hi0⟩ HVL.out HIN.out HK.out S q _ (StoreAt.bel bl HSt.out) HV.out).mono ?_;rintro e w2 ⟨rfl,hb2⟩;rw[HXV.out];simp only[VVal.val];(have hz2:=hb2.sz;obtain⟨hk2_0,hf2_0,hl2_0,hn2_0⟩:=hb2.lay (w.heap.size);obtain⟨hk2_1,hf2_1,hl2_1,hn2_1⟩:=hb2.lay (q))))
 exact rk205
theorem specImV_any (s:TStore) (v:VVal) (hval:validB s=true) (hin:inB s v=true):ImC 96 s v (imgV s v):=by
 have hw:=well_k (inB_well hin)
 by_cases hr:13≤v.k∧v.k≤18
 ·
  have hf:isRef v.k=true:=by unfold isRef;simp;omega
  obtain⟨⟨r0,r1,r2,r3,r4,r5⟩,rc,hxv⟩:∃(r:VVal) (c:Int),rdV s v=(r,c):=⟨_,_,rfl⟩
  by_cases hrc:rc=0
  ·
   have e:imgV s v=img0 s ⟨r0,r1,r2,r3,r4,r5⟩:=by unfold imgV;rw[if_pos hf,hxv,if_neg (by simpa using hrc)]
   rw[e]
   exact specImR_ok s v hval hin hr _ _ _ _ _ _ rc hxv hrc
  ·
   have e:imgV s v=({ data:=#[118,97,114,105,97,98,108,101] }:ByteArray):=by unfold imgV;rw[if_pos hf,hxv,if_pos (by simpa using hrc)]
   rw[e]
   exact specImR_bad s v hval hin hr _ _ _ _ _ _ rc hxv hrc
 ·
  have hf:isRef v.k=false:=by unfold isRef;simp;omega
  have e:imgV s v=img0 s v:=by unfold imgV;rw[hf];rfl
  rw[e]
  exact specIm0_any s v hval hin (by omega)
theorem implImV_any (s:TStore) (v:VVal) (hval:validB s=true) (hin:inB s v=true):ImC 44 s v (imgV s v):=by
 have hw:=well_k (inB_well hin)
 by_cases hr:13≤v.k∧v.k≤18
 ·
  have hf:isRef v.k=true:=by unfold isRef;simp;omega
  obtain⟨⟨r0,r1,r2,r3,r4,r5⟩,rc,hxv⟩:∃(r:VVal) (c:Int),rdV s v=(r,c):=⟨_,_,rfl⟩
  by_cases hrc:rc=0
  ·
   have e:imgV s v=img0 s ⟨r0,r1,r2,r3,r4,r5⟩:=by unfold imgV;rw[if_pos hf,hxv,if_neg (by simpa using hrc)]
   rw[e]
   subst hrc
   intro S q w hs hv h1 h2
   have hx0:=rd_in hval hin hr (by rw[hxv])
   have hxo:=rd_ok hs hval hin hr (by rw[hxv])
   rw[hxv]at hx0 hxo
   exact implIm0_any _ _ _ _ _ _ s v true hf hval hin hxo (Or.inr ⟨rfl,hxv⟩) hx0.2 (Or.inl hx0.1) S q w hs hv h1 h2
  ·
   have e:imgV s v=({ data:=#[118,97,114,105,97,98,108,101] }:ByteArray):=by unfold imgV;rw[if_pos hf,hxv,if_pos (by simpa using hrc)]
   rw[e]
   exact implImR_bad s v hval hin hr _ _ _ _ _ _ rc hxv hrc
 ·
  have hf:isRef v.k=false:=by unfold isRef;simp;omega
  have e:imgV s v=img0 s v:=by unfold imgV;rw[hf];rfl
  rw[e]
  intro S q w hs hv h1 h2
  exact implIm0_any v.k v.n v.i v.t v.lo v.hi s v false hf hval hin hv (Or.inl ⟨rfl,rfl⟩) hin (by omega) S q w hs hv h1 h2
end Go.Proofs.YtehcjlkgfgpjnaaGreatDoor
namespace Go.Proofs.YtehcjlkgfgpjnaaGreatDoor
set_option linter.unusedVariables false
set_option linter.unusedSimpArgs false
set_option maxRecDepth 100000
open Go.RowKit
theorem str_ownU (w:World) {s:ByteArray} (h:s.size≤maxLen):Dat.OwnVals w [] [Dat.str s] [.string s]:=⟨[],[],rfl,Dat.own_str.2 ⟨rfl,rfl,h⟩,rfl⟩
theorem infoStrU:(Tryz.prog.info? 9).map (fun i=>(i.zero,i.size,i.bytes))=some (some (.string ByteArray.empty),1,16):=by kernel_rfl
theorem strs_cells {w:World} {S:Nat→Prop} {A:Option Addr} {c:Nat} {xs:List ByteArray} (h:Row w S 1 A c (xs.map fun x=>[Dat.str x])) (hne:0<xs.length):∃b o,A=some ⟨b,o,none⟩∧b<w.heap.size∧∀i (hi:i<xs.length),w.cell? ⟨b,o+i,none⟩=some (.string xs[i]):=by
 have key:∀i (hi:i<xs.length),∃b o,A=some ⟨b,o,none⟩∧b<w.heap.size∧w.cell? ⟨b,o+i,none⟩=some (.string xs[i]):=fun i hi=>by
  obtain⟨b,o,vs,hA,-,hl,hv,-,hc⟩:=Row.at h i (by simpa using hi)
  have hx:(xs.map fun x=>[Dat.str x])[i]'(by simpa using hi)=[Dat.str xs[i]]:=by simp
  rw[hx]at hv
  obtain⟨s0,rfl,-⟩:∃u,vs=[u]∧True:=by
   have:=hv.length
   match vs,this with
   | [u],_=>exact⟨u,rfl,trivial⟩
  have h0:=hc 0 (by decide)
  simp only[Nat.mul_one,Nat.add_zero]at h0
  obtain⟨h1,-⟩:=hv
  obtain⟨rfl,-⟩:=Dat.holds_str.1 h1
  exact⟨b,o,hA,hl,by simpa using h0⟩
 obtain⟨b,o,hA,hl,-⟩:=key 0 hne
 refine⟨b,o,hA,hl,fun i hi=>?_⟩
 obtain⟨b',o',hA',-,hc⟩:=key i hi
 rw[hA]at hA'
 injection Option.some.inj hA' with e1 e2
 subst e1 e2
 exact hc
theorem img_take {s:TStore} {l:List TValue} {i:Nat} (h:i<l.length):((l.take (i+1)).map fun x=>imgV s x.v).map (fun x=>[Dat.str x])=((l.take i).map fun x=>imgV s x.v).map (fun x=>[Dat.str x])++[[Dat.str (imgV s l[i].v)]]:=by
 rw[List.take_succ_eq_append_getElem h,List.map_append,List.map_append]
 rfl
abbrev ImsC (f:FuncId):Prop:=∀(s:TStore) (l:List TValue) (S:Nat→Prop) (q:Nat) (w:World) (A:Option Addr) (c:Nat),validB s=true→allB s l=true→l.length≤40→StoreAt w S q s→Row w S 6 A c (l.map TValue.D)→P10 w→Sp w →
 Calls Tryz.prog f #[.pointer (some ⟨q,0,none⟩),.slice A l.length c] w fun e w'=>e=.returned (.string (imgsT s l))∧Bel w w'
theorem val_okU {w:World} {S:Nat→Prop} {A:Option Addr} {c:Nat} {l:List TValue} (hR:Row w S 6 A c (l.map TValue.D)) {i:Nat} (h:i<l.length):(l[i].v).Ok:=by
 have HR:=hide hR
 have hbw:Bel w w:=Bel.refl w
 (obtain⟨b1,o1,x1_0,x1_1,x1_2,x1_3,x1_4,x1_5,hA1,hS1,hl1,hx1,hv1,g1_0,g1_1,g1_2,g1_3,g1_4,g1_5,c1_0,c1_1,c1_2,c1_3,c1_4,c1_5⟩:=TValue.at HR.out i h;subst hA1;have HV1:=hide (Dat.HoldVals.bel hbw hv1);have hh1:=hbw.box b1 hl1;have hw1:=Nat.lt_of_lt_of_le hl1 (Bel.size hbw);replace c1_0:=(hh1 _).trans c1_0;replace c1_1:=(hh1 _).trans c1_1;replace c1_2:=(hh1 _).trans c1_2;replace c1_3:=(hh1 _).trans c1_3;replace c1_4:=(hh1 _).trans c1_4;replace c1_5:=(hh1 _).trans c1_5;have HX1:=hide hx1;clear hh1 hv1 hx1 hS1)
 rw[HX1.out]
 exact⟨g1_0,g1_1,g1_2,g1_3,g1_4,g1_5⟩
set_option maxHeartbeats 2000000 in
theorem specIms_any:ImsC 56:=by
 intro s l S q w A c hval hall hl hs hR h10 hsp
 have HS:=hide hs
 have HR:=hide hR
 have H10:=hide h10
 have HSP:=hide hsp
 have HVAL:=hide hval
 have HALL:=hide hall
 have hlc:=hR.1
 have hcm:=hR.2.1
 simp only[List.length_map]at hlc
 unfold maxLen at hcm
 have hql:=hs.1
 clear hs hR h10 hsp hval hall
 obtain⟨is,his,zs0,zs1,zs2⟩:=info_parts infoStrU
 go_enter Tryz.func56,Tryz.ntmps56
 go_wp2_with (fail)
 go_loopw [5,6] (fun lv iv wr=>∃(i:Nat) (v:Value),v=lv∧iv=.int .i64 i∧i≤l.length∧Hid (OwnD wr 9 1 v [] (((l.take i).map fun x=>imgV s x.v).map (fun x=>[Dat.str x])))∧Hid (∀b,Blk v [] b→w.heap.size≤b)∧Hid (Bel w wr)∧Hid (i=0→v=.slice (some ⟨w.heap.size,0,none⟩) 0 0)) (fun _ iv _=>l.length - (intOf iv).toNat)
 case atStart=>exact⟨0,_,rfl,rfl,Nat.zero_le _,hide (OwnD.lit0 _ _ _),hide (fun b hb=>by rcases hb with hb | hb;(have e:=Option.some.inj (show some w.heap.size=some b from hb);omega);cases hb),hide bl,hide (fun _=>rfl)⟩
 case round =>
  obtain⟨i,v,rfl,rfl,hi,HO,HBL,HBR,HZ⟩:=hrel
  by_cases h:i<l.length
  ·
   skip
   have hdc:decide ((i:Int)<(l.length:Int))=true:=by simp;omega
   have hi0:(0:Int)≤(i:Int):=by omega
   have hi1:(i:Int)<(l.length:Int):=by omega
   have hbw:=HBR.out
   (obtain⟨b1,o1,x1_0,x1_1,x1_2,x1_3,x1_4,x1_5,hA1,hS1,hl1,hx1,hv1,g1_0,g1_1,g1_2,g1_3,g1_4,g1_5,c1_0,c1_1,c1_2,c1_3,c1_4,c1_5⟩:=TValue.at HR.out i h;subst hA1;have HV1:=hide (Dat.HoldVals.bel hbw hv1);have hh1:=hbw.box b1 hl1;have hw1:=Nat.lt_of_lt_of_le hl1 (Bel.size hbw);replace c1_0:=(hh1 _).trans c1_0;replace c1_1:=(hh1 _).trans c1_1;replace c1_2:=(hh1 _).trans c1_2;replace c1_3:=(hh1 _).trans c1_3;replace c1_4:=(hh1 _).trans c1_4;replace c1_5:=(hh1 _).trans c1_5;have HX1:=hide hx1;clear hh1 hv1 hx1 hS1)
   have hva:=allB_at HALL.out h
   rw[vAt_get h,HX1.out]at hva
   have HIN:=hide hva.2
   have hk12:=hva.1
   have HOK:=hide (show (⟨x1_0,x1_1,x1_2,x1_3,x1_4,x1_5⟩:VVal).Ok from⟨g1_0,g1_1,g1_2,g1_3,g1_4,g1_5⟩)
   have him2:=img_le HS.out HVAL.out HOK.out HIN.out hk12
   obtain⟨im,him⟩:∃im,imgV s ⟨x1_0,x1_1,x1_2,x1_3,x1_4,x1_5⟩=im:=⟨_,rfl⟩
   rw[him]at him2
   have HIM:=hide him
   have HE:=hide (show imgV s l[i].v=im by rw[HX1.out];exact him)
   clear him hva
   have hwW:=hbw
   go_wp2_with (first | (go_at_call 96;refine (specImV_any s ⟨x1_0,x1_1,x1_2,x1_3,x1_4,x1_5⟩ HVAL.out HIN.out S q _ (StoreAt.bel hwW HS.out) HOK.out (H10.out.on hwW) (HSP.out.on hwW)).mono ?_;rintro e w5 ⟨rfl,hb5⟩;rw[HIM.out];have hown8:=OwnD.lit1 (k:=1) w5 9 (str_ownU w5 (show im.size≤maxLen by unfold maxLen;omega)) rfl List.nodup_nil;obtain⟨nw,hsr⟩:=hown8.src;have HSR:=hide hsr;have hb58:Bel w5 (w5.alloc (.cells #[.string im] 9)):=bl;have hb8:=Bel.trans hwW (Bel.trans hb5 hb58);have HO8:=hide (HO.out.bel (Bel.trans hb5 hb58));clear hown8 hsr hb58) | (at_builtin;refine wpList_append_D rfl (.tmp 14) (.tmp 21) 22 rfl 9 is (.string ByteArray.empty) 1 16 Tryz.underlying22 his zs0 zs1 zs2 (by decide) (by decide) HO8.out HSR.out 1 rfl rfl ?c1 ?c2 ?c3 ?_))
   case c1=>exact fun b hb hm=>by cases hm
   case c2=>simp only[List.length_map,List.length_take];omega
   case c3=>simp only[List.length_map,List.length_take];unfold maxLen;omega
   exact rk126
  ·
   skip
   have hdc:decide ((i:Int)<(l.length:Int))=false:=by simp;omega
   have hO:=HO.out
   rw[List.take_of_length_le (by omega)]at hO
   have hie:i=l.length:=by omega
   have hmap:(l.map fun x=>imgV s x.v).length=l.length:=by simp
   have hsum:sumS (l.map fun x=>imgV s x.v)≤1000*(l.map fun x=>imgV s x.v).length:=sumS_le (fun x hx=>by
    obtain⟨y,hy,rfl⟩:=List.mem_map.1 hx
    obtain⟨j,hj,rfl⟩:=List.getElem_of_mem hy
    have hva:=allB_at HALL.out hj
    have hvv:=val_okU HR.out hj
    rw[vAt_get hj]at hva
    exact img_le HS.out HVAL.out hvv hva.2 hva.1)
   obtain⟨A9,c9,b9,o9,hv9,hlt9,hcl9,hcc9,hcx9⟩:∃(A9:Option Addr) (c9 b9 o9:Nat),v=.slice (some ⟨b9,o9,none⟩) (l.map fun x=>imgV s x.v).length c9∧b9<wr.heap.size∧(∀j (hj:j<(l.map fun x=>imgV s x.v).length),wr.cell? ⟨b9,o9+j,none⟩=some (.string (l.map fun x=>imgV s x.v)[j]))∧(l.map fun x=>imgV s x.v).length≤c9∧c9≤maxLen:=by
    exact rk138
   subst hv9
   have hj:=(l1Joined_any (l.map fun x=>imgV s x.v) ⟨#[44,32]⟩ b9 o9 c9 wr hlt9 hcl9 hcc9 hcx9 (by have e:((⟨#[44,32]⟩:ByteArray)).size=2:=rfl;rw[e];omega))
   rw[hmap]at hj
   have HJ:=hide hj
   clear hj hmap
   clear hcl9 hO hsum HO HZ
   have hbwr:=HBR.out
   go_wp2_with (go_at_call 97;refine HJ.out.mono ?_;rintro e w8 ⟨rfl,hb8⟩)
   all_goals
    go_returns
    exact⟨rfl,Bel.trans hbwr hb8⟩
end Go.Proofs.YtehcjlkgfgpjnaaGreatDoor
namespace Go.Proofs.YtehcjlkgfgpjnaaGreatDoor
set_option linter.unusedVariables false
set_option linter.unusedSimpArgs false
set_option maxRecDepth 100000
open Go.RowKit
set_option maxHeartbeats 2000000 in
theorem implIms_any:ImsC 66:=by
 intro s l S q w A c hval hall hl hs hR h10 hsp
 have HS:=hide hs
 have HR:=hide hR
 have H10:=hide h10
 have HSP:=hide hsp
 have HVAL:=hide hval
 have HALL:=hide hall
 have hlc:=hR.1
 have hcm:=hR.2.1
 simp only[List.length_map]at hlc
 unfold maxLen at hcm
 have hql:=hs.1
 clear hs hR h10 hsp hval hall
 obtain⟨is,his,zs0,zs1,zs2⟩:=info_parts infoStrU
 go_enter Tryz.func66,Tryz.ntmps66
 go_wp2_with (fail)
 go_loopw [5,11] (fun lv iv wr=>∃(i:Nat) (v:Value),v=lv∧iv=.int .i64 i∧i≤l.length∧Hid (OwnD wr 9 1 v [] (((l.take i).map fun x=>imgV s x.v).map (fun x=>[Dat.str x])))∧Hid (∀b,Blk v [] b→w.heap.size≤b)∧Hid (Bel w wr)∧Hid (i=0→v=.slice (some ⟨w.heap.size,0,none⟩) 0 0)) (fun _ iv _=>l.length - (intOf iv).toNat)
 case atStart=>exact⟨0,_,rfl,rfl,Nat.zero_le _,hide (OwnD.lit0 _ _ _),hide (fun b hb=>by rcases hb with hb | hb;(have e:=Option.some.inj (show some w.heap.size=some b from hb);omega);cases hb),hide bl,hide (fun _=>rfl)⟩
 case round =>
  obtain⟨i,v,rfl,rfl,hi,HO,HBL,HBR,HZ⟩:=hrel
  by_cases h:i<l.length
  ·
   skip
   have hdc:decide ((i:Int)<(l.length:Int))=true:=by simp;omega
   have hi0:(0:Int)≤(i:Int):=by omega
   have hi1:(i:Int)<(l.length:Int):=by omega
   have hbw:=HBR.out
   (obtain⟨b1,o1,x1_0,x1_1,x1_2,x1_3,x1_4,x1_5,hA1,hS1,hl1,hx1,hv1,g1_0,g1_1,g1_2,g1_3,g1_4,g1_5,c1_0,c1_1,c1_2,c1_3,c1_4,c1_5⟩:=TValue.at HR.out i h;subst hA1;have HV1:=hide (Dat.HoldVals.bel hbw hv1);have hh1:=hbw.box b1 hl1;have hw1:=Nat.lt_of_lt_of_le hl1 (Bel.size hbw);replace c1_0:=(hh1 _).trans c1_0;replace c1_1:=(hh1 _).trans c1_1;replace c1_2:=(hh1 _).trans c1_2;replace c1_3:=(hh1 _).trans c1_3;replace c1_4:=(hh1 _).trans c1_4;replace c1_5:=(hh1 _).trans c1_5;have HX1:=hide hx1;clear hh1 hv1 hx1 hS1)
   have hva:=allB_at HALL.out h
   rw[vAt_get h,HX1.out]at hva
   have HIN:=hide hva.2
   have hk12:=hva.1
   have HOK:=hide (show (⟨x1_0,x1_1,x1_2,x1_3,x1_4,x1_5⟩:VVal).Ok from⟨g1_0,g1_1,g1_2,g1_3,g1_4,g1_5⟩)
   have him2:=img_le HS.out HVAL.out HOK.out HIN.out hk12
   obtain⟨im,him⟩:∃im,imgV s ⟨x1_0,x1_1,x1_2,x1_3,x1_4,x1_5⟩=im:=⟨_,rfl⟩
   rw[him]at him2
   have HIM:=hide him
   have HE:=hide (show imgV s l[i].v=im by rw[HX1.out];exact him)
   clear him hva
   go_upto_region 5 with (fail)
   refine wp_named2 fun wA hwA=>?_
   have hbA:Bel wr wA:=by rw[←hwA];exact bl
   have y0:wA.cell? ⟨wr.heap.size,0,none⟩=some (.int .i64 x1_0):=by rw[←hwA];simp[go_sem]
   have y1:wA.cell? ⟨wr.heap.size,1,none⟩=some (.int .i64 x1_1):=by rw[←hwA];simp[go_sem]
   have y2:wA.cell? ⟨wr.heap.size,2,none⟩=some (.int .i64 x1_2):=by rw[←hwA];simp[go_sem]
   have y3:wA.cell? ⟨wr.heap.size,3,none⟩=some (.string x1_3):=by rw[←hwA];simp[go_sem]
   have y4:wA.cell? ⟨wr.heap.size,4,none⟩=some (.int .i64 x1_4):=by rw[←hwA];simp[go_sem]
   have y5:wA.cell? ⟨wr.heap.size,5,none⟩=some (.int .i64 x1_5):=by rw[←hwA];simp[go_sem]
   have hzA:wr.heap.size<wA.heap.size:=by rw[←hwA];simp
   clear hwA
   have hwW:=(Bel.trans hbw hbA)
   go_wp2_with (first | (go_at_call 44;refine (implImV_any s ⟨x1_0,x1_1,x1_2,x1_3,x1_4,x1_5⟩ HVAL.out HIN.out S q _ (StoreAt.bel hwW HS.out) HOK.out (H10.out.on hwW) (HSP.out.on hwW)).mono ?_;rintro e w5 ⟨rfl,hb5⟩;rw[HIM.out];have hown8:=OwnD.lit1 (k:=1) w5 9 (str_ownU w5 (show im.size≤maxLen by unfold maxLen;omega)) rfl List.nodup_nil;obtain⟨nw,hsr⟩:=hown8.src;have HSR:=hide hsr;have hb58:Bel w5 (w5.alloc (.cells #[.string im] 9)):=bl;have hb8:=Bel.trans hwW (Bel.trans hb5 hb58);have HO8:=hide (HO.out.bel (Bel.trans hbA (Bel.trans hb5 hb58)));clear hown8 hsr hb58) | (at_builtin;refine wpList_append_D rfl (.tmp 15) (.tmp 19) 22 rfl 9 is (.string ByteArray.empty) 1 16 Tryz.underlying22 his zs0 zs1 zs2 (by decide) (by decide) HO8.out HSR.out 1 rfl rfl ?c1 ?c2 ?c3 ?_))
   case c1=>exact fun b hb hm=>by cases hm
   case c2=>simp only[List.length_map,List.length_take];omega
   case c3=>simp only[List.length_map,List.length_take];unfold maxLen;omega
   exact rk126
  ·
   skip
   have hdc:decide ((i:Int)<(l.length:Int))=false:=by simp;omega
   have hO:=HO.out
   rw[List.take_of_length_le (by omega)]at hO
   have hie:i=l.length:=by omega
   have hmap:(l.map fun x=>imgV s x.v).length=l.length:=by simp
   have hsum:sumS (l.map fun x=>imgV s x.v)≤1000*(l.map fun x=>imgV s x.v).length:=sumS_le (fun x hx=>by
    obtain⟨y,hy,rfl⟩:=List.mem_map.1 hx
    obtain⟨j,hj,rfl⟩:=List.getElem_of_mem hy
    have hva:=allB_at HALL.out hj
    have hvv:=val_okU HR.out hj
    rw[vAt_get hj]at hva
    exact img_le HS.out HVAL.out hvv hva.2 hva.1)
   obtain⟨A9,c9,b9,o9,hv9,hlt9,hcl9,hcc9,hcx9⟩:∃(A9:Option Addr) (c9 b9 o9:Nat),v=.slice (some ⟨b9,o9,none⟩) (l.map fun x=>imgV s x.v).length c9∧b9<wr.heap.size∧(∀j (hj:j<(l.map fun x=>imgV s x.v).length),wr.cell? ⟨b9,o9+j,none⟩=some (.string (l.map fun x=>imgV s x.v)[j]))∧(l.map fun x=>imgV s x.v).length≤c9∧c9≤maxLen:=by
    exact rk138
   subst hv9
   have hj:=(joined_any (l.map fun x=>imgV s x.v) ⟨#[44,32]⟩ b9 o9 c9 wr hlt9 hcl9 hcc9 (by omega) (by have e:((⟨#[44,32]⟩:ByteArray)).size=2:=rfl;rw[e];omega))
   rw[hmap]at hj
   have HJ:=hide hj
   clear hj hmap
   clear hcl9 hO hsum HO HZ
   have hbwr:=HBR.out
   go_wp2_with (go_at_call 104;refine HJ.out.mono ?_;rintro e w8 ⟨rfl,hb8⟩)
   all_goals
    go_returns
    exact⟨rfl,Bel.trans hbwr hb8⟩
end Go.Proofs.YtehcjlkgfgpjnaaGreatDoor
