/- The image of a value: both sides, whole; and the exported functions. -/
import Derived.Test.YtehcjlkgfgpjnaaGreatDoorPShelf
import Derived.Test.YtehcjlkgfgpjnaaGreatDoorPI2
import Derived.Test.YtehcjlkgfgpjnaaGreatDoorPI3
import Derived.Test.YtehcjlkgfgpjnaaGreatDoorPR0
namespace Go.Proofs.YtehcjlkgfgpjnaaGreatDoor
set_option linter.unusedVariables false
set_option linter.unusedSimpArgs false
set_option maxRecDepth 100000
open Go.RowKit
--%quiet
theorem well_k {v:VVal} (h:wellB v=true):0≤v.k∧v.k≤20:=by
 refine Decidable.byContradiction fun hn=>?_
 have hb:wellB v=false:=by
  unfold wellB;rw[if_neg (by omega),if_neg (by omega),if_neg (by omega),if_neg (by omega),if_neg (by omega),if_neg (by omega),if_neg (by omega),if_neg (by omega)]
 rw[hb]at h;cases h
theorem implIm0_any (k n i:Int) (t:ByteArray) (lo hi:Int) (s:TStore) (v:VVal) (bR:Bool) (hbR:isRef v.k=bR) (hval:validB s=true) (hinv:inB s v=true) (hx:(⟨k,n,i,t,lo,hi⟩:VVal).Ok) (hc:(bR=false∧(⟨k,n,i,t,lo,hi⟩:VVal)=v)∨(bR=true∧rdV s v=(⟨k,n,i,t,lo,hi⟩,0)))
  (hin:inB s ⟨k,n,i,t,lo,hi⟩=true) (hk:k≤12∨19≤k):ImC 44 s v (img0 s ⟨k,n,i,t,lo,hi⟩):=by
 have hw:=well_k (inB_well hin)
 simp only at hw
 rcases (by omega:k=0∨k=1∨k=2∨k=3∨k=4∨k=5∨k=6∨k=7∨k=8∨k=9∨k=10∨k=11∨k=12∨k=19∨k=20)with rfl | rfl | rfl | rfl | rfl | rfl | rfl | rfl | rfl | rfl | rfl | rfl | rfl | rfl | rfl
 ·
  exact implIm_0 n i t lo hi s v bR hbR hval hinv hx hc 
 ·
  exact implIm_1 n i t lo hi s v bR hbR hval hinv hx hc 
 ·
  exact implIm_2 n i t lo hi s v bR hbR hval hinv hx hc (by have:=well_t (inB_well hin) rfl;omega)
 ·
  exact implIm_3 n i t lo hi s v bR hbR hval hinv hx hc 
 ·
  exact implIm_4 n i t lo hi s v bR hbR hval hinv hx hc hin
 ·
  exact implIm_5 n i t lo hi s v bR hbR hval hinv hx hc hin
 ·
  exact implIm_6 n i t lo hi s v bR hbR hval hinv hx hc hin
 ·
  exact implIm_7 n i t lo hi s v bR hbR hval hinv hx hc hin
 ·
  exact implIm_8 n i t lo hi s v bR hbR hval hinv hx hc hin
 ·
  exact implIm_9 n i t lo hi s v bR hbR hval hinv hx hc 
 ·
  exact implIm_10 n i t lo hi s v bR hbR hval hinv hx hc hin
 ·
  exact implIm_11 n i t lo hi s v bR hbR hval hinv hx hc hin
 ·
  exact implIm_12 n i t lo hi s v bR hbR hval hinv hx hc hin
 ·
  exact implIm_19 n i t lo hi s v bR hbR hval hinv hx hc 
 ·
  exact implIm_20 n i t lo hi s v bR hbR hval hinv hx hc 
set_option maxHeartbeats 4000000 in
theorem implImR_bad (s:TStore) (v:VVal) (hval:validB s=true) (hin:inB s v=true) (hr:13≤v.k∧v.k≤18) (r0 r1 r2:Int) (r3:ByteArray) (r4 r5 rc:Int) (hxv:rdV s v=(⟨r0,r1,r2,r3,r4,r5⟩,rc)) (hrc:rc≠0):ImC 44 s v ({ data:=#[118,97,114,105,97,98,108,101] }:ByteArray):=by
 intro S q w hs hv ht10 htsp
 obtain⟨x0,x1,x2,x3,x4,x5,x6,x7,x8,x9,x10,x11,x12⟩:=s
 have HSt:=hide hs
 obtain⟨A0,c0,A1,c1,A2,c2,A3,c3,A6,c6,A7,c7,A8,c8,hq,e0,e1,e2,e3,e4,e5,e6,e7,e8,e9,e10,e11,e12,hlc0,hcm0,hlc1,hcm1,hlc2,hcm2,hlc3,hcm3,hlc6,hcm6,hlc7,hcm7,hlc8,hcm8,g4,g5,g10,g11,g12,-,-,-,-,-,-,-⟩:=StoreAt.opn hs
 clear hs
 have hqn:¬q=w.heap.size:=by omega
 have hts:=hv.t
 unfold maxLen at hts
 have HV:=hide hv
 have H10:=hide ht10
 have HSP:=hide htsp
 have HVL:=hide hval
 have HIN:=hide hin
 have hbw:Bel w w:=Bel.refl w
 obtain⟨k0,n0,i0,t0,lo0,hi0⟩:=v
 simp only at hr hts ⊢
 have HF:=hide (show isRef k0=true by unfold isRef;simp;omega)
 have HK:=hide (show k0≤18 by omega)
 have HXV:=hide hxv
 clear hxv hv ht10 htsp hval hin
 have e_rc:(rc != 0)=true:=by rw[bne_iff_ne];exact hrc
 go_enter Tryz.func44,Tryz.ntmps44
 go_upto_region 3 with (first | (go_at_call 77;refine (implIsReference_any ⟨k0,n0,i0,t0,lo0,hi0⟩ _).mono ?_;rintro e w1 ⟨rfl,hb1⟩;rw[HF.out];(have hz1:=hb1.sz;obtain⟨hk1_0,hf1_0,hl1_0,hn1_0⟩:=hb1.lay (w.heap.size);obtain⟨hk1_1,hf1_1,hl1_1,hn1_1⟩:=hb1.lay (q))) | (go_at_call 78;refine (implRd_any (TStore.mk x0 x1 x2 x3 x4 x5 x6 x7 x8 x9 x10 x11 x12) ⟨k0,n0,i0,t0,lo0,hi0⟩ HVL.out HIN.out HK.out S q _ (StoreAt.bel bl HSt.out) HV.out).mono ?_;rintro e w2 ⟨rfl,hb2⟩;rw[HXV.out];simp only[VVal.val];(have hz2:=hb2.sz;obtain⟨hk2_0,hf2_0,hl2_0,hn2_0⟩:=hb2.lay (w.heap.size);obtain⟨hk2_1,hf2_1,hl2_1,hn2_1⟩:=hb2.lay (q))))
 refine gen_xI fun w3 h23 y0 y1 y2 y3 y4 y5 ly=>?_
 have hb3:Bel w w3:=bl
 go_wp2_with (fail)
 repeat (any_goals (go_quiet (fail);(try go_wp2_with (fail))))
 all_goals
  go_returns
  exact⟨rfl,bl⟩
theorem implImV_any (s:TStore) (v:VVal) (hval:validB s=true) (hin:inB s v=true):ImC 44 s v (imgV s v):=by
 have hw:=well_k (inB_well hin)
 by_cases hr:13≤v.k∧v.k≤18
 ·
  have hf:isRef v.k=true:=by unfold isRef;simp;omega
  obtain⟨⟨r0,r1,r2,r3,r4,r5⟩,rc,hxv⟩:∃(r:VVal) (c:Int),rdV s v=(r,c):=⟨_,_,rfl⟩
  by_cases hrc:rc=0
  ·
   have e:imgV s v=img0 s ⟨r0,r1,r2,r3,r4,r5⟩:=by unfold imgV;rw[if_pos hf,hxv,if_neg (by simpa using hrc)]
   rw[e]
   subst hrc
   intro S q w hs hv h1 h2
   have hx0:=rd_in hval hin hr (by rw[hxv])
   have hxo:=rd_ok hs hval hin hr (by rw[hxv])
   rw[hxv]at hx0 hxo
   exact implIm0_any _ _ _ _ _ _ s v true hf hval hin hxo (Or.inr ⟨rfl,hxv⟩) hx0.2 (Or.inl hx0.1) S q w hs hv h1 h2
  ·
   have e:imgV s v=({ data:=#[118,97,114,105,97,98,108,101] }:ByteArray):=by unfold imgV;rw[if_pos hf,hxv,if_pos (by simpa using hrc)]
   rw[e]
   exact implImR_bad s v hval hin hr _ _ _ _ _ _ rc hxv hrc
 ·
  have hf:isRef v.k=false:=by unfold isRef;simp;omega
  have e:imgV s v=img0 s v:=by unfold imgV;rw[hf];rfl
  rw[e]
  intro S q w hs hv h1 h2
  exact implIm0_any v.k v.n v.i v.t v.lo v.hi s v false hf hval hin hv (Or.inl ⟨rfl,rfl⟩) hin (by omega) S q w hs hv h1 h2
def imageI (s:TStore) (v:VVal):ByteArray:=if inV s v=true then imgV s v else ByteArray.empty
set_option maxHeartbeats 8000000 in
theorem implImage_any (s:TStore) (v:VVal) (S:Nat→Prop) (w:World) (vs:List Value) (htab:Sp w) (h10:P10 w) (hv:Dat.HoldVals w S s.D vs) (hx:v.Ok):Calls Tryz.prog 16 #[.agg vs.toArray,.agg #[.int .i64 v.k,.int .i64 v.n,.int .i64 v.i,.string v.t,.int .i64 v.lo,.int .i64 v.hi]] w fun e w'=>e=.returned (.string (imageI s v))∧Bel w w':=by
 obtain⟨x0,x1,x2,x3,x4,x5,x6,x7,x8,x9,x10,x11,x12⟩:=s
 have HV:=hide hv
 obtain⟨A0,c0,A1,c1,A2,c2,A3,c3,A6,c6,A7,c7,A8,c8,rfl,g0,g1,g2,g3,g4,g5,g6,g7,g8,-,g10,g11,g12⟩:=TStore.vals hv
 have HR0:=hide g0
 have hlc0:=g0.1
 have hcm0:=g0.2.1
 simp only[List.length_map]at hlc0
 unfold maxLen at hcm0
 have HR1:=hide g1
 have hlc1:=g1.1
 have hcm1:=g1.2.1
 simp only[List.length_map]at hlc1
 unfold maxLen at hcm1
 have HR2:=hide g2
 have hlc2:=g2.1
 have hcm2:=g2.2.1
 simp only[List.length_map]at hlc2
 unfold maxLen at hcm2
 have HR3:=hide g3
 have hlc3:=g3.1
 have hcm3:=g3.2.1
 simp only[List.length_map]at hlc3
 unfold maxLen at hcm3
 have HR6:=hide g6
 have hlc6:=g6.1
 have hcm6:=g6.2.1
 simp only[List.length_map]at hlc6
 unfold maxLen at hcm6
 have HR7:=hide g7
 have hlc7:=g7.1
 have hcm7:=g7.2.1
 simp only[List.length_map]at hlc7
 unfold maxLen at hcm7
 have HR8:=hide g8
 have hlc8:=g8.1
 have hcm8:=g8.2.1
 simp only[List.length_map]at hlc8
 unfold maxLen at hcm8
 unfold maxLen at g4
 clear hv g0 g1 g2 g3 g6 g7 g8
 have HS1:=hide (show StoreAt (w.alloc (.cells #[.slice A0 x0.length c0,.slice A1 x1.length c1,.slice A2 x2.length c2,.slice A3 x3.length c3,.string x4,.int .i64 x5,.slice A6 x6.length c6,.slice A7 x7.length c7,.slice A8 x8.length c8,.bool x9,.int .i64 x10,.int .i64 x11,.int .i64 x12] 36)) S w.heap.size (TStore.mk x0 x1 x2 x3 x4 x5 x6 x7 x8 x9 x10 x11 x12)from StoreAt.mk_of HV.out rfl)
 have HT:=hide htab
 clear htab
 have H10:=hide h10
 clear h10
 have HX:=hide hx
 obtain⟨k0,n0,i0,t0,lo0,hi0⟩:=v
 have hts:=hx.t
 unfold maxLen at hts
 clear hx
 simp only at hts ⊢
 cases hb:inV (TStore.mk x0 x1 x2 x3 x4 x5 x6 x7 x8 x9 x10 x11 x12) ⟨k0,n0,i0,t0,lo0,hi0⟩
 ·
  have RR:=hide (show imageI (TStore.mk x0 x1 x2 x3 x4 x5 x6 x7 x8 x9 x10 x11 x12) ⟨k0,n0,i0,t0,lo0,hi0⟩=ByteArray.empty by unfold imageI;rw[hb];rfl)
  have HB:=hide hb
  clear hb
  go_enter Tryz.func16,Tryz.ntmps16
  have mkq:=True.intro
  repeat (any_goals ((first | clear mkq | go_quiet (fail));(try go_wp2_with (first | (go_at_call 43;refine (implValueIn_any (TStore.mk x0 x1 x2 x3 x4 x5 x6 x7 x8 x9 x10 x11 x12) ⟨k0,n0,i0,t0,lo0,hi0⟩ S _ _ (HT.out.on bl) (Dat.HoldVals.bel bl HV.out) HX.out).mono ?_;rintro e w1 ⟨rfl,hb1⟩;rw[HB.out];(have hz1:=hb1.sz;obtain⟨hk1_0,hf1_0,hl1_0,hn1_0⟩:=hb1.lay (w.heap.size);obtain⟨hk1_1,hf1_1,hl1_1,hn1_1⟩:=hb1.lay (w.heap.size+1)))))))
  all_goals
   go_returns
   exact⟨by rw[RR.out];first | done | rfl,bl⟩
 ·
  have HB:=hide hb
  have HVL:=hide (show validB (TStore.mk x0 x1 x2 x3 x4 x5 x6 x7 x8 x9 x10 x11 x12)=true by unfold inV at hb;rw[Bool.and_eq_true]at hb;exact hb.1)
  have HIN:=hide (show inB (TStore.mk x0 x1 x2 x3 x4 x5 x6 x7 x8 x9 x10 x11 x12) ⟨k0,n0,i0,t0,lo0,hi0⟩=true by unfold inV at hb;rw[Bool.and_eq_true]at hb;exact hb.2)
  obtain⟨r0,hr⟩:∃r:ByteArray,imgV (TStore.mk x0 x1 x2 x3 x4 x5 x6 x7 x8 x9 x10 x11 x12) ⟨k0,n0,i0,t0,lo0,hi0⟩=r:=⟨_,rfl⟩
  have HR:=hide hr
  have RR:=hide (show imageI (TStore.mk x0 x1 x2 x3 x4 x5 x6 x7 x8 x9 x10 x11 x12) ⟨k0,n0,i0,t0,lo0,hi0⟩=r0 by unfold imageI;rw[if_pos hb];exact hr)
  clear hb hr
  go_enter Tryz.func16,Tryz.ntmps16
  have mkq:=True.intro
  repeat (any_goals ((first | clear mkq | go_quiet (fail));(try go_wp2_with (first | (go_at_call 43;refine (implValueIn_any (TStore.mk x0 x1 x2 x3 x4 x5 x6 x7 x8 x9 x10 x11 x12) ⟨k0,n0,i0,t0,lo0,hi0⟩ S _ _ (HT.out.on bl) (Dat.HoldVals.bel bl HV.out) HX.out).mono ?_;rintro e w1 ⟨rfl,hb1⟩;rw[HB.out];(have hz1:=hb1.sz;obtain⟨hk1_0,hf1_0,hl1_0,hn1_0⟩:=hb1.lay (w.heap.size);obtain⟨hk1_1,hf1_1,hl1_1,hn1_1⟩:=hb1.lay (w.heap.size+1))) | (go_at_call 44;refine (implImV_any (TStore.mk x0 x1 x2 x3 x4 x5 x6 x7 x8 x9 x10 x11 x12) ⟨k0,n0,i0,t0,lo0,hi0⟩ HVL.out HIN.out S w.heap.size _ (StoreAt.bel bl HS1.out) HX.out (H10.out.on bl) (HT.out.on bl)).mono ?_;rintro e w2 ⟨rfl,hb2⟩;rw[HR.out];(have hz2:=hb2.sz;obtain⟨hk2_0,hf2_0,hl2_0,hn2_0⟩:=hb2.lay (w.heap.size);obtain⟨hk2_1,hf2_1,hl2_1,hn2_1⟩:=hb2.lay (w.heap.size+1)))))))
  all_goals
   go_returns
   exact⟨by rw[RR.out];first | done | rfl,bl⟩
end Go.Proofs.YtehcjlkgfgpjnaaGreatDoor
