/- The image of a value that stands for nothing else: the reference. -/
import Derived.Test.YtehcjlkgfgpjnaaGreatDoorPr
import Derived.Test.YtehcjlkgfgpjnaaGreatDoorPQc
import Derived.Test.YtehcjlkgfgpjnaaGreatDoorPR1
import Derived.Deep.RegionHeld3
namespace Go.Proofs.YtehcjlkgfgpjnaaGreatDoor
set_option linter.unusedVariables false
set_option linter.unusedSimpArgs false
set_option maxRecDepth 100000
open Go.RowKit
--%quiet
set_option maxHeartbeats 4000000 in
theorem specIm_0 (n i:Int) (t:ByteArray) (lo hi:Int) (s:TStore):ImC 96 s ⟨0,n,i,t,lo,hi⟩ (img0 s ⟨0,n,i,t,lo,hi⟩):=by
 intro S q w hs hv ht10 htsp
 obtain⟨x0,x1,x2,x3,x4,x5,x6,x7,x8,x9,x10,x11,x12⟩:=s
 have HSt:=hide hs
 obtain⟨A0,c0,A1,c1,A2,c2,A3,c3,A6,c6,A7,c7,A8,c8,hq,e0,e1,e2,e3,e4,e5,e6,e7,e8,e9,e10,e11,e12,hlc0,hcm0,hlc1,hcm1,hlc2,hcm2,hlc3,hcm3,hlc6,hcm6,hlc7,hcm7,hlc8,hcm8,g4,g5,g10,g11,g12,-,-,-,-,-,-,-⟩:=StoreAt.opn hs
 clear hs
 have hqn:¬q=w.heap.size:=by omega
 have hts:=hv.t
 have HV:=hide hv
 have HTL:=hide hts
 unfold maxLen at hts
 simp only at hts
 clear hv ht10 htsp
 have hbw:Bel w w:=Bel.refl w
 have HF:=hide (show isRef 0=false from rfl)
 have RR:=hide (show img0 (TStore.mk x0 x1 x2 x3 x4 x5 x6 x7 x8 x9 x10 x11 x12) ⟨0,n,i,t,lo,hi⟩=({ data:=#[38,110,117,108,108] }:ByteArray) by unfold img0;rw[if_pos rfl])
 go_enter Tryz.func96,Tryz.ntmps96
 have mkq:=True.intro
 repeat (any_goals ((first | clear mkq | go_quiet (fail));(try go_wp2_with (first | (go_at_call 124;refine (specIsReference_any ⟨0,n,i,t,lo,hi⟩ _).mono ?_;rintro e w1 ⟨rfl,hb1⟩;rw[HF.out];(have hz1:=hb1.sz;obtain⟨hk1_0,hf1_0,hl1_0,hn1_0⟩:=hb1.lay (w.heap.size);obtain⟨hk1_1,hf1_1,hl1_1,hn1_1⟩:=hb1.lay (q)))))))
 all_goals
  go_returns
  exact⟨by rw[RR.out];first | done | rfl,bl⟩
set_option maxHeartbeats 4000000 in
theorem specIm_19 (n i:Int) (t:ByteArray) (lo hi:Int) (s:TStore):ImC 96 s ⟨19,n,i,t,lo,hi⟩ (img0 s ⟨19,n,i,t,lo,hi⟩):=by
 intro S q w hs hv ht10 htsp
 obtain⟨x0,x1,x2,x3,x4,x5,x6,x7,x8,x9,x10,x11,x12⟩:=s
 have HSt:=hide hs
 obtain⟨A0,c0,A1,c1,A2,c2,A3,c3,A6,c6,A7,c7,A8,c8,hq,e0,e1,e2,e3,e4,e5,e6,e7,e8,e9,e10,e11,e12,hlc0,hcm0,hlc1,hcm1,hlc2,hcm2,hlc3,hcm3,hlc6,hcm6,hlc7,hcm7,hlc8,hcm8,g4,g5,g10,g11,g12,-,-,-,-,-,-,-⟩:=StoreAt.opn hs
 clear hs
 have hqn:¬q=w.heap.size:=by omega
 have hts:=hv.t
 have HV:=hide hv
 have HTL:=hide hts
 unfold maxLen at hts
 simp only at hts
 clear hv ht10 htsp
 have hbw:Bel w w:=Bel.refl w
 have HF:=hide (show isRef 19=false from rfl)
 have RR:=hide (show img0 (TStore.mk x0 x1 x2 x3 x4 x5 x6 x7 x8 x9 x10 x11 x12) ⟨19,n,i,t,lo,hi⟩=({ data:=#[102,114,97,109,101] }:ByteArray) by unfold img0;rw[if_neg (by simp),if_neg (by simp),if_neg (by simp),if_neg (by simp),if_neg (by simp),if_neg (by simp),if_neg (by simp),if_neg (by simp),if_neg (by simp),if_neg (by simp),if_neg (by simp),if_neg (by simp),if_neg (by simp),if_pos rfl])
 go_enter Tryz.func96,Tryz.ntmps96
 have mkq:=True.intro
 repeat (any_goals ((first | clear mkq | go_quiet (fail));(try go_wp2_with (first | (go_at_call 124;refine (specIsReference_any ⟨19,n,i,t,lo,hi⟩ _).mono ?_;rintro e w1 ⟨rfl,hb1⟩;rw[HF.out];(have hz1:=hb1.sz;obtain⟨hk1_0,hf1_0,hl1_0,hn1_0⟩:=hb1.lay (w.heap.size);obtain⟨hk1_1,hf1_1,hl1_1,hn1_1⟩:=hb1.lay (q)))))))
 all_goals
  go_returns
  exact⟨by rw[RR.out];first | done | rfl,bl⟩
set_option maxHeartbeats 4000000 in
theorem specIm_20 (n i:Int) (t:ByteArray) (lo hi:Int) (s:TStore):ImC 96 s ⟨20,n,i,t,lo,hi⟩ (img0 s ⟨20,n,i,t,lo,hi⟩):=by
 intro S q w hs hv ht10 htsp
 obtain⟨x0,x1,x2,x3,x4,x5,x6,x7,x8,x9,x10,x11,x12⟩:=s
 have HSt:=hide hs
 obtain⟨A0,c0,A1,c1,A2,c2,A3,c3,A6,c6,A7,c7,A8,c8,hq,e0,e1,e2,e3,e4,e5,e6,e7,e8,e9,e10,e11,e12,hlc0,hcm0,hlc1,hcm1,hlc2,hcm2,hlc3,hcm3,hlc6,hcm6,hlc7,hcm7,hlc8,hcm8,g4,g5,g10,g11,g12,-,-,-,-,-,-,-⟩:=StoreAt.opn hs
 clear hs
 have hqn:¬q=w.heap.size:=by omega
 have hts:=hv.t
 have HV:=hide hv
 have HTL:=hide hts
 unfold maxLen at hts
 simp only at hts
 clear hv ht10 htsp
 have hbw:Bel w w:=Bel.refl w
 have HF:=hide (show isRef 20=false from rfl)
 have RR:=hide (show img0 (TStore.mk x0 x1 x2 x3 x4 x5 x6 x7 x8 x9 x10 x11 x12) ⟨20,n,i,t,lo,hi⟩=({ data:=#[115,99,97,110] }:ByteArray) by unfold img0;rw[if_neg (by simp),if_neg (by simp),if_neg (by simp),if_neg (by simp),if_neg (by simp),if_neg (by simp),if_neg (by simp),if_neg (by simp),if_neg (by simp),if_neg (by simp),if_neg (by simp),if_neg (by simp),if_neg (by simp),if_neg (by simp)])
 go_enter Tryz.func96,Tryz.ntmps96
 have mkq:=True.intro
 repeat (any_goals ((first | clear mkq | go_quiet (fail));(try go_wp2_with (first | (go_at_call 124;refine (specIsReference_any ⟨20,n,i,t,lo,hi⟩ _).mono ?_;rintro e w1 ⟨rfl,hb1⟩;rw[HF.out];(have hz1:=hb1.sz;obtain⟨hk1_0,hf1_0,hl1_0,hn1_0⟩:=hb1.lay (w.heap.size);obtain⟨hk1_1,hf1_1,hl1_1,hn1_1⟩:=hb1.lay (q)))))))
 all_goals
  go_returns
  exact⟨by rw[RR.out];first | done | rfl,bl⟩
set_option maxHeartbeats 4000000 in
theorem specIm_1 (n i:Int) (t:ByteArray) (lo hi:Int) (s:TStore):ImC 96 s ⟨1,n,i,t,lo,hi⟩ (img0 s ⟨1,n,i,t,lo,hi⟩):=by
 intro S q w hs hv ht10 htsp
 have HN:=hide hv.n
 obtain⟨x0,x1,x2,x3,x4,x5,x6,x7,x8,x9,x10,x11,x12⟩:=s
 have HSt:=hide hs
 obtain⟨A0,c0,A1,c1,A2,c2,A3,c3,A6,c6,A7,c7,A8,c8,hq,e0,e1,e2,e3,e4,e5,e6,e7,e8,e9,e10,e11,e12,hlc0,hcm0,hlc1,hcm1,hlc2,hcm2,hlc3,hcm3,hlc6,hcm6,hlc7,hcm7,hlc8,hcm8,g4,g5,g10,g11,g12,-,-,-,-,-,-,-⟩:=StoreAt.opn hs
 clear hs
 have hqn:¬q=w.heap.size:=by omega
 have hts:=hv.t
 have HV:=hide hv
 have HTL:=hide hts
 unfold maxLen at hts
 simp only at hts
 clear hv ht10 htsp
 have hbw:Bel w w:=Bel.refl w
 have HF:=hide (show isRef 1=false from rfl)
 have RR:=hide (show img0 (TStore.mk x0 x1 x2 x3 x4 x5 x6 x7 x8 x9 x10 x11 x12) ⟨1,n,i,t,lo,hi⟩=itI n by unfold img0;rw[if_neg (by simp),if_pos rfl])
 go_enter Tryz.func96,Tryz.ntmps96
 have mkq:=True.intro
 repeat (any_goals ((first | clear mkq | go_quiet (fail));(try go_wp2_with (first | (go_at_call 124;refine (specIsReference_any ⟨1,n,i,t,lo,hi⟩ _).mono ?_;rintro e w1 ⟨rfl,hb1⟩;rw[HF.out];(have hz1:=hb1.sz;obtain⟨hk1_0,hf1_0,hl1_0,hn1_0⟩:=hb1.lay (w.heap.size);obtain⟨hk1_1,hf1_1,hl1_1,hn1_1⟩:=hb1.lay (q))) | (go_at_call 125;refine (specFmtI_any n _ HN.out).mono ?_;rintro e wa ⟨rfl,hba⟩;(have hza:=hba.sz;obtain⟨hka_0,hfa_0,hla_0,hna_0⟩:=hba.lay (w.heap.size);obtain⟨hka_1,hfa_1,hla_1,hna_1⟩:=hba.lay (q)))))))
 all_goals
  go_returns
  exact⟨by rw[RR.out];first | done | rfl,bl⟩
set_option maxHeartbeats 4000000 in
theorem specIm_2 (n i:Int) (t:ByteArray) (lo hi:Int) (s:TStore) (hin:inB s ⟨2,n,i,t,lo,hi⟩=true):ImC 96 s ⟨2,n,i,t,lo,hi⟩ (img0 s ⟨2,n,i,t,lo,hi⟩):=by
 intro S q w hs hv ht10 htsp
 have HQ:=hide (show t.size≤300000000 by have:=well_t (inB_well hin) rfl;omega)
 clear hin
 obtain⟨x0,x1,x2,x3,x4,x5,x6,x7,x8,x9,x10,x11,x12⟩:=s
 have HSt:=hide hs
 obtain⟨A0,c0,A1,c1,A2,c2,A3,c3,A6,c6,A7,c7,A8,c8,hq,e0,e1,e2,e3,e4,e5,e6,e7,e8,e9,e10,e11,e12,hlc0,hcm0,hlc1,hcm1,hlc2,hcm2,hlc3,hcm3,hlc6,hcm6,hlc7,hcm7,hlc8,hcm8,g4,g5,g10,g11,g12,-,-,-,-,-,-,-⟩:=StoreAt.opn hs
 clear hs
 have hqn:¬q=w.heap.size:=by omega
 have hts:=hv.t
 have HV:=hide hv
 have HTL:=hide hts
 unfold maxLen at hts
 simp only at hts
 clear hv ht10 htsp
 have hbw:Bel w w:=Bel.refl w
 have HF:=hide (show isRef 2=false from rfl)
 have RR:=hide (show img0 (TStore.mk x0 x1 x2 x3 x4 x5 x6 x7 x8 x9 x10 x11 x12) ⟨2,n,i,t,lo,hi⟩=qt 34 t by unfold img0;rw[if_neg (by simp),if_neg (by simp),if_pos rfl])
 go_enter Tryz.func96,Tryz.ntmps96
 have mkq:=True.intro
 repeat (any_goals ((first | clear mkq | go_quiet (fail));(try go_wp2_with (first | (go_at_call 124;refine (specIsReference_any ⟨2,n,i,t,lo,hi⟩ _).mono ?_;rintro e w1 ⟨rfl,hb1⟩;rw[HF.out];(have hz1:=hb1.sz;obtain⟨hk1_0,hf1_0,hl1_0,hn1_0⟩:=hb1.lay (w.heap.size);obtain⟨hk1_1,hf1_1,hl1_1,hn1_1⟩:=hb1.lay (q))) | (go_at_call 126;refine (specQuoteText_any t _ HQ.out).mono ?_;rintro e wa ⟨rfl,hba⟩;(have hza:=hba.sz;obtain⟨hka_0,hfa_0,hla_0,hna_0⟩:=hba.lay (w.heap.size);obtain⟨hka_1,hfa_1,hla_1,hna_1⟩:=hba.lay (q)))))))
 all_goals
  go_returns
  exact⟨by rw[RR.out];first | done | rfl,bl⟩
set_option maxHeartbeats 4000000 in
theorem specIm_3 (n i:Int) (t:ByteArray) (lo hi:Int) (s:TStore):ImC 96 s ⟨3,n,i,t,lo,hi⟩ (img0 s ⟨3,n,i,t,lo,hi⟩):=by
 intro S q w hs hv ht10 htsp
 obtain⟨x0,x1,x2,x3,x4,x5,x6,x7,x8,x9,x10,x11,x12⟩:=s
 have HSt:=hide hs
 obtain⟨A0,c0,A1,c1,A2,c2,A3,c3,A6,c6,A7,c7,A8,c8,hq,e0,e1,e2,e3,e4,e5,e6,e7,e8,e9,e10,e11,e12,hlc0,hcm0,hlc1,hcm1,hlc2,hcm2,hlc3,hcm3,hlc6,hcm6,hlc7,hcm7,hlc8,hcm8,g4,g5,g10,g11,g12,-,-,-,-,-,-,-⟩:=StoreAt.opn hs
 clear hs
 have hqn:¬q=w.heap.size:=by omega
 have hts:=hv.t
 have HV:=hide hv
 have HTL:=hide hts
 unfold maxLen at hts
 simp only at hts
 clear hv ht10 htsp
 have hbw:Bel w w:=Bel.refl w
 have HF:=hide (show isRef 3=false from rfl)
 have RR:=hide (show img0 (TStore.mk x0 x1 x2 x3 x4 x5 x6 x7 x8 x9 x10 x11 x12) ⟨3,n,i,t,lo,hi⟩=qt 39 (csT lo hi) by unfold img0;rw[if_neg (by simp),if_neg (by simp),if_neg (by simp),if_pos rfl])
 go_enter Tryz.func96,Tryz.ntmps96
 have mkq:=True.intro
 repeat (any_goals ((first | clear mkq | go_quiet (fail));(try go_wp2_with (first | (go_at_call 124;refine (specIsReference_any ⟨3,n,i,t,lo,hi⟩ _).mono ?_;rintro e w1 ⟨rfl,hb1⟩;rw[HF.out];(have hz1:=hb1.sz;obtain⟨hk1_0,hf1_0,hl1_0,hn1_0⟩:=hb1.lay (w.heap.size);obtain⟨hk1_1,hf1_1,hl1_1,hn1_1⟩:=hb1.lay (q))) | (go_at_call 127;refine (specQuoteCset_any lo hi _).mono ?_;rintro e wa ⟨rfl,hba⟩;(have hza:=hba.sz;obtain⟨hka_0,hfa_0,hla_0,hna_0⟩:=hba.lay (w.heap.size);obtain⟨hka_1,hfa_1,hla_1,hna_1⟩:=hba.lay (q)))))))
 all_goals
  go_returns
  exact⟨by rw[RR.out];first | done | rfl,bl⟩
set_option maxHeartbeats 4000000 in
theorem specIm_4 (n i:Int) (t:ByteArray) (lo hi:Int) (s:TStore) (hin:inB s ⟨4,n,i,t,lo,hi⟩=true):ImC 96 s ⟨4,n,i,t,lo,hi⟩ (img0 s ⟨4,n,i,t,lo,hi⟩):=by
 intro S q w hs hv ht10 htsp
 obtain⟨m,rfl,hm,hkd⟩:=in_objI hin (by omega)
 clear hin hkd
 obtain⟨x0,x1,x2,x3,x4,x5,x6,x7,x8,x9,x10,x11,x12⟩:=s
 have HSt:=hide hs
 obtain⟨A0,c0,A1,c1,A2,c2,A3,c3,A6,c6,A7,c7,A8,c8,hq,e0,e1,e2,e3,e4,e5,e6,e7,e8,e9,e10,e11,e12,hlc0,hcm0,hlc1,hcm1,hlc2,hcm2,hlc3,hcm3,hlc6,hcm6,hlc7,hcm7,hlc8,hcm8,g4,g5,g10,g11,g12,-,-,HR2,-,-,-,-⟩:=StoreAt.opn hs
 clear hs
 have hqn:¬q=w.heap.size:=by omega
 have hts:=hv.t
 have HV:=hide hv
 have HTL:=hide hts
 unfold maxLen at hts
 simp only at hts
 clear hv ht10 htsp
 have hbw:Bel w w:=Bel.refl w
 have HF:=hide (show isRef 4=false from rfl)
 simp only[TStore.objects_mk]at hm
 (obtain⟨b1,o1,x1_0,x1_1,x1_2,x1_3,x1_4,A1_3,C1_3,A1_4,C1_4,hA1,hS1,hl1,hx1,hv1,g1_0,g1_1,g1_2,g1_3,g1_4,c1_0,c1_1,c1_2,c1_3,c1_4⟩:=TObject.at HR2.out m hm;subst hA1;have HV1:=hide (Dat.HoldVals.bel hbw hv1);have hh1:=hbw.box b1 hl1;have hw1:=Nat.lt_of_lt_of_le hl1 (Bel.size hbw);replace c1_0:=(hh1 _).trans c1_0;replace c1_1:=(hh1 _).trans c1_1;replace c1_2:=(hh1 _).trans c1_2;replace c1_3:=(hh1 _).trans c1_3;replace c1_4:=(hh1 _).trans c1_4;have HX1:=hide hx1;have GR1_3:=hide g1_3;have GR1_4:=hide g1_4;clear hh1 hv1 hx1 hS1 g1_3 g1_4)
 have HSr:=hide (show (TStore.objects (TStore.mk x0 x1 x2 x3 x4 x5 x6 x7 x8 x9 x10 x11 x12))[m].serial=x1_2 by show (x2[m]).serial=_;rw[HX1.out];rfl)
 have dm:decide ((m:Int)<(x2.length:Int))=true:=by simp;omega
 have hne1:¬b1=w.heap.size:=by omega
 have hll:=GR1_3.out.1
 have hlm:=GR1_3.out.2.1
 simp only[List.length_map]at hll
 unfold maxLen at hlm
 have HZ:=hide (show InI (x1_3.length:Int) by unfold InI;omega)
 have u1:({ data:=#[108,105,115,116] }:ByteArray).size≤4:=by decide
 have ga1:=run_addI u1 (tailT_le g1_2 HZ.out) (by omega)
 clear u1
 have RR:=hide (show img0 (TStore.mk x0 x1 x2 x3 x4 x5 x6 x7 x8 x9 x10 x11 x12) ⟨4,m,i,t,lo,hi⟩=({ data:=#[108,105,115,116] }:ByteArray)++tailT x1_2 x1_3.length by unfold img0;rw[if_neg (by simp),if_neg (by simp),if_neg (by simp),if_neg (by simp),if_pos rfl];show ({ data:=#[108,105,115,116] }:ByteArray)++tailT (objAt (TStore.mk x0 x1 x2 x3 x4 x5 x6 x7 x8 x9 x10 x11 x12) (m:Int)).serial (objAt (TStore.mk x0 x1 x2 x3 x4 x5 x6 x7 x8 x9 x10 x11 x12) (m:Int)).items.length=_;rw[objAt_get (by exact hm)];show ({ data:=#[108,105,115,116] }:ByteArray)++tailT (x2[m]).serial (x2[m]).items.length=_;rw[HX1.out];rfl)
 go_enter Tryz.func96,Tryz.ntmps96
 have mkq:=True.intro
 repeat (any_goals ((first | clear mkq | go_quiet (fail));(try go_wp2_with (first | (go_at_call 124;refine (specIsReference_any ⟨4,m,i,t,lo,hi⟩ _).mono ?_;rintro e w1 ⟨rfl,hb1⟩;rw[HF.out];(have hz1:=hb1.sz;obtain⟨hk1_0,hf1_0,hl1_0,hn1_0⟩:=hb1.lay (w.heap.size);obtain⟨hk1_1,hf1_1,hl1_1,hn1_1⟩:=hb1.lay (q)))))))
 go_region_held3 (fun w'=>w'.cell? ⟨w.heap.size,0,none⟩=some (.int .i64 4)∧w'.cell? ⟨w.heap.size,1,none⟩=some (.int .i64 (m:Int))∧w'.cell? ⟨w.heap.size,2,none⟩=some (.int .i64 i)∧w'.cell? ⟨w.heap.size,3,none⟩=some (.string t)∧w'.cell? ⟨w.heap.size,4,none⟩=some (.int .i64 lo)∧w'.cell? ⟨w.heap.size,5,none⟩=some (.int .i64 hi)∧w'.cell? ⟨q,2,none⟩=some (.slice (some ⟨b1,o1,none⟩) x2.length c2)∧w'.cell? ⟨b1,o1+m*5+3,none⟩=some (.slice A1_3 x1_3.length C1_3)) (first | exact⟨ksx9,ksx9,ksx9,ksx9,ksx9,ksx9,(Bel.box (W:=w) bl (q) hq _).trans e2,(Bel.box (W:=w) bl (b1) hl1 _).trans c1_3⟩) (first | (go_at_call 128;refine (specTail_any (TStore.mk x0 x1 x2 x3 x4 x5 x6 x7 x8 x9 x10 x11 x12) 4 i t lo hi (x1_3.length:Int) x1_2 m hm HSr.out HZ.out S q _ (StoreAt.bel bl HSt.out) HTL.out).mono ?_;rintro e wa ⟨rfl,-,hba⟩;(have hza:=hba.sz;obtain⟨hka_0,hfa_0,hla_0,hna_0⟩:=hba.lay (w.heap.size);obtain⟨hka_1,hfa_1,hla_1,hna_1⟩:=hba.lay (q))))
 go_wp2_with (fail)
 repeat (any_goals (go_quiet (fail);(try go_wp2_with (fail))))
 all_goals
  go_returns
  exact⟨by rw[RR.out];first | done | rfl,bl⟩
set_option maxHeartbeats 4000000 in
theorem specIm_5 (n i:Int) (t:ByteArray) (lo hi:Int) (s:TStore) (hin:inB s ⟨5,n,i,t,lo,hi⟩=true):ImC 96 s ⟨5,n,i,t,lo,hi⟩ (img0 s ⟨5,n,i,t,lo,hi⟩):=by
 intro S q w hs hv ht10 htsp
 obtain⟨m,rfl,hm,hkd⟩:=in_objI hin (by omega)
 clear hin hkd
 obtain⟨x0,x1,x2,x3,x4,x5,x6,x7,x8,x9,x10,x11,x12⟩:=s
 have HSt:=hide hs
 obtain⟨A0,c0,A1,c1,A2,c2,A3,c3,A6,c6,A7,c7,A8,c8,hq,e0,e1,e2,e3,e4,e5,e6,e7,e8,e9,e10,e11,e12,hlc0,hcm0,hlc1,hcm1,hlc2,hcm2,hlc3,hcm3,hlc6,hcm6,hlc7,hcm7,hlc8,hcm8,g4,g5,g10,g11,g12,-,-,HR2,-,-,-,-⟩:=StoreAt.opn hs
 clear hs
 have hqn:¬q=w.heap.size:=by omega
 have hts:=hv.t
 have HV:=hide hv
 have HTL:=hide hts
 unfold maxLen at hts
 simp only at hts
 clear hv ht10 htsp
 have hbw:Bel w w:=Bel.refl w
 have HF:=hide (show isRef 5=false from rfl)
 simp only[TStore.objects_mk]at hm
 (obtain⟨b1,o1,x1_0,x1_1,x1_2,x1_3,x1_4,A1_3,C1_3,A1_4,C1_4,hA1,hS1,hl1,hx1,hv1,g1_0,g1_1,g1_2,g1_3,g1_4,c1_0,c1_1,c1_2,c1_3,c1_4⟩:=TObject.at HR2.out m hm;subst hA1;have HV1:=hide (Dat.HoldVals.bel hbw hv1);have hh1:=hbw.box b1 hl1;have hw1:=Nat.lt_of_lt_of_le hl1 (Bel.size hbw);replace c1_0:=(hh1 _).trans c1_0;replace c1_1:=(hh1 _).trans c1_1;replace c1_2:=(hh1 _).trans c1_2;replace c1_3:=(hh1 _).trans c1_3;replace c1_4:=(hh1 _).trans c1_4;have HX1:=hide hx1;have GR1_3:=hide g1_3;have GR1_4:=hide g1_4;clear hh1 hv1 hx1 hS1 g1_3 g1_4)
 have HSr:=hide (show (TStore.objects (TStore.mk x0 x1 x2 x3 x4 x5 x6 x7 x8 x9 x10 x11 x12))[m].serial=x1_2 by show (x2[m]).serial=_;rw[HX1.out];rfl)
 have dm:decide ((m:Int)<(x2.length:Int))=true:=by simp;omega
 have hne1:¬b1=w.heap.size:=by omega
 have hll:=GR1_4.out.1
 have hlm:=GR1_4.out.2.1
 simp only[List.length_map]at hll
 unfold maxLen at hlm
 have HZ:=hide (show InI (x1_4.length:Int) by unfold InI;omega)
 have u1:({ data:=#[116,97,98,108,101] }:ByteArray).size≤5:=by decide
 have ga1:=run_addI u1 (tailT_le g1_2 HZ.out) (by omega)
 clear u1
 have RR:=hide (show img0 (TStore.mk x0 x1 x2 x3 x4 x5 x6 x7 x8 x9 x10 x11 x12) ⟨5,m,i,t,lo,hi⟩=({ data:=#[116,97,98,108,101] }:ByteArray)++tailT x1_2 x1_4.length by unfold img0;rw[if_neg (by simp),if_neg (by simp),if_neg (by simp),if_neg (by simp),if_neg (by simp),if_pos rfl];show ({ data:=#[116,97,98,108,101] }:ByteArray)++tailT (objAt (TStore.mk x0 x1 x2 x3 x4 x5 x6 x7 x8 x9 x10 x11 x12) (m:Int)).serial (objAt (TStore.mk x0 x1 x2 x3 x4 x5 x6 x7 x8 x9 x10 x11 x12) (m:Int)).keys.length=_;rw[objAt_get (by exact hm)];show ({ data:=#[116,97,98,108,101] }:ByteArray)++tailT (x2[m]).serial (x2[m]).keys.length=_;rw[HX1.out];rfl)
 go_enter Tryz.func96,Tryz.ntmps96
 have mkq:=True.intro
 repeat (any_goals ((first | clear mkq | go_quiet (fail));(try go_wp2_with (first | (go_at_call 124;refine (specIsReference_any ⟨5,m,i,t,lo,hi⟩ _).mono ?_;rintro e w1 ⟨rfl,hb1⟩;rw[HF.out];(have hz1:=hb1.sz;obtain⟨hk1_0,hf1_0,hl1_0,hn1_0⟩:=hb1.lay (w.heap.size);obtain⟨hk1_1,hf1_1,hl1_1,hn1_1⟩:=hb1.lay (q)))))))
 go_region_held3 (fun w'=>w'.cell? ⟨w.heap.size,0,none⟩=some (.int .i64 5)∧w'.cell? ⟨w.heap.size,1,none⟩=some (.int .i64 (m:Int))∧w'.cell? ⟨w.heap.size,2,none⟩=some (.int .i64 i)∧w'.cell? ⟨w.heap.size,3,none⟩=some (.string t)∧w'.cell? ⟨w.heap.size,4,none⟩=some (.int .i64 lo)∧w'.cell? ⟨w.heap.size,5,none⟩=some (.int .i64 hi)∧w'.cell? ⟨q,2,none⟩=some (.slice (some ⟨b1,o1,none⟩) x2.length c2)∧w'.cell? ⟨b1,o1+m*5+4,none⟩=some (.slice A1_4 x1_4.length C1_4)) (first | exact⟨ksx9,ksx9,ksx9,ksx9,ksx9,ksx9,(Bel.box (W:=w) bl (q) hq _).trans e2,(Bel.box (W:=w) bl (b1) hl1 _).trans c1_4⟩) (first | (go_at_call 128;refine (specTail_any (TStore.mk x0 x1 x2 x3 x4 x5 x6 x7 x8 x9 x10 x11 x12) 5 i t lo hi (x1_4.length:Int) x1_2 m hm HSr.out HZ.out S q _ (StoreAt.bel bl HSt.out) HTL.out).mono ?_;rintro e wa ⟨rfl,-,hba⟩;(have hza:=hba.sz;obtain⟨hka_0,hfa_0,hla_0,hna_0⟩:=hba.lay (w.heap.size);obtain⟨hka_1,hfa_1,hla_1,hna_1⟩:=hba.lay (q))))
 go_wp2_with (fail)
 repeat (any_goals (go_quiet (fail);(try go_wp2_with (fail))))
 all_goals
  go_returns
  exact⟨by rw[RR.out];first | done | rfl,bl⟩
set_option maxHeartbeats 4000000 in
theorem specIm_6 (n i:Int) (t:ByteArray) (lo hi:Int) (s:TStore) (hin:inB s ⟨6,n,i,t,lo,hi⟩=true):ImC 96 s ⟨6,n,i,t,lo,hi⟩ (img0 s ⟨6,n,i,t,lo,hi⟩):=by
 intro S q w hs hv ht10 htsp
 obtain⟨m,rfl,hm,hkd⟩:=in_objI hin (by omega)
 clear hin hkd
 obtain⟨x0,x1,x2,x3,x4,x5,x6,x7,x8,x9,x10,x11,x12⟩:=s
 have HSt:=hide hs
 obtain⟨A0,c0,A1,c1,A2,c2,A3,c3,A6,c6,A7,c7,A8,c8,hq,e0,e1,e2,e3,e4,e5,e6,e7,e8,e9,e10,e11,e12,hlc0,hcm0,hlc1,hcm1,hlc2,hcm2,hlc3,hcm3,hlc6,hcm6,hlc7,hcm7,hlc8,hcm8,g4,g5,g10,g11,g12,-,-,HR2,-,-,-,-⟩:=StoreAt.opn hs
 clear hs
 have hqn:¬q=w.heap.size:=by omega
 have hts:=hv.t
 have HV:=hide hv
 have HTL:=hide hts
 unfold maxLen at hts
 simp only at hts
 clear hv ht10 htsp
 have hbw:Bel w w:=Bel.refl w
 have HF:=hide (show isRef 6=false from rfl)
 simp only[TStore.objects_mk]at hm
 (obtain⟨b1,o1,x1_0,x1_1,x1_2,x1_3,x1_4,A1_3,C1_3,A1_4,C1_4,hA1,hS1,hl1,hx1,hv1,g1_0,g1_1,g1_2,g1_3,g1_4,c1_0,c1_1,c1_2,c1_3,c1_4⟩:=TObject.at HR2.out m hm;subst hA1;have HV1:=hide (Dat.HoldVals.bel hbw hv1);have hh1:=hbw.box b1 hl1;have hw1:=Nat.lt_of_lt_of_le hl1 (Bel.size hbw);replace c1_0:=(hh1 _).trans c1_0;replace c1_1:=(hh1 _).trans c1_1;replace c1_2:=(hh1 _).trans c1_2;replace c1_3:=(hh1 _).trans c1_3;replace c1_4:=(hh1 _).trans c1_4;have HX1:=hide hx1;have GR1_3:=hide g1_3;have GR1_4:=hide g1_4;clear hh1 hv1 hx1 hS1 g1_3 g1_4)
 have HSr:=hide (show (TStore.objects (TStore.mk x0 x1 x2 x3 x4 x5 x6 x7 x8 x9 x10 x11 x12))[m].serial=x1_2 by show (x2[m]).serial=_;rw[HX1.out];rfl)
 have dm:decide ((m:Int)<(x2.length:Int))=true:=by simp;omega
 have hne1:¬b1=w.heap.size:=by omega
 have hll:=GR1_4.out.1
 have hlm:=GR1_4.out.2.1
 simp only[List.length_map]at hll
 unfold maxLen at hlm
 have HZ:=hide (show InI (x1_4.length:Int) by unfold InI;omega)
 have u1:({ data:=#[115,101,116] }:ByteArray).size≤3:=by decide
 have ga1:=run_addI u1 (tailT_le g1_2 HZ.out) (by omega)
 clear u1
 have RR:=hide (show img0 (TStore.mk x0 x1 x2 x3 x4 x5 x6 x7 x8 x9 x10 x11 x12) ⟨6,m,i,t,lo,hi⟩=({ data:=#[115,101,116] }:ByteArray)++tailT x1_2 x1_4.length by unfold img0;rw[if_neg (by simp),if_neg (by simp),if_neg (by simp),if_neg (by simp),if_neg (by simp),if_neg (by simp),if_pos rfl];show ({ data:=#[115,101,116] }:ByteArray)++tailT (objAt (TStore.mk x0 x1 x2 x3 x4 x5 x6 x7 x8 x9 x10 x11 x12) (m:Int)).serial (objAt (TStore.mk x0 x1 x2 x3 x4 x5 x6 x7 x8 x9 x10 x11 x12) (m:Int)).keys.length=_;rw[objAt_get (by exact hm)];show ({ data:=#[115,101,116] }:ByteArray)++tailT (x2[m]).serial (x2[m]).keys.length=_;rw[HX1.out];rfl)
 go_enter Tryz.func96,Tryz.ntmps96
 have mkq:=True.intro
 repeat (any_goals ((first | clear mkq | go_quiet (fail));(try go_wp2_with (first | (go_at_call 124;refine (specIsReference_any ⟨6,m,i,t,lo,hi⟩ _).mono ?_;rintro e w1 ⟨rfl,hb1⟩;rw[HF.out];(have hz1:=hb1.sz;obtain⟨hk1_0,hf1_0,hl1_0,hn1_0⟩:=hb1.lay (w.heap.size);obtain⟨hk1_1,hf1_1,hl1_1,hn1_1⟩:=hb1.lay (q)))))))
 go_region_held3 (fun w'=>w'.cell? ⟨w.heap.size,0,none⟩=some (.int .i64 6)∧w'.cell? ⟨w.heap.size,1,none⟩=some (.int .i64 (m:Int))∧w'.cell? ⟨w.heap.size,2,none⟩=some (.int .i64 i)∧w'.cell? ⟨w.heap.size,3,none⟩=some (.string t)∧w'.cell? ⟨w.heap.size,4,none⟩=some (.int .i64 lo)∧w'.cell? ⟨w.heap.size,5,none⟩=some (.int .i64 hi)∧w'.cell? ⟨q,2,none⟩=some (.slice (some ⟨b1,o1,none⟩) x2.length c2)∧w'.cell? ⟨b1,o1+m*5+4,none⟩=some (.slice A1_4 x1_4.length C1_4)) (first | exact⟨ksx9,ksx9,ksx9,ksx9,ksx9,ksx9,(Bel.box (W:=w) bl (q) hq _).trans e2,(Bel.box (W:=w) bl (b1) hl1 _).trans c1_4⟩) (first | (go_at_call 128;refine (specTail_any (TStore.mk x0 x1 x2 x3 x4 x5 x6 x7 x8 x9 x10 x11 x12) 6 i t lo hi (x1_4.length:Int) x1_2 m hm HSr.out HZ.out S q _ (StoreAt.bel bl HSt.out) HTL.out).mono ?_;rintro e wa ⟨rfl,-,hba⟩;(have hza:=hba.sz;obtain⟨hka_0,hfa_0,hla_0,hna_0⟩:=hba.lay (w.heap.size);obtain⟨hka_1,hfa_1,hla_1,hna_1⟩:=hba.lay (q))))
 go_wp2_with (fail)
 repeat (any_goals (go_quiet (fail);(try go_wp2_with (fail))))
 all_goals
  go_returns
  exact⟨by rw[RR.out];first | done | rfl,bl⟩
set_option maxHeartbeats 4000000 in
theorem specIm_8 (n i:Int) (t:ByteArray) (lo hi:Int) (s:TStore) (hval:validB s=true) (hin:inB s ⟨8,n,i,t,lo,hi⟩=true):ImC 96 s ⟨8,n,i,t,lo,hi⟩ (img0 s ⟨8,n,i,t,lo,hi⟩):=by
 intro S q w hs hv ht10 htsp
 obtain⟨m,rfl,hm⟩:=in_nam hin
 have hnm:=name_of hval hm
 clear hin hval
 obtain⟨x0,x1,x2,x3,x4,x5,x6,x7,x8,x9,x10,x11,x12⟩:=s
 have HSt:=hide hs
 obtain⟨A0,c0,A1,c1,A2,c2,A3,c3,A6,c6,A7,c7,A8,c8,hq,e0,e1,e2,e3,e4,e5,e6,e7,e8,e9,e10,e11,e12,hlc0,hcm0,hlc1,hcm1,hlc2,hcm2,hlc3,hcm3,hlc6,hcm6,hlc7,hcm7,hlc8,hcm8,g4,g5,g10,g11,g12,HR0,-,-,-,-,-,-⟩:=StoreAt.opn hs
 clear hs
 have hqn:¬q=w.heap.size:=by omega
 have hts:=hv.t
 have HV:=hide hv
 have HTL:=hide hts
 unfold maxLen at hts
 simp only at hts
 clear hv ht10 htsp
 have hbw:Bel w w:=Bel.refl w
 have HF:=hide (show isRef 8=false from rfl)
 simp only[TStore.names_mk]at hm hnm
 obtain⟨b1,o1,hA1,hS1,hl1,hz1,c1x⟩:=strAt HR0.out m hm
 subst hA1
 have dm:decide ((m:Int)<(x0.length:Int))=true:=by simp;omega
 have hne1:¬b1=w.heap.size:=by omega
 have u1:({ data:=#[112,114,111,99,101,100,117,114,101,32] }:ByteArray).size≤10:=by decide
 have ga1:=run_addI u1 hnm (by omega)
 clear u1 hz1
 have RR:=hide (show img0 (TStore.mk x0 x1 x2 x3 x4 x5 x6 x7 x8 x9 x10 x11 x12) ⟨8,m,i,t,lo,hi⟩=({ data:=#[112,114,111,99,101,100,117,114,101,32] }:ByteArray)++x0[m] by unfold img0;rw[if_neg (by simp),if_neg (by simp),if_neg (by simp),if_neg (by simp),if_neg (by simp),if_neg (by simp),if_neg (by simp),if_neg (by simp),if_pos rfl];rw[nameAt_get (by exact hm)];rfl)
 go_enter Tryz.func96,Tryz.ntmps96
 have mkq:=True.intro
 repeat (any_goals ((first | clear mkq | go_quiet (fail));(try go_wp2_with (first | (go_at_call 124;refine (specIsReference_any ⟨8,m,i,t,lo,hi⟩ _).mono ?_;rintro e w1 ⟨rfl,hb1⟩;rw[HF.out];(have hz1:=hb1.sz;obtain⟨hk1_0,hf1_0,hl1_0,hn1_0⟩:=hb1.lay (w.heap.size);obtain⟨hk1_1,hf1_1,hl1_1,hn1_1⟩:=hb1.lay (q)))))))
 go_region_held3 (fun w'=>w'.cell? ⟨w.heap.size,1,none⟩=some (.int .i64 (m:Int))∧w'.cell? ⟨q,0,none⟩=some (.slice (some ⟨b1,o1,none⟩) x0.length c0)∧w'.cell? ⟨b1,o1+m,none⟩=some (.string x0[m])) (first | exact⟨ksx9,(Bel.box (W:=w) bl (q) hq _).trans e0,(Bel.box (W:=w) bl (b1) hl1 _).trans c1x⟩) (fail)
 go_wp2_with (fail)
 repeat (any_goals (go_quiet (fail);(try go_wp2_with (fail))))
 all_goals
  go_returns
  exact⟨by rw[RR.out];first | done | rfl,bl⟩
set_option maxHeartbeats 4000000 in
theorem specIm_9 (n i:Int) (t:ByteArray) (lo hi:Int) (s:TStore):ImC 96 s ⟨9,n,i,t,lo,hi⟩ (img0 s ⟨9,n,i,t,lo,hi⟩):=by
 intro S q w hs hv ht10 htsp
 have HN:=hide hv.n
 obtain⟨x0,x1,x2,x3,x4,x5,x6,x7,x8,x9,x10,x11,x12⟩:=s
 have HSt:=hide hs
 obtain⟨A0,c0,A1,c1,A2,c2,A3,c3,A6,c6,A7,c7,A8,c8,hq,e0,e1,e2,e3,e4,e5,e6,e7,e8,e9,e10,e11,e12,hlc0,hcm0,hlc1,hcm1,hlc2,hcm2,hlc3,hcm3,hlc6,hcm6,hlc7,hcm7,hlc8,hcm8,g4,g5,g10,g11,g12,-,-,-,-,-,-,-⟩:=StoreAt.opn hs
 clear hs
 have hqn:¬q=w.heap.size:=by omega
 have hts:=hv.t
 have HV:=hide hv
 have HTL:=hide hts
 unfold maxLen at hts
 simp only at hts
 clear hv ht10 htsp
 have hbw:Bel w w:=Bel.refl w
 have HF:=hide (show isRef 9=false from rfl)
 have u1:({ data:=#[102,117,110,99,116,105,111,110,32] }:ByteArray).size≤9:=by decide
 have ga1:=run_addI u1 (funName_le n) (by omega)
 clear u1
 have RR:=hide (show img0 (TStore.mk x0 x1 x2 x3 x4 x5 x6 x7 x8 x9 x10 x11 x12) ⟨9,n,i,t,lo,hi⟩=({ data:=#[102,117,110,99,116,105,111,110,32] }:ByteArray)++funName n by unfold img0;rw[if_neg (by simp),if_neg (by simp),if_neg (by simp),if_neg (by simp),if_neg (by simp),if_neg (by simp),if_neg (by simp),if_neg (by simp),if_neg (by simp),if_pos rfl])
 go_enter Tryz.func96,Tryz.ntmps96
 have mkq:=True.intro
 repeat (any_goals ((first | clear mkq | go_quiet (fail));(try go_wp2_with (first | (go_at_call 124;refine (specIsReference_any ⟨9,n,i,t,lo,hi⟩ _).mono ?_;rintro e w1 ⟨rfl,hb1⟩;rw[HF.out];(have hz1:=hb1.sz;obtain⟨hk1_0,hf1_0,hl1_0,hn1_0⟩:=hb1.lay (w.heap.size);obtain⟨hk1_1,hf1_1,hl1_1,hn1_1⟩:=hb1.lay (q))) | (go_at_call 129;refine (specFunctionName_any n _ HN.out).mono ?_;rintro e wa ⟨rfl,hba⟩;(have hza:=hba.sz;obtain⟨hka_0,hfa_0,hla_0,hna_0⟩:=hba.lay (w.heap.size);obtain⟨hka_1,hfa_1,hla_1,hna_1⟩:=hba.lay (q)))))))
 all_goals
  go_returns
  exact⟨by rw[RR.out];first | done | rfl,bl⟩
set_option maxHeartbeats 4000000 in
theorem specIm_10 (n i:Int) (t:ByteArray) (lo hi:Int) (s:TStore) (hval:validB s=true) (hin:inB s ⟨10,n,i,t,lo,hi⟩=true):ImC 96 s ⟨10,n,i,t,lo,hi⟩ (img0 s ⟨10,n,i,t,lo,hi⟩):=by
 intro S q w hs hv ht10 htsp
 obtain⟨m,rfl,hm⟩:=in_rec hin
 have hnm:=rec_name hval hm
 clear hin hval
 obtain⟨x0,x1,x2,x3,x4,x5,x6,x7,x8,x9,x10,x11,x12⟩:=s
 have HSt:=hide hs
 obtain⟨A0,c0,A1,c1,A2,c2,A3,c3,A6,c6,A7,c7,A8,c8,hq,e0,e1,e2,e3,e4,e5,e6,e7,e8,e9,e10,e11,e12,hlc0,hcm0,hlc1,hcm1,hlc2,hcm2,hlc3,hcm3,hlc6,hcm6,hlc7,hcm7,hlc8,hcm8,g4,g5,g10,g11,g12,-,HR1,-,-,-,-,-⟩:=StoreAt.opn hs
 clear hs
 have hqn:¬q=w.heap.size:=by omega
 have hts:=hv.t
 have HV:=hide hv
 have HTL:=hide hts
 unfold maxLen at hts
 simp only at hts
 clear hv ht10 htsp
 have hbw:Bel w w:=Bel.refl w
 have HF:=hide (show isRef 10=false from rfl)
 simp only[TStore.records_mk]at hm hnm
 (obtain⟨b5,o5,x5_0,x5_1,x5_2,A5_1,C5_1,hA5,hS5,hl5,hx5,hv5,g5_0,g5_1,g5_2,c5_0,c5_1,c5_2⟩:=TRecordType.at HR1.out m hm;subst hA5;have HV5:=hide (Dat.HoldVals.bel hbw hv5);have hh5:=hbw.box b5 hl5;have hw5:=Nat.lt_of_lt_of_le hl5 (Bel.size hbw);replace c5_0:=(hh5 _).trans c5_0;replace c5_1:=(hh5 _).trans c5_1;replace c5_2:=(hh5 _).trans c5_2;have HX5:=hide hx5;have GR5_1:=hide g5_1;clear hh5 hv5 hx5 hS5 g5_1)
 have hnm5:x5_0.size≤12:=by have:=hnm;rw[HX5.out]at this;exact this
 clear hnm
 have dr:decide ((m:Int)<(x1.length:Int))=true:=by simp;omega
 have hne5:¬b5=w.heap.size:=by omega
 have u1:({ data:=#[114,101,99,111,114,100,32,99,111,110,115,116,114,117,99,116,111,114,32] }:ByteArray).size≤19:=by decide
 have ga1:=run_addI u1 hnm5 (by omega)
 clear u1
 have RR:=hide (show img0 (TStore.mk x0 x1 x2 x3 x4 x5 x6 x7 x8 x9 x10 x11 x12) ⟨10,m,i,t,lo,hi⟩=({ data:=#[114,101,99,111,114,100,32,99,111,110,115,116,114,117,99,116,111,114,32] }:ByteArray)++x5_0 by unfold img0;rw[if_neg (by simp),if_neg (by simp),if_neg (by simp),if_neg (by simp),if_neg (by simp),if_neg (by simp),if_neg (by simp),if_neg (by simp),if_neg (by simp),if_neg (by simp),if_pos rfl];rw[recAt_get (by exact hm)];show ({ data:=#[114,101,99,111,114,100,32,99,111,110,115,116,114,117,99,116,111,114,32] }:ByteArray)++(x1[m]).name=_;rw[HX5.out];rfl)
 go_enter Tryz.func96,Tryz.ntmps96
 have mkq:=True.intro
 repeat (any_goals ((first | clear mkq | go_quiet (fail));(try go_wp2_with (first | (go_at_call 124;refine (specIsReference_any ⟨10,m,i,t,lo,hi⟩ _).mono ?_;rintro e w1 ⟨rfl,hb1⟩;rw[HF.out];(have hz1:=hb1.sz;obtain⟨hk1_0,hf1_0,hl1_0,hn1_0⟩:=hb1.lay (w.heap.size);obtain⟨hk1_1,hf1_1,hl1_1,hn1_1⟩:=hb1.lay (q)))))))
 go_region_held3 (fun w'=>w'.cell? ⟨w.heap.size,1,none⟩=some (.int .i64 (m:Int))∧w'.cell? ⟨q,1,none⟩=some (.slice (some ⟨b5,o5,none⟩) x1.length c1)∧w'.cell? ⟨b5,o5+m*3,none⟩=some (.string x5_0)) (first | exact⟨ksx9,(Bel.box (W:=w) bl (q) hq _).trans e1,(Bel.box (W:=w) bl (b5) hl5 _).trans c5_0⟩) (fail)
 go_wp2_with (fail)
 repeat (any_goals (go_quiet (fail);(try go_wp2_with (fail))))
 all_goals
  go_returns
  exact⟨by rw[RR.out];first | done | rfl,bl⟩
set_option maxHeartbeats 4000000 in
theorem specIm_11 (n i:Int) (t:ByteArray) (lo hi:Int) (s:TStore) (hval:validB s=true) (hin:inB s ⟨11,n,i,t,lo,hi⟩=true):ImC 96 s ⟨11,n,i,t,lo,hi⟩ (img0 s ⟨11,n,i,t,lo,hi⟩):=by
 intro S q w hs hv ht10 htsp
 obtain⟨m,rfl,hm,hkd⟩:=in_objI hin (by omega)
 rw[show kindI 11=6 by decide]at hkd
 obtain⟨tag,ser,a,b,c,keys,he⟩:=coex_ofI hval hm hkd
 clear hin hkd hval
 obtain⟨x0,x1,x2,x3,x4,x5,x6,x7,x8,x9,x10,x11,x12⟩:=s
 have HSt:=hide hs
 obtain⟨A0,c0,A1,c1,A2,c2,A3,c3,A6,c6,A7,c7,A8,c8,hq,e0,e1,e2,e3,e4,e5,e6,e7,e8,e9,e10,e11,e12,hlc0,hcm0,hlc1,hcm1,hlc2,hcm2,hlc3,hcm3,hlc6,hcm6,hlc7,hcm7,hlc8,hcm8,g4,g5,g10,g11,g12,-,-,HR2,-,-,-,-⟩:=StoreAt.opn hs
 clear hs
 have hqn:¬q=w.heap.size:=by omega
 have hts:=hv.t
 have HV:=hide hv
 have HTL:=hide hts
 unfold maxLen at hts
 simp only at hts
 clear hv ht10 htsp
 have hbw:Bel w w:=Bel.refl w
 have HF:=hide (show isRef 11=false from rfl)
 simp only[TStore.objects_mk]at hm he
 (obtain⟨b1,o1,x1_0,x1_1,x1_2,x1_3,x1_4,A1_3,C1_3,A1_4,C1_4,hA1,hS1,hl1,hx1,hv1,g1_0,g1_1,g1_2,g1_3,g1_4,c1_0,c1_1,c1_2,c1_3,c1_4⟩:=TObject.at HR2.out m hm;subst hA1;have HV1:=hide (Dat.HoldVals.bel hbw hv1);have hh1:=hbw.box b1 hl1;have hw1:=Nat.lt_of_lt_of_le hl1 (Bel.size hbw);replace c1_0:=(hh1 _).trans c1_0;replace c1_1:=(hh1 _).trans c1_1;replace c1_2:=(hh1 _).trans c1_2;replace c1_3:=(hh1 _).trans c1_3;replace c1_4:=(hh1 _).trans c1_4;have HX1:=hide hx1;have GR1_3:=hide g1_3;have GR1_4:=hide g1_4;clear hh1 hv1 hx1 hS1 g1_3 g1_4)
 have HSr:=hide (show (TStore.objects (TStore.mk x0 x1 x2 x3 x4 x5 x6 x7 x8 x9 x10 x11 x12))[m].serial=x1_2 by show (x2[m]).serial=_;rw[HX1.out];rfl)
 have dm:decide ((m:Int)<(x2.length:Int))=true:=by simp;omega
 have hne1:¬b1=w.heap.size:=by omega
 obtain⟨rfl,rfl,rfl,rfl,rfl⟩:=TObject.mk.inj (he.symm.trans HX1.out)
 (obtain⟨b3,o3,x3_0,x3_1,x3_2,x3_3,x3_4,x3_5,hA3,hS3,hl3,hx3,hv3,g3_0,g3_1,g3_2,g3_3,g3_4,g3_5,c3_0,c3_1,c3_2,c3_3,c3_4,c3_5⟩:=TValue.at GR1_3.out 2 (by simp);subst hA3;have HV3:=hide (Dat.HoldVals.bel hbw hv3);have hh3:=hbw.box b3 hl3;have hw3:=Nat.lt_of_lt_of_le hl3 (Bel.size hbw);replace c3_0:=(hh3 _).trans c3_0;replace c3_1:=(hh3 _).trans c3_1;replace c3_2:=(hh3 _).trans c3_2;replace c3_3:=(hh3 _).trans c3_3;replace c3_4:=(hh3 _).trans c3_4;replace c3_5:=(hh3 _).trans c3_5;have HX3:=hide hx3;clear hh3 hv3 hx3 hS3;simp only[Nat.zero_mul,Nat.one_mul,Nat.add_zero,Nat.reduceMul,Nat.add_assoc,Nat.reduceAdd]at c3_0 c3_1 c3_2 c3_3 c3_4 c3_5)
 obtain rfl:c=.mk x3_0 x3_1 x3_2 x3_3 x3_4 x3_5:=HX3.out
 have hne3:¬b3=w.heap.size:=by omega
 have HZ:=hide g3_1
 have u1:({ data:=#[99,111,45,101,120,112,114,101,115,115,105,111,110] }:ByteArray).size≤13:=by decide
 have ga1:=run_addI u1 (tailT_le g1_2 HZ.out) (by omega)
 clear u1
 have RR:=hide (show img0 (TStore.mk x0 x1 x2 x3 x4 x5 x6 x7 x8 x9 x10 x11 x12) ⟨11,m,i,t,lo,hi⟩=({ data:=#[99,111,45,101,120,112,114,101,115,115,105,111,110] }:ByteArray)++tailT ser x3_1 by
  have q1:objAt (TStore.mk x0 x1 x2 x3 x4 x5 x6 x7 x8 x9 x10 x11 x12) (m:Int)=.mk 6 tag ser [a,b,.mk x3_0 x3_1 x3_2 x3_3 x3_4 x3_5] keys:=(objAt_get (s:=(TStore.mk x0 x1 x2 x3 x4 x5 x6 x7 x8 x9 x10 x11 x12)) hm).trans he
  unfold img0;rw[if_neg (by simp),if_neg (by simp),if_neg (by simp),if_neg (by simp),if_neg (by simp),if_neg (by simp),if_neg (by simp),if_neg (by simp),if_neg (by simp),if_neg (by simp),if_neg (by simp),if_pos rfl];simp only[q1,TObject.items,TObject.serial,vAt_2];rfl)
 go_enter Tryz.func96,Tryz.ntmps96
 have mkq:=True.intro
 repeat (any_goals ((first | clear mkq | go_quiet (fail));(try go_wp2_with (first | (go_at_call 124;refine (specIsReference_any ⟨11,m,i,t,lo,hi⟩ _).mono ?_;rintro e w1 ⟨rfl,hb1⟩;rw[HF.out];(have hz1:=hb1.sz;obtain⟨hk1_0,hf1_0,hl1_0,hn1_0⟩:=hb1.lay (w.heap.size);obtain⟨hk1_1,hf1_1,hl1_1,hn1_1⟩:=hb1.lay (q)))))))
 go_region_held3 (fun w'=>w'.cell? ⟨w.heap.size,0,none⟩=some (.int .i64 11)∧w'.cell? ⟨w.heap.size,1,none⟩=some (.int .i64 (m:Int))∧w'.cell? ⟨w.heap.size,2,none⟩=some (.int .i64 i)∧w'.cell? ⟨w.heap.size,3,none⟩=some (.string t)∧w'.cell? ⟨w.heap.size,4,none⟩=some (.int .i64 lo)∧w'.cell? ⟨w.heap.size,5,none⟩=some (.int .i64 hi)∧w'.cell? ⟨q,2,none⟩=some (.slice (some ⟨b1,o1,none⟩) x2.length c2)∧w'.cell? ⟨b1,o1+m*5+3,none⟩=some (.slice (some ⟨b3,o3,none⟩) 3 C1_3)∧w'.cell? ⟨b3,o3+13,none⟩=some (.int .i64 x3_1)) (first | exact⟨ksx9,ksx9,ksx9,ksx9,ksx9,ksx9,(Bel.box (W:=w) bl (q) hq _).trans e2,(Bel.box (W:=w) bl (b1) hl1 _).trans c1_3,(Bel.box (W:=w) bl (b3) hl3 _).trans c3_1⟩) (first | (go_at_call 128;refine (specTail_any (TStore.mk x0 x1 x2 x3 x4 x5 x6 x7 x8 x9 x10 x11 x12) 11 i t lo hi x3_1 ser m hm HSr.out HZ.out S q _ (StoreAt.bel bl HSt.out) HTL.out).mono ?_;rintro e wa ⟨rfl,-,hba⟩;(have hza:=hba.sz;obtain⟨hka_0,hfa_0,hla_0,hna_0⟩:=hba.lay (w.heap.size);obtain⟨hka_1,hfa_1,hla_1,hna_1⟩:=hba.lay (q))))
 go_wp2_with (fail)
 repeat (any_goals (go_quiet (fail);(try go_wp2_with (fail))))
 all_goals
  go_returns
  exact⟨by rw[RR.out];first | done | rfl,bl⟩
set_option maxHeartbeats 4000000 in
theorem specIm_12 (n i:Int) (t:ByteArray) (lo hi:Int) (s:TStore) (hin:inB s ⟨12,n,i,t,lo,hi⟩=true):ImC 96 s ⟨12,n,i,t,lo,hi⟩ (img0 s ⟨12,n,i,t,lo,hi⟩):=by
 intro S q w hs hv ht10 htsp
 obtain⟨m,rfl,hm,hkd⟩:=in_objI hin (by omega)
 clear hin hkd
 obtain⟨x0,x1,x2,x3,x4,x5,x6,x7,x8,x9,x10,x11,x12⟩:=s
 have HSt:=hide hs
 obtain⟨A0,c0,A1,c1,A2,c2,A3,c3,A6,c6,A7,c7,A8,c8,hq,e0,e1,e2,e3,e4,e5,e6,e7,e8,e9,e10,e11,e12,hlc0,hcm0,hlc1,hcm1,hlc2,hcm2,hlc3,hcm3,hlc6,hcm6,hlc7,hcm7,hlc8,hcm8,g4,g5,g10,g11,g12,-,-,HR2,-,-,-,-⟩:=StoreAt.opn hs
 clear hs
 have hqn:¬q=w.heap.size:=by omega
 have hts:=hv.t
 have HV:=hide hv
 have HTL:=hide hts
 unfold maxLen at hts
 simp only at hts
 clear hv ht10 htsp
 have hbw:Bel w w:=Bel.refl w
 have HF:=hide (show isRef 12=false from rfl)
 simp only[TStore.objects_mk]at hm
 (obtain⟨b1,o1,x1_0,x1_1,x1_2,x1_3,x1_4,A1_3,C1_3,A1_4,C1_4,hA1,hS1,hl1,hx1,hv1,g1_0,g1_1,g1_2,g1_3,g1_4,c1_0,c1_1,c1_2,c1_3,c1_4⟩:=TObject.at HR2.out m hm;subst hA1;have HV1:=hide (Dat.HoldVals.bel hbw hv1);have hh1:=hbw.box b1 hl1;have hw1:=Nat.lt_of_lt_of_le hl1 (Bel.size hbw);replace c1_0:=(hh1 _).trans c1_0;replace c1_1:=(hh1 _).trans c1_1;replace c1_2:=(hh1 _).trans c1_2;replace c1_3:=(hh1 _).trans c1_3;replace c1_4:=(hh1 _).trans c1_4;have HX1:=hide hx1;have GR1_3:=hide g1_3;have GR1_4:=hide g1_4;clear hh1 hv1 hx1 hS1 g1_3 g1_4)
 have HSr:=hide (show (TStore.objects (TStore.mk x0 x1 x2 x3 x4 x5 x6 x7 x8 x9 x10 x11 x12))[m].serial=x1_2 by show (x2[m]).serial=_;rw[HX1.out];rfl)
 have dm:decide ((m:Int)<(x2.length:Int))=true:=by simp;omega
 have hne1:¬b1=w.heap.size:=by omega
 have HZ:=hide g1_2
 have u1:({ data:=#[112,97,116,116,101,114,110,95] }:ByteArray).size≤8:=by decide
 have ga1:=run_addI u1 (itI_le g1_2) (by omega)
 clear u1
 have RR:=hide (show img0 (TStore.mk x0 x1 x2 x3 x4 x5 x6 x7 x8 x9 x10 x11 x12) ⟨12,m,i,t,lo,hi⟩=({ data:=#[112,97,116,116,101,114,110,95] }:ByteArray)++itI x1_2 by unfold img0;rw[if_neg (by simp),if_neg (by simp),if_neg (by simp),if_neg (by simp),if_neg (by simp),if_neg (by simp),if_neg (by simp),if_neg (by simp),if_neg (by simp),if_neg (by simp),if_neg (by simp),if_neg (by simp),if_pos rfl];show ({ data:=#[112,97,116,116,101,114,110,95] }:ByteArray)++itI (objAt (TStore.mk x0 x1 x2 x3 x4 x5 x6 x7 x8 x9 x10 x11 x12) (m:Int)).serial=_;rw[objAt_get (by exact hm)];show ({ data:=#[112,97,116,116,101,114,110,95] }:ByteArray)++itI (x2[m]).serial=_;rw[HX1.out];rfl)
 go_enter Tryz.func96,Tryz.ntmps96
 have mkq:=True.intro
 repeat (any_goals ((first | clear mkq | go_quiet (fail));(try go_wp2_with (first | (go_at_call 124;refine (specIsReference_any ⟨12,m,i,t,lo,hi⟩ _).mono ?_;rintro e w1 ⟨rfl,hb1⟩;rw[HF.out];(have hz1:=hb1.sz;obtain⟨hk1_0,hf1_0,hl1_0,hn1_0⟩:=hb1.lay (w.heap.size);obtain⟨hk1_1,hf1_1,hl1_1,hn1_1⟩:=hb1.lay (q)))))))
 go_region_held3 (fun w'=>w'.cell? ⟨w.heap.size,1,none⟩=some (.int .i64 (m:Int))∧w'.cell? ⟨q,2,none⟩=some (.slice (some ⟨b1,o1,none⟩) x2.length c2)∧w'.cell? ⟨b1,o1+m*5+2,none⟩=some (.int .i64 x1_2)) (first | exact⟨ksx9,(Bel.box (W:=w) bl (q) hq _).trans e2,(Bel.box (W:=w) bl (b1) hl1 _).trans c1_2⟩) (first | (go_at_call 125;refine (specFmtI_any x1_2 _ HZ.out).mono ?_;rintro e wa ⟨rfl,hba⟩;(have hza:=hba.sz;obtain⟨hka_0,hfa_0,hla_0,hna_0⟩:=hba.lay (w.heap.size);obtain⟨hka_1,hfa_1,hla_1,hna_1⟩:=hba.lay (q))))
 go_wp2_with (fail)
 repeat (any_goals (go_quiet (fail);(try go_wp2_with (fail))))
 all_goals
  go_returns
  exact⟨by rw[RR.out];first | done | rfl,bl⟩
set_option maxHeartbeats 4000000 in
theorem specIm_7 (n i:Int) (t:ByteArray) (lo hi:Int) (s:TStore) (hval:validB s=true) (hin:inB s ⟨7,n,i,t,lo,hi⟩=true):ImC 96 s ⟨7,n,i,t,lo,hi⟩ (img0 s ⟨7,n,i,t,lo,hi⟩):=by
 intro S q w hs hv ht10 htsp
 obtain⟨m,rfl,hm,hkd⟩:=in_objI hin (by omega)
 rw[show kindI 7=5 by decide]at hkd
 obtain⟨r,ser,its,keys,hr,he⟩:=rec_of hval hm hkd
 have hnm:=rec_name hval hr
 clear hin hkd hval
 obtain⟨x0,x1,x2,x3,x4,x5,x6,x7,x8,x9,x10,x11,x12⟩:=s
 have HSt:=hide hs
 obtain⟨A0,c0,A1,c1,A2,c2,A3,c3,A6,c6,A7,c7,A8,c8,hq,e0,e1,e2,e3,e4,e5,e6,e7,e8,e9,e10,e11,e12,hlc0,hcm0,hlc1,hcm1,hlc2,hcm2,hlc3,hcm3,hlc6,hcm6,hlc7,hcm7,hlc8,hcm8,g4,g5,g10,g11,g12,-,HR1,HR2,-,-,-,-⟩:=StoreAt.opn hs
 clear hs
 have hqn:¬q=w.heap.size:=by omega
 have hts:=hv.t
 have HV:=hide hv
 have HTL:=hide hts
 unfold maxLen at hts
 simp only at hts
 clear hv ht10 htsp
 have hbw:Bel w w:=Bel.refl w
 have HF:=hide (show isRef 7=false from rfl)
 simp only[TStore.objects_mk,TStore.records_mk]at hm he hr hnm
 (obtain⟨b1,o1,x1_0,x1_1,x1_2,x1_3,x1_4,A1_3,C1_3,A1_4,C1_4,hA1,hS1,hl1,hx1,hv1,g1_0,g1_1,g1_2,g1_3,g1_4,c1_0,c1_1,c1_2,c1_3,c1_4⟩:=TObject.at HR2.out m hm;subst hA1;have HV1:=hide (Dat.HoldVals.bel hbw hv1);have hh1:=hbw.box b1 hl1;have hw1:=Nat.lt_of_lt_of_le hl1 (Bel.size hbw);replace c1_0:=(hh1 _).trans c1_0;replace c1_1:=(hh1 _).trans c1_1;replace c1_2:=(hh1 _).trans c1_2;replace c1_3:=(hh1 _).trans c1_3;replace c1_4:=(hh1 _).trans c1_4;have HX1:=hide hx1;have GR1_3:=hide g1_3;have GR1_4:=hide g1_4;clear hh1 hv1 hx1 hS1 g1_3 g1_4)
 have HSr:=hide (show (TStore.objects (TStore.mk x0 x1 x2 x3 x4 x5 x6 x7 x8 x9 x10 x11 x12))[m].serial=x1_2 by show (x2[m]).serial=_;rw[HX1.out];rfl)
 have dm:decide ((m:Int)<(x2.length:Int))=true:=by simp;omega
 have hne1:¬b1=w.heap.size:=by omega
 obtain⟨rfl,rfl,rfl,rfl,rfl⟩:=TObject.mk.inj (he.symm.trans HX1.out)
 (obtain⟨b5,o5,x5_0,x5_1,x5_2,A5_1,C5_1,hA5,hS5,hl5,hx5,hv5,g5_0,g5_1,g5_2,c5_0,c5_1,c5_2⟩:=TRecordType.at HR1.out r hr;subst hA5;have HV5:=hide (Dat.HoldVals.bel hbw hv5);have hh5:=hbw.box b5 hl5;have hw5:=Nat.lt_of_lt_of_le hl5 (Bel.size hbw);replace c5_0:=(hh5 _).trans c5_0;replace c5_1:=(hh5 _).trans c5_1;replace c5_2:=(hh5 _).trans c5_2;have HX5:=hide hx5;have GR5_1:=hide g5_1;clear hh5 hv5 hx5 hS5 g5_1)
 have hnm5:x5_0.size≤12:=by have:=hnm;rw[HX5.out]at this;exact this
 clear hnm
 have dr:decide ((r:Int)<(x1.length:Int))=true:=by simp;omega
 have hne5:¬b5=w.heap.size:=by omega
 have hll:=GR1_3.out.1
 have hlm:=GR1_3.out.2.1
 simp only[List.length_map]at hll
 unfold maxLen at hlm
 have hlk:=GR1_4.out.1
 have hlkm:=GR1_4.out.2.1
 simp only[List.length_map]at hlk
 unfold maxLen at hlkm
 have HZ:=hide (show InI (its.length:Int) by unfold InI;omega)
 have u1:({ data:=#[114,101,99,111,114,100,32] }:ByteArray).size≤7:=by decide
 have ga1:=run_addI u1 hnm5 (by omega)
 have ga2:=run_addI (add_le u1 hnm5) (tailT_le g1_2 HZ.out) (by omega)
 clear u1
 have RR:=hide (show img0 (TStore.mk x0 x1 x2 x3 x4 x5 x6 x7 x8 x9 x10 x11 x12) ⟨7,m,i,t,lo,hi⟩=({ data:=#[114,101,99,111,114,100,32] }:ByteArray)++x5_0++tailT ser its.length by
  have q1:objAt (TStore.mk x0 x1 x2 x3 x4 x5 x6 x7 x8 x9 x10 x11 x12) (m:Int)=.mk 5 r ser its keys:=(objAt_get (s:=(TStore.mk x0 x1 x2 x3 x4 x5 x6 x7 x8 x9 x10 x11 x12)) hm).trans he
  have q2:recAt (TStore.mk x0 x1 x2 x3 x4 x5 x6 x7 x8 x9 x10 x11 x12) (r:Int)=x1[r]:=recAt_get (s:=(TStore.mk x0 x1 x2 x3 x4 x5 x6 x7 x8 x9 x10 x11 x12)) hr
  unfold img0;rw[if_neg (by simp),if_neg (by simp),if_neg (by simp),if_neg (by simp),if_neg (by simp),if_neg (by simp),if_neg (by simp),if_pos rfl];simp only[q1,TObject.items,TObject.serial,TObject.tag,q2];rw[HX5.out];rfl)
 have nl_b1:b1<w.heap.size+1:=by omega
 have nl_b5:b5<w.heap.size+1:=by omega
 have nl_q:q<w.heap.size+1:=by omega
 go_enter Tryz.func96,Tryz.ntmps96
 have mkq:=True.intro
 repeat (any_goals ((first | clear mkq | go_quiet (fail));(try go_wp2_with (first | (go_at_call 124;refine (specIsReference_any ⟨7,m,i,t,lo,hi⟩ _).mono ?_;rintro e w1 ⟨rfl,hb1⟩;rw[HF.out];(have hz1:=hb1.sz;obtain⟨hk1_0,hf1_0,hl1_0,hn1_0⟩:=hb1.lay (w.heap.size);obtain⟨hk1_1,hf1_1,hl1_1,hn1_1⟩:=hb1.lay (q)))))))
 go_region_held3 (fun w'=>w'.cell? ⟨w.heap.size,1,none⟩=some (.int .i64 (m:Int))∧w'.cell? ⟨q,2,none⟩=some (.slice (some ⟨b1,o1,none⟩) x2.length c2)∧w'.cell? ⟨b1,o1+m*5,none⟩=some (.int .i64 5)∧w'.cell? ⟨b1,o1+m*5+1,none⟩=some (.int .i64 (r:Int))∧w'.cell? ⟨b1,o1+m*5+2,none⟩=some (.int .i64 ser)∧w'.cell? ⟨b1,o1+m*5+3,none⟩=some (.slice A1_3 its.length C1_3)∧w'.cell? ⟨b1,o1+m*5+4,none⟩=some (.slice A1_4 keys.length C1_4)) (first | exact⟨ksx9,(Bel.box (W:=w) bl (q) hq _).trans e2,(Bel.box (W:=w) bl (b1) hl1 _).trans c1_0,(Bel.box (W:=w) bl (b1) hl1 _).trans c1_1,(Bel.box (W:=w) bl (b1) hl1 _).trans c1_2,(Bel.box (W:=w) bl (b1) hl1 _).trans c1_3,(Bel.box (W:=w) bl (b1) hl1 _).trans c1_4⟩) (fail)
 go_wp2_with (fail)
 repeat (any_goals (go_quiet (fail);(try go_wp2_with (fail))))
 have nq1:¬q=w1.heap.size:=by omega
 have nb5:¬b5=w1.heap.size:=by omega
 have nw1:¬w.heap.size=w1.heap.size:=by omega
 go_region_held3 (fun w'=>w'.cell? ⟨w.heap.size,0,none⟩=some (.int .i64 7)∧w'.cell? ⟨w.heap.size,1,none⟩=some (.int .i64 (m:Int))∧w'.cell? ⟨w.heap.size,2,none⟩=some (.int .i64 i)∧w'.cell? ⟨w.heap.size,3,none⟩=some (.string t)∧w'.cell? ⟨w.heap.size,4,none⟩=some (.int .i64 lo)∧w'.cell? ⟨w.heap.size,5,none⟩=some (.int .i64 hi)∧w'.cell? ⟨q,1,none⟩=some (.slice (some ⟨b5,o5,none⟩) x1.length c1)∧w'.cell? ⟨w1.heap.size,1,none⟩=some (.int .i64 (r:Int))∧w'.cell? ⟨w1.heap.size,3,none⟩=some (.slice A1_3 its.length C1_3)∧w'.cell? ⟨b5,o5+r*3,none⟩=some (.string x5_0)) (first | exact⟨ksx9,ksx9,ksx9,ksx9,ksx9,ksx9,(Bel.box (W:=w) bl (q) hq _).trans e1,ksx9,ksx9,(Bel.box (W:=w) bl (b5) hl5 _).trans c5_0⟩) (first | (go_at_call 128;refine (specTail_any (TStore.mk x0 x1 x2 x3 x4 x5 x6 x7 x8 x9 x10 x11 x12) 7 i t lo hi (its.length:Int) ser m hm HSr.out HZ.out S q _ (StoreAt.bel bl HSt.out) HTL.out).mono ?_;rintro e wa ⟨rfl,-,hba⟩;(have hza:=hba.sz;obtain⟨hka_0,hfa_0,hla_0,hna_0⟩:=hba.lay (w.heap.size);obtain⟨hka_1,hfa_1,hla_1,hna_1⟩:=hba.lay (w1.heap.size);obtain⟨hka_2,hfa_2,hla_2,hna_2⟩:=hba.lay (q))))
 go_wp2_with (fail)
 repeat (any_goals (go_quiet (fail);(try go_wp2_with (fail))))
 all_goals
  go_returns
  exact⟨by rw[RR.out];first | done | rfl,bl⟩
end Go.Proofs.YtehcjlkgfgpjnaaGreatDoor
