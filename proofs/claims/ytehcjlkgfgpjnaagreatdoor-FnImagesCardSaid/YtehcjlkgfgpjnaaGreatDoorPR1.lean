/- Reading: the reference. -/
import Derived.Test.YtehcjlkgfgpjnaaGreatDoorPr
import Derived.Test.YtehcjlkgfgpjnaaGreatDoorPR0
import Derived.Test.YtehcjlkgfgpjnaaGreatDoorPBox
import Derived.StillTailTactics
import Derived.Deep.RegionHeld3
namespace Go.Proofs.YtehcjlkgfgpjnaaGreatDoor
set_option linter.unusedVariables false
set_option linter.unusedSimpArgs false
set_option maxRecDepth 100000
open Go.RowKit
--%quiet
theorem l11TextS_any (t:ByteArray) (w:World):Calls Tryz.prog 85 #[.string t] w fun e w'=>e=.returned (.agg #[.int .i64 2,.int .i64 0,.int .i64 0,.string t,.int .i64 0,.int .i64 0])∧Bel w w':=by
 go_enter Tryz.func85,Tryz.ntmps85
 go_wp2_with (fail)
 repeat (any_goals (go_quiet (fail);(try go_wp2_with (fail))))
 exact bodyPost_ret (v:=.agg #[.int .i64 2,.int .i64 0,.int .i64 0,.string t,.int .i64 0,.int .i64 0]) (by simp[results,Tryz.results85,go_sem] <;> rfl) rfl ⟨rfl,bl⟩
theorem l11IntS_any (n:Int) (w:World):Calls Tryz.prog 86 #[.int .i64 n] w fun e w'=>e=.returned (.agg #[.int .i64 1,.int .i64 n,.int .i64 0,.string ByteArray.empty,.int .i64 0,.int .i64 0])∧Bel w w':=by
 go_enter Tryz.func86,Tryz.ntmps86
 go_wp2_with (fail)
 repeat (any_goals (go_quiet (fail);(try go_wp2_with (fail))))
 exact bodyPost_ret (v:=.agg #[.int .i64 1,.int .i64 n,.int .i64 0,.string ByteArray.empty,.int .i64 0,.int .i64 0]) (by simp[results,Tryz.results86,go_sem] <;> rfl) rfl ⟨rfl,bl⟩
set_option maxHeartbeats 1000000 in
theorem key_any (kd tag ser:Int) (its keys:List TValue) (x:VVal) (S:Nat→Prop) (w:World) (Ai Ak:Option Addr) (ci ck:Nat) (hR:Row w S 6 Ak ck (keys.map TValue.D)) (hx:x.Ok) :
  Calls Tryz.prog 84 #[.agg #[.int .i64 kd,.int .i64 tag,.int .i64 ser,.slice Ai its.length ci,.slice Ak keys.length ck],.agg #[.int .i64 x.k,.int .i64 x.n,.int .i64 x.i,.string x.t,.int .i64 x.lo,.int .i64 x.hi]] w fun e w'=>e=.returned (.int .i64 (idxV keys x))∧Bel w w':=by
 have HR:=hide hR
 have hlen:=hR.1
 have hcm:=hR.2.1
 simp only[List.length_map]at hlen
 unfold maxLen at hcm
 have hts:=hx.t
 unfold maxLen at hts
 clear hR
 obtain⟨k0,n0,i0,t0,lo0,hi0⟩:=x
 simp only at hts ⊢
 go_enter Tryz.func84,Tryz.ntmps84
 go_wp2_with (fail)
 repeat (any_goals (go_quiet (fail);(try go_wp2_with (fail))))
 go_loopw [5] (fun v wr=>∃m:Nat,v=.int .i64 m∧m≤keys.length∧Hid (∀j (hj:j<keys.length),j<m→keys[j].v.eqB ⟨k0,n0,i0,t0,lo0,hi0⟩=false)∧Bel ((w.alloc (.cells #[.int .i64 kd,.int .i64 tag,.int .i64 ser,.slice Ai its.length ci,.slice Ak keys.length ck] 98)).alloc (.cells #[.int .i64 k0,.int .i64 n0,.int .i64 i0,.string t0,.int .i64 lo0,.int .i64 hi0] 48)) wr) (fun v _=>keys.length - (intOf v).toNat)
 case atStart=>exact⟨0,rfl,by omega,fun j _ hj=>by omega,Bel.refl _⟩
 case round =>
  obtain⟨m,rfl,m1,hm,hb0⟩:=hrel
  have hbw:Bel w wr:=bl
  have hz0:=hb0.size
  simp only[World.size_alloc]at hz0
  have hk0_0:=hb0.box w.heap.size (by simp;omega)
  have hk0_1:=hb0.box (w.heap.size+1) (by simp)
  have hl0:w.heap.size<wr.heap.size:=by omega
  have hl1:w.heap.size+1<wr.heap.size:=by omega
  by_cases h1:m<keys.length
  ·
   have hd:decide ((m:Int)<(keys.length:Int))=true:=by simp[h1]
   (obtain⟨b1,o1,x1_0,x1_1,x1_2,x1_3,x1_4,x1_5,hA1,hS1,hl1,hx1,hv1,g1_0,g1_1,g1_2,g1_3,g1_4,g1_5,c1_0,c1_1,c1_2,c1_3,c1_4,c1_5⟩:=TValue.at HR.out m h1;subst hA1;have HV1:=hide (Dat.HoldVals.bel hbw hv1);have hh1:=hbw.box b1 hl1;have hw1:=Nat.lt_of_lt_of_le hl1 (Bel.size hbw);replace c1_0:=(hh1 _).trans c1_0;replace c1_1:=(hh1 _).trans c1_1;replace c1_2:=(hh1 _).trans c1_2;replace c1_3:=(hh1 _).trans c1_3;replace c1_4:=(hh1 _).trans c1_4;replace c1_5:=(hh1 _).trans c1_5;have HX1:=hide hx1;clear hh1 hv1 hx1 hS1)
   have hne1:¬b1=wr.heap.size:=by omega
   have hQ:=hide (fun W=>run_eqV x1_0 x1_1 x1_2 x1_3 x1_4 x1_5 k0 n0 i0 t0 lo0 hi0 W)
   have HQ:=hide (show keys[m].v.eqB ⟨k0,n0,i0,t0,lo0,hi0⟩=VVal.eqB ⟨x1_0,x1_1,x1_2,x1_3,x1_4,x1_5⟩ ⟨k0,n0,i0,t0,lo0,hi0⟩ by rw[HX1.out];rfl)
   have hQ2:=hQ.out
   cases hn:VVal.eqB ⟨x1_0,x1_1,x1_2,x1_3,x1_4,x1_5⟩ ⟨k0,n0,i0,t0,lo0,hi0⟩
   ·
    have HN:=hide hn
    rw[hn]at hQ2
    clear hn
    go_wp2_with (fail)
    repeat (any_goals (go_quiet (fail);(try go_wp2_with (fail))))
    go_roundw
    case rel=>exact⟨m+1,by go_num,by omega,fun j hj hjm=>by
     by_cases e:j=m
     ·
      subst e;exact HQ.out.trans HN.out
     ·
      exact hm.out j hj (by omega),bl⟩
    case measure=>simp[intOf];omega
   ·
    have HA:=hide (idxV_hit m h1 (HQ.out.trans hn) fun j hj hjm=>hm.out j hj hjm)
    rw[hn]at hQ2
    clear hn
    exact rk183
  ·
   have hd:decide ((m:Int)<(keys.length:Int))=false:=by simp[h1]
   have HA:=hide (idxV_miss (l:=keys) fun k hk=>hm.out k hk (by omega))
   go_wp2_with (fail)
   repeat (any_goals (go_quiet (fail);(try go_wp2_with (fail))))
   all_goals
    go_returns
    exact⟨by rw[HA.out];first | done | rfl,bl⟩
set_option maxHeartbeats 4000000 in
theorem specRd_13 (n i:Int) (t:ByteArray) (lo hi:Int) (s:TStore) (hin:inB s ⟨13,n,i,t,lo,hi⟩=true):RdC 45 s ⟨13,n,i,t,lo,hi⟩:=by
 intro S q w hs hv
 obtain⟨x0,x1,x2,x3,x4,x5,x6,x7,x8,x9,x10,x11,x12⟩:=s
 have HSt:=hide hs
 obtain⟨A0,c0,A1,c1,A2,c2,A3,c3,A6,c6,A7,c7,A8,c8,hq,e0,e1,e2,e3,e4,e5,e6,e7,e8,e9,e10,e11,e12,hlc0,hcm0,hlc1,hcm1,hlc2,hcm2,hlc3,hcm3,hlc6,hcm6,hlc7,hcm7,hlc8,hcm8,g4,g5,g10,g11,g12,-,-,HR2,-,-,-,-⟩:=StoreAt.opn hs
 clear hs
 have hqn:¬q=w.heap.size:=by omega
 have hts:=hv.t
 unfold maxLen at hts
 simp only at hts
 have hbw:Bel w w:=Bel.refl w
 obtain⟨m,rfl,hm,hkd,hi1⟩:=in_obj hin (by omega)
 have hi0:=well_i (inB_well hin) (by omega)
 obtain⟨j,rfl⟩:=Int.eq_ofNat_of_zero_le hi0
 have hj:=hi1 (by omega)
 clear hin hi1 hkd hi0
 simp only[TStore.objects_mk]at hm hj
 (obtain⟨b1,o1,x1_0,x1_1,x1_2,x1_3,x1_4,A1_3,C1_3,A1_4,C1_4,hA1,hS1,hl1,hx1,hv1,g1_0,g1_1,g1_2,g1_3,g1_4,c1_0,c1_1,c1_2,c1_3,c1_4⟩:=TObject.at HR2.out m hm;subst hA1;have HV1:=hide (Dat.HoldVals.bel hbw hv1);have hh1:=hbw.box b1 hl1;have hw1:=Nat.lt_of_lt_of_le hl1 (Bel.size hbw);replace c1_0:=(hh1 _).trans c1_0;replace c1_1:=(hh1 _).trans c1_1;replace c1_2:=(hh1 _).trans c1_2;replace c1_3:=(hh1 _).trans c1_3;replace c1_4:=(hh1 _).trans c1_4;have HX1:=hide hx1;have GR1_3:=hide g1_3;have GR1_4:=hide g1_4;clear hh1 hv1 hx1 hS1 g1_3 g1_4)
 have hjl:j<x1_3.length:=by have:=HX1.out;rw[this]at hj;exact Int.ofNat_lt.1 hj
 clear hj
 have hll:=GR1_3.out.1
 have hlm:=GR1_3.out.2.1
 simp only[List.length_map]at hll
 unfold maxLen at hlm
 (obtain⟨b2,o2,x2_0,x2_1,x2_2,x2_3,x2_4,x2_5,hA2,hS2,hl2,hx2,hv2,g2_0,g2_1,g2_2,g2_3,g2_4,g2_5,c2_0,c2_1,c2_2,c2_3,c2_4,c2_5⟩:=TValue.at GR1_3.out j hjl;subst hA2;have HV2:=hide (Dat.HoldVals.bel hbw hv2);have hh2:=hbw.box b2 hl2;have hw2:=Nat.lt_of_lt_of_le hl2 (Bel.size hbw);replace c2_0:=(hh2 _).trans c2_0;replace c2_1:=(hh2 _).trans c2_1;replace c2_2:=(hh2 _).trans c2_2;replace c2_3:=(hh2 _).trans c2_3;replace c2_4:=(hh2 _).trans c2_4;replace c2_5:=(hh2 _).trans c2_5;have HX2:=hide hx2;clear hh2 hv2 hx2 hS2)
 have dm:decide ((m:Int)<(x2.length:Int))=true:=by simp;omega
 have dj:decide ((j:Int)<(x1_3.length:Int))=true:=by simp;omega
 have hne1:¬b1=w.heap.size:=by omega
 have hne2:¬b2=w.heap.size:=by omega
 have hne3:¬b1=w.heap.size+1:=by omega
 have hne4:¬b2=w.heap.size+1:=by omega
 have hqn1:¬q=w.heap.size+1:=by omega
 have RR:=hide (show rdV (TStore.mk x0 x1 x2 x3 x4 x5 x6 x7 x8 x9 x10 x11 x12) ⟨13,m,j,t,lo,hi⟩=(⟨x2_0,x2_1,x2_2,x2_3,x2_4,x2_5⟩,0) by unfold rdV;rw[if_pos (by simp)];simp only[Int.toNat_natCast];rw[objAt_get (by exact hm)];show (vAt (TObject.items x2[m]) j,(0:Int))=_;rw[HX1.out];show (vAt x1_3 j,(0:Int))=_;rw[vAt_get hjl,HX2.out];rfl)
 exact rk29
set_option maxHeartbeats 4000000 in
theorem specRd_16 (n i:Int) (t:ByteArray) (lo hi:Int) (s:TStore) (hin:inB s ⟨16,n,i,t,lo,hi⟩=true):RdC 45 s ⟨16,n,i,t,lo,hi⟩:=by
 intro S q w hs hv
 obtain⟨x0,x1,x2,x3,x4,x5,x6,x7,x8,x9,x10,x11,x12⟩:=s
 have HSt:=hide hs
 obtain⟨A0,c0,A1,c1,A2,c2,A3,c3,A6,c6,A7,c7,A8,c8,hq,e0,e1,e2,e3,e4,e5,e6,e7,e8,e9,e10,e11,e12,hlc0,hcm0,hlc1,hcm1,hlc2,hcm2,hlc3,hcm3,hlc6,hcm6,hlc7,hcm7,hlc8,hcm8,g4,g5,g10,g11,g12,-,-,HR2,-,-,-,-⟩:=StoreAt.opn hs
 clear hs
 have hqn:¬q=w.heap.size:=by omega
 have hts:=hv.t
 unfold maxLen at hts
 simp only at hts
 have hbw:Bel w w:=Bel.refl w
 obtain⟨m,rfl,hm,hkd,hi1⟩:=in_obj hin (by omega)
 have hi0:=well_i (inB_well hin) (by omega)
 obtain⟨j,rfl⟩:=Int.eq_ofNat_of_zero_le hi0
 have hj:=hi1 (by omega)
 clear hin hi1 hkd hi0
 simp only[TStore.objects_mk]at hm hj
 (obtain⟨b1,o1,x1_0,x1_1,x1_2,x1_3,x1_4,A1_3,C1_3,A1_4,C1_4,hA1,hS1,hl1,hx1,hv1,g1_0,g1_1,g1_2,g1_3,g1_4,c1_0,c1_1,c1_2,c1_3,c1_4⟩:=TObject.at HR2.out m hm;subst hA1;have HV1:=hide (Dat.HoldVals.bel hbw hv1);have hh1:=hbw.box b1 hl1;have hw1:=Nat.lt_of_lt_of_le hl1 (Bel.size hbw);replace c1_0:=(hh1 _).trans c1_0;replace c1_1:=(hh1 _).trans c1_1;replace c1_2:=(hh1 _).trans c1_2;replace c1_3:=(hh1 _).trans c1_3;replace c1_4:=(hh1 _).trans c1_4;have HX1:=hide hx1;have GR1_3:=hide g1_3;have GR1_4:=hide g1_4;clear hh1 hv1 hx1 hS1 g1_3 g1_4)
 have hjl:j<x1_3.length:=by have:=HX1.out;rw[this]at hj;exact Int.ofNat_lt.1 hj
 clear hj
 have hll:=GR1_3.out.1
 have hlm:=GR1_3.out.2.1
 simp only[List.length_map]at hll
 unfold maxLen at hlm
 (obtain⟨b2,o2,x2_0,x2_1,x2_2,x2_3,x2_4,x2_5,hA2,hS2,hl2,hx2,hv2,g2_0,g2_1,g2_2,g2_3,g2_4,g2_5,c2_0,c2_1,c2_2,c2_3,c2_4,c2_5⟩:=TValue.at GR1_3.out j hjl;subst hA2;have HV2:=hide (Dat.HoldVals.bel hbw hv2);have hh2:=hbw.box b2 hl2;have hw2:=Nat.lt_of_lt_of_le hl2 (Bel.size hbw);replace c2_0:=(hh2 _).trans c2_0;replace c2_1:=(hh2 _).trans c2_1;replace c2_2:=(hh2 _).trans c2_2;replace c2_3:=(hh2 _).trans c2_3;replace c2_4:=(hh2 _).trans c2_4;replace c2_5:=(hh2 _).trans c2_5;have HX2:=hide hx2;clear hh2 hv2 hx2 hS2)
 have dm:decide ((m:Int)<(x2.length:Int))=true:=by simp;omega
 have dj:decide ((j:Int)<(x1_3.length:Int))=true:=by simp;omega
 have hne1:¬b1=w.heap.size:=by omega
 have hne2:¬b2=w.heap.size:=by omega
 have hne3:¬b1=w.heap.size+1:=by omega
 have hne4:¬b2=w.heap.size+1:=by omega
 have hqn1:¬q=w.heap.size+1:=by omega
 have RR:=hide (show rdV (TStore.mk x0 x1 x2 x3 x4 x5 x6 x7 x8 x9 x10 x11 x12) ⟨16,m,j,t,lo,hi⟩=(⟨x2_0,x2_1,x2_2,x2_3,x2_4,x2_5⟩,0) by unfold rdV;rw[if_pos (by simp)];simp only[Int.toNat_natCast];rw[objAt_get (by exact hm)];show (vAt (TObject.items x2[m]) j,(0:Int))=_;rw[HX1.out];show (vAt x1_3 j,(0:Int))=_;rw[vAt_get hjl,HX2.out];rfl)
 exact rk29
set_option maxHeartbeats 4000000 in
theorem specRd_14 (n i:Int) (t:ByteArray) (lo hi:Int) (s:TStore) (hin:inB s ⟨14,n,i,t,lo,hi⟩=true):RdC 45 s ⟨14,n,i,t,lo,hi⟩:=by
 intro S q w hs hv
 obtain⟨x0,x1,x2,x3,x4,x5,x6,x7,x8,x9,x10,x11,x12⟩:=s
 have HSt:=hide hs
 obtain⟨A0,c0,A1,c1,A2,c2,A3,c3,A6,c6,A7,c7,A8,c8,hq,e0,e1,e2,e3,e4,e5,e6,e7,e8,e9,e10,e11,e12,hlc0,hcm0,hlc1,hcm1,hlc2,hcm2,hlc3,hcm3,hlc6,hcm6,hlc7,hcm7,hlc8,hcm8,g4,g5,g10,g11,g12,-,-,-,HR3,-,-,-⟩:=StoreAt.opn hs
 clear hs
 have hqn:¬q=w.heap.size:=by omega
 have hts:=hv.t
 unfold maxLen at hts
 simp only at hts
 have hbw:Bel w w:=Bel.refl w
 have hi0:=well_i (inB_well hin) (by omega)
 obtain⟨j,rfl⟩:=Int.eq_ofNat_of_zero_le hi0
 have hj:=in_glo hin
 simp only[TStore.globals_mk]at hj
 have hjl:j<x3.length:=by omega
 clear hin hi0
 (obtain⟨b2,o2,x2_0,x2_1,x2_2,x2_3,x2_4,x2_5,hA2,hS2,hl2,hx2,hv2,g2_0,g2_1,g2_2,g2_3,g2_4,g2_5,c2_0,c2_1,c2_2,c2_3,c2_4,c2_5⟩:=TValue.at HR3.out j hjl;subst hA2;have HV2:=hide (Dat.HoldVals.bel hbw hv2);have hh2:=hbw.box b2 hl2;have hw2:=Nat.lt_of_lt_of_le hl2 (Bel.size hbw);replace c2_0:=(hh2 _).trans c2_0;replace c2_1:=(hh2 _).trans c2_1;replace c2_2:=(hh2 _).trans c2_2;replace c2_3:=(hh2 _).trans c2_3;replace c2_4:=(hh2 _).trans c2_4;replace c2_5:=(hh2 _).trans c2_5;have HX2:=hide hx2;clear hh2 hv2 hx2 hS2)
 have hne2:¬b2=w.heap.size:=by omega
 have hne4:¬b2=w.heap.size+1:=by omega
 have hqn1:¬q=w.heap.size+1:=by omega
 have RR:=hide (show rdV (TStore.mk x0 x1 x2 x3 x4 x5 x6 x7 x8 x9 x10 x11 x12) ⟨14,n,j,t,lo,hi⟩=(⟨x2_0,x2_1,x2_2,x2_3,x2_4,x2_5⟩,0) by unfold rdV;rw[if_neg (by simp),if_pos rfl];simp only[Int.toNat_natCast,TStore.globals_mk];rw[vAt_get hjl,HX2.out];rfl)
 go_enter Tryz.func45,Tryz.ntmps45
 go_wp2_with (fail)
 repeat (any_goals (go_quiet (fail);(try go_wp2_with (fail))))
 go_region_held3 (fun w'=>w'.cell? ⟨w.heap.size,2,none⟩=some (.int .i64 (j:Int))∧w'.cell? ⟨q,3,none⟩=some (.slice (some ⟨b2,o2,none⟩) x3.length c3)∧w'.cell? ⟨b2,o2+j*6,none⟩=some (.int .i64 x2_0)∧w'.cell? ⟨b2,o2+j*6+1,none⟩=some (.int .i64 x2_1)∧w'.cell? ⟨b2,o2+j*6+2,none⟩=some (.int .i64 x2_2)∧w'.cell? ⟨b2,o2+j*6+3,none⟩=some (.string x2_3)∧w'.cell? ⟨b2,o2+j*6+4,none⟩=some (.int .i64 x2_4)∧w'.cell? ⟨b2,o2+j*6+5,none⟩=some (.int .i64 x2_5)) (first | exact⟨ksx9,(Bel.box (W:=w) bl q hq _).trans e3,(Bel.box (W:=w) bl b2 hl2 _).trans c2_0,(Bel.box (W:=w) bl b2 hl2 _).trans c2_1,(Bel.box (W:=w) bl b2 hl2 _).trans c2_2,(Bel.box (W:=w) bl b2 hl2 _).trans c2_3,(Bel.box (W:=w) bl b2 hl2 _).trans c2_4,(Bel.box (W:=w) bl b2 hl2 _).trans c2_5⟩) (fail)
 go_wp2_with (fail)
 repeat (any_goals (go_quiet (fail);(try go_wp2_with (fail))))
 all_goals
  exact rk190
set_option maxHeartbeats 4000000 in
theorem specRd_15 (n i:Int) (t:ByteArray) (lo hi:Int) (s:TStore) (hin:inB s ⟨15,n,i,t,lo,hi⟩=true):RdC 45 s ⟨15,n,i,t,lo,hi⟩:=by
 intro S q w hs hv
 obtain⟨x0,x1,x2,x3,x4,x5,x6,x7,x8,x9,x10,x11,x12⟩:=s
 have HSt:=hide hs
 obtain⟨A0,c0,A1,c1,A2,c2,A3,c3,A6,c6,A7,c7,A8,c8,hq,e0,e1,e2,e3,e4,e5,e6,e7,e8,e9,e10,e11,e12,hlc0,hcm0,hlc1,hcm1,hlc2,hcm2,hlc3,hcm3,hlc6,hcm6,hlc7,hcm7,hlc8,hcm8,g4,g5,g10,g11,g12,-,-,HR2,-,-,-,-⟩:=StoreAt.opn hs
 clear hs
 have hqn:¬q=w.heap.size:=by omega
 have hts:=hv.t
 unfold maxLen at hts
 simp only at hts
 have hbw:Bel w w:=Bel.refl w
 obtain⟨m,rfl,hm,hkd,hi1⟩:=in_obj hin (by omega)
 have hi0:=well_i (inB_well hin) (by omega)
 obtain⟨j,rfl⟩:=Int.eq_ofNat_of_zero_le hi0
 clear hin hi1 hkd hi0
 simp only[TStore.objects_mk]at hm
 (obtain⟨b1,o1,x1_0,x1_1,x1_2,x1_3,x1_4,A1_3,C1_3,A1_4,C1_4,hA1,hS1,hl1,hx1,hv1,g1_0,g1_1,g1_2,g1_3,g1_4,c1_0,c1_1,c1_2,c1_3,c1_4⟩:=TObject.at HR2.out m hm;subst hA1;have HV1:=hide (Dat.HoldVals.bel hbw hv1);have hh1:=hbw.box b1 hl1;have hw1:=Nat.lt_of_lt_of_le hl1 (Bel.size hbw);replace c1_0:=(hh1 _).trans c1_0;replace c1_1:=(hh1 _).trans c1_1;replace c1_2:=(hh1 _).trans c1_2;replace c1_3:=(hh1 _).trans c1_3;replace c1_4:=(hh1 _).trans c1_4;have HX1:=hide hx1;have GR1_3:=hide g1_3;have GR1_4:=hide g1_4;clear hh1 hv1 hx1 hS1 g1_3 g1_4)
 have hll:=GR1_3.out.1
 have hlm:=GR1_3.out.2.1
 simp only[List.length_map]at hll
 unfold maxLen at hlm
 have hlk:=GR1_4.out.1
 have hlkm:=GR1_4.out.2.1
 simp only[List.length_map]at hlk
 unfold maxLen at hlkm
 have dm:decide ((m:Int)<(x2.length:Int))=true:=by simp;omega
 have hne1:¬b1=w.heap.size:=by omega
 have hne3:¬b1=w.heap.size+1:=by omega
 have hqn1:¬q=w.heap.size+1:=by omega
 have RR0:=hide (show rdV (TStore.mk x0 x1 x2 x3 x4 x5 x6 x7 x8 x9 x10 x11 x12) ⟨15,m,j,t,lo,hi⟩=(if (x1_3.length:Int)≤(j:Int) then (zeroV,205) else (vAt x1_3 j,0)) by unfold rdV;rw[if_neg (by simp),if_neg (by simp),if_pos rfl];simp only[Int.toNat_natCast];rw[objAt_get (by exact hm)];show (if ((TObject.items x2[m]).length:Int)≤(j:Int) then (zeroV,205) else (vAt (TObject.items x2[m]) j,(0:Int)))=_;rw[HX1.out];rfl)
 by_cases hjl:j<x1_3.length
 ·
  have dj:decide (x1_3.length≤j)=false:=by simp;omega
  have dj2:decide ((x1_3.length:Int)≤(j:Int))=false:=by simp;omega
  (obtain⟨b2,o2,x2_0,x2_1,x2_2,x2_3,x2_4,x2_5,hA2,hS2,hl2,hx2,hv2,g2_0,g2_1,g2_2,g2_3,g2_4,g2_5,c2_0,c2_1,c2_2,c2_3,c2_4,c2_5⟩:=TValue.at GR1_3.out j hjl;subst hA2;have HV2:=hide (Dat.HoldVals.bel hbw hv2);have hh2:=hbw.box b2 hl2;have hw2:=Nat.lt_of_lt_of_le hl2 (Bel.size hbw);replace c2_0:=(hh2 _).trans c2_0;replace c2_1:=(hh2 _).trans c2_1;replace c2_2:=(hh2 _).trans c2_2;replace c2_3:=(hh2 _).trans c2_3;replace c2_4:=(hh2 _).trans c2_4;replace c2_5:=(hh2 _).trans c2_5;have HX2:=hide hx2;clear hh2 hv2 hx2 hS2)
  have hne2:¬b2=w.heap.size:=by omega
  have hne4:¬b2=w.heap.size+1:=by omega
  have RR:=hide (show rdV (TStore.mk x0 x1 x2 x3 x4 x5 x6 x7 x8 x9 x10 x11 x12) ⟨15,m,j,t,lo,hi⟩=(⟨x2_0,x2_1,x2_2,x2_3,x2_4,x2_5⟩,0) by rw[RR0.out,if_neg (by omega),vAt_get hjl,HX2.out];rfl)
  have hne5:¬b1=w.heap.size+1+1:=by omega
  have hne6:¬b2=w.heap.size+1+1:=by omega
  go_enter Tryz.func45,Tryz.ntmps45
  go_wp2_with (fail)
  repeat (any_goals (go_quiet (fail);(try go_wp2_with (fail))))
  have nl_b1_0:b1<w.heap.size:=by omega
  have nv_b1_0:¬b1=w.heap.size:=by omega
  have nl_b1_1:b1<w.heap.size+1:=by omega
  have nv_b1_1:¬b1=w.heap.size+1:=by omega
  have nl_b1_2:b1<w.heap.size+1+1:=by omega
  have nv_b1_2:¬b1=w.heap.size+1+1:=by omega
  have nk_b1_2:b1<w.heap.size+2:=by omega
  have nl_q_0:q<w.heap.size:=by omega
  have nv_q_0:¬q=w.heap.size:=by omega
  have nl_q_1:q<w.heap.size+1:=by omega
  have nv_q_1:¬q=w.heap.size+1:=by omega
  have nl_q_2:q<w.heap.size+1+1:=by omega
  have nv_q_2:¬q=w.heap.size+1+1:=by omega
  have nk_q_2:q<w.heap.size+2:=by omega
  have nl_b2_0:b2<w.heap.size:=by omega
  have nv_b2_0:¬b2=w.heap.size:=by omega
  have nl_b2_1:b2<w.heap.size+1:=by omega
  have nv_b2_1:¬b2=w.heap.size+1:=by omega
  have nl_b2_2:b2<w.heap.size+1+1:=by omega
  have nv_b2_2:¬b2=w.heap.size+1+1:=by omega
  have nk_b2_2:b2<w.heap.size+2:=by omega
  go_region_held3 (fun w'=>w'.cell? ⟨w.heap.size,1,none⟩=some (.int .i64 (m:Int))∧w'.cell? ⟨q,2,none⟩=some (.slice (some ⟨b1,o1,none⟩) x2.length c2)∧w'.cell? ⟨b1,o1+m*5,none⟩=some (.int .i64 x1_0)∧w'.cell? ⟨b1,o1+m*5+1,none⟩=some (.int .i64 x1_1)∧w'.cell? ⟨b1,o1+m*5+2,none⟩=some (.int .i64 x1_2)∧w'.cell? ⟨b1,o1+m*5+3,none⟩=some (.slice (some ⟨b2,o2,none⟩) x1_3.length C1_3)∧w'.cell? ⟨b1,o1+m*5+4,none⟩=some (.slice A1_4 x1_4.length C1_4)) (first | exact⟨ksx9,(Bel.box (W:=w) bl q hq _).trans e2,(Bel.box (W:=w) bl b1 hl1 _).trans c1_0,(Bel.box (W:=w) bl b1 hl1 _).trans c1_1,(Bel.box (W:=w) bl b1 hl1 _).trans c1_2,(Bel.box (W:=w) bl b1 hl1 _).trans c1_3,(Bel.box (W:=w) bl b1 hl1 _).trans c1_4⟩) (fail)
  go_wp2_with (fail)
  repeat (any_goals (go_quiet (fail);(try go_wp2_with (fail))))
  all_goals
   exact rk190
 ·
  have dj:decide (x1_3.length≤j)=true:=by simp;omega
  have dj2:decide ((x1_3.length:Int)≤(j:Int))=true:=by simp;omega
  have RR:=hide (show rdV (TStore.mk x0 x1 x2 x3 x4 x5 x6 x7 x8 x9 x10 x11 x12) ⟨15,m,j,t,lo,hi⟩=(zeroV,205) by rw[RR0.out,if_pos (by omega)])
  go_enter Tryz.func45,Tryz.ntmps45
  go_wp2_with (fail)
  repeat (any_goals (go_quiet (fail);(try go_wp2_with (fail))))
  have nl_b1_0:b1<w.heap.size:=by omega
  have nv_b1_0:¬b1=w.heap.size:=by omega
  have nl_b1_1:b1<w.heap.size+1:=by omega
  have nv_b1_1:¬b1=w.heap.size+1:=by omega
  have nl_b1_2:b1<w.heap.size+1+1:=by omega
  have nv_b1_2:¬b1=w.heap.size+1+1:=by omega
  have nk_b1_2:b1<w.heap.size+2:=by omega
  have nl_q_0:q<w.heap.size:=by omega
  have nv_q_0:¬q=w.heap.size:=by omega
  have nl_q_1:q<w.heap.size+1:=by omega
  have nv_q_1:¬q=w.heap.size+1:=by omega
  have nl_q_2:q<w.heap.size+1+1:=by omega
  have nv_q_2:¬q=w.heap.size+1+1:=by omega
  have nk_q_2:q<w.heap.size+2:=by omega
  go_region_held3 (fun w'=>w'.cell? ⟨w.heap.size,1,none⟩=some (.int .i64 (m:Int))∧w'.cell? ⟨q,2,none⟩=some (.slice (some ⟨b1,o1,none⟩) x2.length c2)∧w'.cell? ⟨b1,o1+m*5,none⟩=some (.int .i64 x1_0)∧w'.cell? ⟨b1,o1+m*5+1,none⟩=some (.int .i64 x1_1)∧w'.cell? ⟨b1,o1+m*5+2,none⟩=some (.int .i64 x1_2)∧w'.cell? ⟨b1,o1+m*5+3,none⟩=some (.slice A1_3 x1_3.length C1_3)∧w'.cell? ⟨b1,o1+m*5+4,none⟩=some (.slice A1_4 x1_4.length C1_4)) (first | exact⟨ksx9,(Bel.box (W:=w) bl q hq _).trans e2,(Bel.box (W:=w) bl b1 hl1 _).trans c1_0,(Bel.box (W:=w) bl b1 hl1 _).trans c1_1,(Bel.box (W:=w) bl b1 hl1 _).trans c1_2,(Bel.box (W:=w) bl b1 hl1 _).trans c1_3,(Bel.box (W:=w) bl b1 hl1 _).trans c1_4⟩) (fail)
  go_wp2_with (fail)
  repeat (any_goals (go_quiet (fail);(try go_wp2_with (fail))))
  all_goals
   refine bodyPost_ret (v:=.tuple #[.agg #[.int .i64 0,.int .i64 0,.int .i64 0,.string ByteArray.empty,.int .i64 0,.int .i64 0],.int .i64 205]) (by simp[results,Tryz.results45,go_sem] <;> rfl) rfl ⟨?_,bl⟩
   rw[RR.out];first | done | rfl
set_option maxHeartbeats 4000000 in
theorem specRd_17 (n i:Int) (t:ByteArray) (lo hi:Int) (s:TStore) (hval:validB s=true) (hin:inB s ⟨17,n,i,t,lo,hi⟩=true):RdC 45 s ⟨17,n,i,t,lo,hi⟩:=by
 intro S q w hs hv
 obtain⟨x0,x1,x2,x3,x4,x5,x6,x7,x8,x9,x10,x11,x12⟩:=s
 have HSt:=hide hs
 obtain⟨A0,c0,A1,c1,A2,c2,A3,c3,A6,c6,A7,c7,A8,c8,hq,e0,e1,e2,e3,e4,e5,e6,e7,e8,e9,e10,e11,e12,hlc0,hcm0,hlc1,hcm1,hlc2,hcm2,hlc3,hcm3,hlc6,hcm6,hlc7,hcm7,hlc8,hcm8,g4,g5,g10,g11,g12,-,-,HR2,-,-,-,-⟩:=StoreAt.opn hs
 clear hs
 have hqn:¬q=w.heap.size:=by omega
 have hts:=hv.t
 unfold maxLen at hts
 simp only at hts
 have hbw:Bel w w:=Bel.refl w
 obtain⟨m,rfl,hm,hkd,-⟩:=in_obj hin (by omega)
 rw[kindI_17]at hkd
 obtain⟨tag,ser,a,b,he,ha5,hina,hinb⟩:=entry_of hval hm hkd
 obtain⟨a0,a1,a2,a3,a4,a5⟩:=a
 obtain rfl:a0=5:=ha5
 obtain⟨m2,rfl,hm2,hkd2,-⟩:=in_obj (k:=5) hina (by omega)
 rw[kindI_5]at hkd2
 obtain⟨tag2,ser2,its,keys,ht,hlen⟩:=table_of hval hm2 hkd2
 clear hin hkd hina hinb hkd2 hval
 simp only[TStore.objects_mk]at hm hm2 he ht
 (obtain⟨b1,o1,x1_0,x1_1,x1_2,x1_3,x1_4,A1_3,C1_3,A1_4,C1_4,hA1,hS1,hl1,hx1,hv1,g1_0,g1_1,g1_2,g1_3,g1_4,c1_0,c1_1,c1_2,c1_3,c1_4⟩:=TObject.at HR2.out m hm;subst hA1;have HV1:=hide (Dat.HoldVals.bel hbw hv1);have hh1:=hbw.box b1 hl1;have hw1:=Nat.lt_of_lt_of_le hl1 (Bel.size hbw);replace c1_0:=(hh1 _).trans c1_0;replace c1_1:=(hh1 _).trans c1_1;replace c1_2:=(hh1 _).trans c1_2;replace c1_3:=(hh1 _).trans c1_3;replace c1_4:=(hh1 _).trans c1_4;have HX1:=hide hx1;have GR1_3:=hide g1_3;have GR1_4:=hide g1_4;clear hh1 hv1 hx1 hS1 g1_3 g1_4)
 obtain⟨rfl,rfl,rfl,rfl,rfl⟩:=TObject.mk.inj (he.symm.trans HX1.out)
 (obtain⟨b3,o3,x3_0,x3_1,x3_2,x3_3,x3_4,x3_5,hA3,hS3,hl3,hx3,hv3,g3_0,g3_1,g3_2,g3_3,g3_4,g3_5,c3_0,c3_1,c3_2,c3_3,c3_4,c3_5⟩:=TValue.at GR1_3.out 0 (by simp);subst hA3;have HV3:=hide (Dat.HoldVals.bel hbw hv3);have hh3:=hbw.box b3 hl3;have hw3:=Nat.lt_of_lt_of_le hl3 (Bel.size hbw);replace c3_0:=(hh3 _).trans c3_0;replace c3_1:=(hh3 _).trans c3_1;replace c3_2:=(hh3 _).trans c3_2;replace c3_3:=(hh3 _).trans c3_3;replace c3_4:=(hh3 _).trans c3_4;replace c3_5:=(hh3 _).trans c3_5;have HX3:=hide hx3;clear hh3 hv3 hx3 hS3;simp only[Nat.zero_mul,Nat.one_mul,Nat.add_zero,Nat.reduceMul,Nat.add_assoc,Nat.reduceAdd]at c3_0 c3_1 c3_2 c3_3 c3_4 c3_5)
 (obtain⟨b4,o4,x4_0,x4_1,x4_2,x4_3,x4_4,x4_5,hA4,hS4,hl4,hx4,hv4,g4_0,g4_1,g4_2,g4_3,g4_4,g4_5,c4_0,c4_1,c4_2,c4_3,c4_4,c4_5⟩:=TValue.at GR1_3.out 1 (by simp);injection Option.some.inj hA4 with qb4 qo4 _;subst qb4 qo4;have HV4:=hide (Dat.HoldVals.bel hbw hv4);have hh4:=hbw.box b3 hl4;have hw4:=Nat.lt_of_lt_of_le hl4 (Bel.size hbw);replace c4_0:=(hh4 _).trans c4_0;replace c4_1:=(hh4 _).trans c4_1;replace c4_2:=(hh4 _).trans c4_2;replace c4_3:=(hh4 _).trans c4_3;replace c4_4:=(hh4 _).trans c4_4;replace c4_5:=(hh4 _).trans c4_5;have HX4:=hide hx4;clear hh4 hv4 hx4 hS4;simp only[Nat.zero_mul,Nat.one_mul,Nat.add_zero,Nat.reduceMul,Nat.add_assoc,Nat.reduceAdd]at c4_0 c4_1 c4_2 c4_3 c4_4 c4_5)
 obtain⟨rfl,rfl,rfl,rfl,rfl,rfl⟩:=TValue.mk.inj (show TValue.mk 5 m2 a2 a3 a4 a5=.mk x3_0 x3_1 x3_2 x3_3 x3_4 x3_5 from HX3.out)
 (obtain⟨b5,o5,x5_0,x5_1,x5_2,x5_3,x5_4,A5_3,C5_3,A5_4,C5_4,hA5,hS5,hl5,hx5,hv5,g5_0,g5_1,g5_2,g5_3,g5_4,c5_0,c5_1,c5_2,c5_3,c5_4⟩:=TObject.at HR2.out m2 hm2;injection Option.some.inj hA5 with qb5 qo5 _;subst qb5 qo5;have HV5:=hide (Dat.HoldVals.bel hbw hv5);have hh5:=hbw.box b1 hl5;have hw5:=Nat.lt_of_lt_of_le hl5 (Bel.size hbw);replace c5_0:=(hh5 _).trans c5_0;replace c5_1:=(hh5 _).trans c5_1;replace c5_2:=(hh5 _).trans c5_2;replace c5_3:=(hh5 _).trans c5_3;replace c5_4:=(hh5 _).trans c5_4;have HX5:=hide hx5;have GR5_3:=hide g5_3;have GR5_4:=hide g5_4;clear hh5 hv5 hx5 hS5 g5_3 g5_4)
 obtain⟨rfl,rfl,rfl,rfl,rfl⟩:=TObject.mk.inj (ht.symm.trans HX5.out)
 obtain⟨d,hd,hdl⟩:=idxV_bd keys b.v
 have hdi:d<its.length:=by omega
 have hll:=GR5_3.out.1
 have hlm:=GR5_3.out.2.1
 simp only[List.length_map]at hll
 unfold maxLen at hlm
 have hlk:=GR5_4.out.1
 have hlkm:=GR5_4.out.2.1
 simp only[List.length_map]at hlk
 unfold maxLen at hlkm
 (obtain⟨b6,o6,x6_0,x6_1,x6_2,x6_3,x6_4,x6_5,hA6,hS6,hl6,hx6,hv6,g6_0,g6_1,g6_2,g6_3,g6_4,g6_5,c6_0,c6_1,c6_2,c6_3,c6_4,c6_5⟩:=TValue.at GR5_3.out d hdi;subst hA6;have HV6:=hide (Dat.HoldVals.bel hbw hv6);have hh6:=hbw.box b6 hl6;have hw6:=Nat.lt_of_lt_of_le hl6 (Bel.size hbw);replace c6_0:=(hh6 _).trans c6_0;replace c6_1:=(hh6 _).trans c6_1;replace c6_2:=(hh6 _).trans c6_2;replace c6_3:=(hh6 _).trans c6_3;replace c6_4:=(hh6 _).trans c6_4;replace c6_5:=(hh6 _).trans c6_5;have HX6:=hide hx6;clear hh6 hv6 hx6 hS6)
 obtain rfl:b=.mk x4_0 x4_1 x4_2 x4_3 x4_4 x4_5:=HX4.out
 have RR:=hide (show rdV (TStore.mk x0 x1 x2 x3 x4 x5 x6 x7 x8 x9 x10 x11 x12) ⟨17,m,i,t,lo,hi⟩=(⟨x6_0,x6_1,x6_2,x6_3,x6_4,x6_5⟩,0) by
  have q1:objAt (TStore.mk x0 x1 x2 x3 x4 x5 x6 x7 x8 x9 x10 x11 x12) (m:Int)=.mk 8 tag ser [.mk 5 m2 a2 a3 a4 a5,.mk x4_0 x4_1 x4_2 x4_3 x4_4 x4_5] []:=(objAt_get (s:=(TStore.mk x0 x1 x2 x3 x4 x5 x6 x7 x8 x9 x10 x11 x12)) hm).trans he
  have q2:objAt (TStore.mk x0 x1 x2 x3 x4 x5 x6 x7 x8 x9 x10 x11 x12) (m2:Int)=.mk 3 tag2 ser2 its keys:=(objAt_get (s:=(TStore.mk x0 x1 x2 x3 x4 x5 x6 x7 x8 x9 x10 x11 x12)) hm2).trans ht
  unfold rdV;rw[if_neg (by simp),if_neg (by simp),if_neg (by simp),if_pos rfl]
  simp only[q1,TObject.items,vAt_0,vAt_1,TValue.v_mk,q2,TObject.keys]
  rw[TValue.v_mk]at hd
  rw[hd,Int.toNat_natCast,vAt_get hdi,HX6.out];rfl)
 rw[TValue.v_mk]at hd
 obtain⟨dm,hdm⟩:∃dm,idxV keys ⟨x4_0,x4_1,x4_2,x4_3,x4_4,x4_5⟩=dm:=⟨_,rfl⟩
 rw[hdm]at hd
 have HD:=hide hdm
 have sm:IntKind.i64.wrap (1+dm)=(d:Int):=by rw[IntKind.wrap_i64] <;> omega
 have hd0:(0:Int)≤(d:Int):=by omega
 have hd1:(d:Int)<(its.length:Int):=by omega
 have hm0:(0:Int)≤(m:Int):=by omega
 have hm1:(m:Int)<(x2.length:Int):=by omega
 have hm20:(0:Int)≤(m2:Int):=by omega
 have hm21:(m2:Int)<(x2.length:Int):=by omega
 clear hd hdm he ht hlen
 have dm1:decide ((m:Int)<(x2.length:Int))=true:=by simp;omega
 have dm2:decide ((m2:Int)<(x2.length:Int))=true:=by simp;omega
 have nl_b1_0:b1<w.heap.size:=by omega
 have nv_b1_0:¬b1=w.heap.size:=by omega
 have nl_b1_1:b1<w.heap.size+1:=by omega
 have nv_b1_1:¬b1=w.heap.size+1:=by omega
 have nl_b1_2:b1<w.heap.size+1+1:=by omega
 have nv_b1_2:¬b1=w.heap.size+1+1:=by omega
 have nk_b1_2:b1<w.heap.size+2:=by omega
 have nl_b1_3:b1<w.heap.size+1+1+1:=by omega
 have nv_b1_3:¬b1=w.heap.size+1+1+1:=by omega
 have nk_b1_3:b1<w.heap.size+3:=by omega
 have nl_b3_0:b3<w.heap.size:=by omega
 have nv_b3_0:¬b3=w.heap.size:=by omega
 have nl_b3_1:b3<w.heap.size+1:=by omega
 have nv_b3_1:¬b3=w.heap.size+1:=by omega
 have nl_b3_2:b3<w.heap.size+1+1:=by omega
 have nv_b3_2:¬b3=w.heap.size+1+1:=by omega
 have nk_b3_2:b3<w.heap.size+2:=by omega
 have nl_b3_3:b3<w.heap.size+1+1+1:=by omega
 have nv_b3_3:¬b3=w.heap.size+1+1+1:=by omega
 have nk_b3_3:b3<w.heap.size+3:=by omega
 have nl_b6_0:b6<w.heap.size:=by omega
 have nv_b6_0:¬b6=w.heap.size:=by omega
 have nl_b6_1:b6<w.heap.size+1:=by omega
 have nv_b6_1:¬b6=w.heap.size+1:=by omega
 have nl_b6_2:b6<w.heap.size+1+1:=by omega
 have nv_b6_2:¬b6=w.heap.size+1+1:=by omega
 have nk_b6_2:b6<w.heap.size+2:=by omega
 have nl_b6_3:b6<w.heap.size+1+1+1:=by omega
 have nv_b6_3:¬b6=w.heap.size+1+1+1:=by omega
 have nk_b6_3:b6<w.heap.size+3:=by omega
 have nl_q_0:q<w.heap.size:=by omega
 have nv_q_0:¬q=w.heap.size:=by omega
 have nl_q_1:q<w.heap.size+1:=by omega
 have nv_q_1:¬q=w.heap.size+1:=by omega
 have nl_q_2:q<w.heap.size+1+1:=by omega
 have nv_q_2:¬q=w.heap.size+1+1:=by omega
 have nk_q_2:q<w.heap.size+2:=by omega
 have nl_q_3:q<w.heap.size+1+1+1:=by omega
 have nv_q_3:¬q=w.heap.size+1+1+1:=by omega
 have nk_q_3:q<w.heap.size+3:=by omega
 go_enter Tryz.func45,Tryz.ntmps45
 go_wp2_with (fail)
 repeat (any_goals (go_quiet (fail);(try go_wp2_with (fail))))
 go_region_held3 (fun w'=>w'.cell? ⟨w.heap.size,1,none⟩=some (.int .i64 (m:Int))∧w'.cell? ⟨q,2,none⟩=some (.slice (some ⟨b1,o1,none⟩) x2.length c2)∧w'.cell? ⟨b1,o1+m*5,none⟩=some (.int .i64 8)∧w'.cell? ⟨b1,o1+m*5+1,none⟩=some (.int .i64 tag)∧w'.cell? ⟨b1,o1+m*5+2,none⟩=some (.int .i64 ser)∧w'.cell? ⟨b1,o1+m*5+3,none⟩=some (.slice (some ⟨b3,o3,none⟩) 2 C1_3)∧w'.cell? ⟨b1,o1+m*5+4,none⟩=some (.slice A1_4 0 C1_4)) (first | exact⟨ksx9,(Bel.box (W:=w) bl q hq _).trans e2,(Bel.box (W:=w) bl b1 hl1 _).trans c1_0,(Bel.box (W:=w) bl b1 hl1 _).trans c1_1,(Bel.box (W:=w) bl b1 hl1 _).trans c1_2,(Bel.box (W:=w) bl b1 hl1 _).trans c1_3,(Bel.box (W:=w) bl b1 hl1 _).trans c1_4⟩) (fail)
 go_wp2_with (fail)
 repeat (any_goals (go_quiet (fail);(try go_wp2_with (fail))))
 go_region_held3 (fun w'=>w'.cell? ⟨q,2,none⟩=some (.slice (some ⟨b1,o1,none⟩) x2.length c2)∧w'.cell? ⟨w.heap.size+1+1,3,none⟩=some (.slice (some ⟨b3,o3,none⟩) 2 C1_3)∧w'.cell? ⟨b3,o3+1,none⟩=some (.int .i64 (m2:Int))∧w'.cell? ⟨b1,o1+m2*5,none⟩=some (.int .i64 3)∧w'.cell? ⟨b1,o1+m2*5+1,none⟩=some (.int .i64 tag2)∧w'.cell? ⟨b1,o1+m2*5+2,none⟩=some (.int .i64 ser2)∧w'.cell? ⟨b1,o1+m2*5+3,none⟩=some (.slice (some ⟨b6,o6,none⟩) its.length C5_3)∧w'.cell? ⟨b1,o1+m2*5+4,none⟩=some (.slice A5_4 keys.length C5_4)) (first | exact⟨(Bel.box (W:=w) bl q hq _).trans e2,ksx9,(Bel.box (W:=w) bl b3 hl3 _).trans c3_1,(Bel.box (W:=w) bl b1 hl1 _).trans c5_0,(Bel.box (W:=w) bl b1 hl1 _).trans c5_1,(Bel.box (W:=w) bl b1 hl1 _).trans c5_2,(Bel.box (W:=w) bl b1 hl1 _).trans c5_3,(Bel.box (W:=w) bl b1 hl1 _).trans c5_4⟩) (fail)
 go_wp2_with (fail)
 repeat (any_goals (go_quiet (fail);(try go_wp2_with (fail))))
 go_region_held3 (fun w'=>w'.cell? ⟨w.heap.size+1+1+1,0,none⟩=some (.int .i64 3)∧w'.cell? ⟨w.heap.size+1+1+1,1,none⟩=some (.int .i64 tag2)∧w'.cell? ⟨w.heap.size+1+1+1,2,none⟩=some (.int .i64 ser2)∧w'.cell? ⟨w.heap.size+1+1+1,3,none⟩=some (.slice (some ⟨b6,o6,none⟩) its.length C5_3)∧w'.cell? ⟨w.heap.size+1+1+1,4,none⟩=some (.slice A5_4 keys.length C5_4)∧w'.cell? ⟨w.heap.size+1+1,3,none⟩=some (.slice (some ⟨b3,o3,none⟩) 2 C1_3)∧w'.cell? ⟨b3,o3+6,none⟩=some (.int .i64 x4_0)∧w'.cell? ⟨b3,o3+7,none⟩=some (.int .i64 x4_1)∧w'.cell? ⟨b3,o3+8,none⟩=some (.int .i64 x4_2)∧w'.cell? ⟨b3,o3+9,none⟩=some (.string x4_3)∧w'.cell? ⟨b3,o3+10,none⟩=some (.int .i64 x4_4)∧w'.cell? ⟨b3,o3+11,none⟩=some (.int .i64 x4_5)∧w'.cell? ⟨b6,o6+d*6,none⟩=some (.int .i64 x6_0)∧w'.cell? ⟨b6,o6+d*6+1,none⟩=some (.int .i64 x6_1)∧w'.cell? ⟨b6,o6+d*6+2,none⟩=some (.int .i64 x6_2)∧w'.cell? ⟨b6,o6+d*6+3,none⟩=some (.string x6_3)∧w'.cell? ⟨b6,o6+d*6+4,none⟩=some (.int .i64 x6_4)∧w'.cell? ⟨b6,o6+d*6+5,none⟩=some (.int .i64 x6_5)) (first | exact⟨ksx9,ksx9,ksx9,ksx9,ksx9,ksx9,(Bel.box (W:=w) bl b3 hl3 _).trans c4_0,(Bel.box (W:=w) bl b3 hl3 _).trans c4_1,(Bel.box (W:=w) bl b3 hl3 _).trans c4_2,(Bel.box (W:=w) bl b3 hl3 _).trans c4_3,(Bel.box (W:=w) bl b3 hl3 _).trans c4_4,(Bel.box (W:=w) bl b3 hl3 _).trans c4_5,(Bel.box (W:=w) bl b6 hl6 _).trans c6_0,(Bel.box (W:=w) bl b6 hl6 _).trans c6_1,(Bel.box (W:=w) bl b6 hl6 _).trans c6_2,(Bel.box (W:=w) bl b6 hl6 _).trans c6_3,(Bel.box (W:=w) bl b6 hl6 _).trans c6_4,(Bel.box (W:=w) bl b6 hl6 _).trans c6_5⟩) (first | (go_at_call 84;(with_reducible refine (key_any 3 tag2 ser2 its keys ⟨x4_0,x4_1,x4_2,x4_3,x4_4,x4_5⟩ S _ _ _ _ _ (Row.bel bl GR5_4.out) ⟨g4_0,g4_1,g4_2,g4_3,g4_4,g4_5⟩).mono ?_);rintro e wk ⟨rfl,hbk⟩;rw[HD.out];(have hzk:=hbk.sz;obtain⟨hkk_0,hfk_0,hlk_0,hnk_0⟩:=hbk.lay (w.heap.size);obtain⟨hkk_1,hfk_1,hlk_1,hnk_1⟩:=hbk.lay (w.heap.size+1);obtain⟨hkk_2,hfk_2,hlk_2,hnk_2⟩:=hbk.lay (w.heap.size+1+1);obtain⟨hkk_3,hfk_3,hlk_3,hnk_3⟩:=hbk.lay (w.heap.size+1+1+1);obtain⟨hkk_4,hfk_4,hlk_4,hnk_4⟩:=hbk.lay (q);obtain⟨hkk_5,hfk_5,hlk_5,hnk_5⟩:=hbk.lay (b1);obtain⟨hkk_6,hfk_6,hlk_6,hnk_6⟩:=hbk.lay (b3);obtain⟨hkk_7,hfk_7,hlk_7,hnk_7⟩:=hbk.lay (b6))))
 (go_wp2_with (fail))
 all_goals
  have HZ6:Z6 wk (w.heap.size+1):=⟨(by first | (simp[hkk_1];done) | (simp[go_sem,hkk_1];done) | (simp[go_sem, * ];done)),(by first | (simp[hkk_1];done) | (simp[go_sem,hkk_1];done) | (simp[go_sem, * ];done)),(by first | (simp[hkk_1];done) | (simp[go_sem,hkk_1];done) | (simp[go_sem, * ];done)),(by first | (simp[hkk_1];done) | (simp[hkk_1];rfl) | (simp[go_sem,hkk_1];done) | (simp[go_sem,hkk_1];rfl) | (simp[go_sem, * ];done) | (simp[go_sem, * ];rfl)),(by first | (simp[hkk_1];done) | (simp[go_sem,hkk_1];done) | (simp[go_sem, * ];done)),(by first | (simp[hkk_1];done) | (simp[go_sem,hkk_1];done) | (simp[go_sem, * ];done)),(fun o=>by first | (simp[hfk_1];done) | (simp[go_sem,hfk_1];done) | (simp[go_sem, * ];done)),hlk_1⟩
  have hBw:Bel w wk:=bl
  refine gen_ret6 HZ6 fun wz d0 d1 d2 d3 d4 d5 hbz=>?_
  clear hkk_0 hkk_1 hkk_2 hkk_3 hfk_0 hfk_1 hfk_2 hfk_3
  refine bodyPost_ret (v:=.tuple #[.agg #[.int .i64 x6_0,.int .i64 x6_1,.int .i64 x6_2,.string x6_3,.int .i64 x6_4,.int .i64 x6_5],.int .i64 0]) (by simp[results,Tryz.results45,go_sem,d0,d1,d2,d3,d4,d5] <;> rfl) rfl ⟨?_,hbz _ hBw (by omega)⟩
  rw[RR.out];first | done | rfl
set_option maxHeartbeats 4000000 in
theorem specRd_18 (n i:Int) (t:ByteArray) (lo hi:Int) (s:TStore):RdC 45 s ⟨18,n,i,t,lo,hi⟩:=by
 intro S q w hs hv
 obtain⟨x0,x1,x2,x3,x4,x5,x6,x7,x8,x9,x10,x11,x12⟩:=s
 have HSt:=hide hs
 obtain⟨A0,c0,A1,c1,A2,c2,A3,c3,A6,c6,A7,c7,A8,c8,hq,e0,e1,e2,e3,e4,e5,e6,e7,e8,e9,e10,e11,e12,hlc0,hcm0,hlc1,hcm1,hlc2,hcm2,hlc3,hcm3,hlc6,hcm6,hlc7,hcm7,hlc8,hcm8,g4,g5,g10,g11,g12,-,-,-,-,-,-,-⟩:=StoreAt.opn hs
 clear hs
 have hqn:¬q=w.heap.size:=by omega
 have hts:=hv.t
 unfold maxLen at hts
 simp only at hts
 have hbw:Bel w w:=Bel.refl w
 have hqn1:¬q=w.heap.size+1:=by omega
 by_cases h1:i=1
 ·
  subst h1
  have RR:=hide (show rdV (TStore.mk x0 x1 x2 x3 x4 x5 x6 x7 x8 x9 x10 x11 x12) ⟨18,n,1,t,lo,hi⟩=(⟨2,0,0,x4,0,0⟩,0) by unfold rdV;rw[if_neg (by simp),if_neg (by simp),if_neg (by simp),if_neg (by simp),if_pos rfl,if_pos rfl];rfl)
  go_enter Tryz.func45,Tryz.ntmps45
  have mkq:=True.intro
  repeat (any_goals ((first | clear mkq | go_quiet (fail));(try go_wp2_with (go_at_call 85;refine (l11TextS_any _ _).mono ?_;rintro e w1 ⟨rfl,hb1⟩;(have hz1:=hb1.sz;obtain⟨hk1_0,hf1_0,hl1_0,hn1_0⟩:=hb1.lay (w.heap.size);obtain⟨hk1_1,hf1_1,hl1_1,hn1_1⟩:=hb1.lay (w.heap.size+1);obtain⟨hk1_2,hf1_2,hl1_2,hn1_2⟩:=hb1.lay (q))))))
  all_goals
   refine bodyPost_ret (v:=.tuple #[.agg #[.int .i64 2,.int .i64 0,.int .i64 0,.string x4,.int .i64 0,.int .i64 0],.int .i64 0]) (by simp[results,Tryz.results45,go_sem,hk1_0,hf1_0,hk1_1,hf1_1] <;> rfl) rfl ⟨?_,bl⟩
   rw[RR.out];first | done | rfl
 ·
  have f1:(i==1)=false:=by simp[h1]
  have RR:=hide (show rdV (TStore.mk x0 x1 x2 x3 x4 x5 x6 x7 x8 x9 x10 x11 x12) ⟨18,n,i,t,lo,hi⟩=(⟨1,x5,0,ByteArray.empty,0,0⟩,0) by unfold rdV;rw[if_neg (by simp),if_neg (by simp),if_neg (by simp),if_neg (by simp),if_pos rfl,if_neg h1];rfl)
  go_enter Tryz.func45,Tryz.ntmps45
  have mkq:=True.intro
  repeat (any_goals ((first | clear mkq | go_quiet (fail));(try go_wp2_with (go_at_call 86;refine (l11IntS_any _ _).mono ?_;rintro e w1 ⟨rfl,hb1⟩;(have hz1:=hb1.sz;obtain⟨hk1_0,hf1_0,hl1_0,hn1_0⟩:=hb1.lay (w.heap.size);obtain⟨hk1_1,hf1_1,hl1_1,hn1_1⟩:=hb1.lay (w.heap.size+1);obtain⟨hk1_2,hf1_2,hl1_2,hn1_2⟩:=hb1.lay (q))))))
  all_goals
   refine bodyPost_ret (v:=.tuple #[.agg #[.int .i64 1,.int .i64 x5,.int .i64 0,.string ByteArray.empty,.int .i64 0,.int .i64 0],.int .i64 0]) (by simp[results,Tryz.results45,go_sem,hk1_0,hf1_0,hk1_1,hf1_1] <;> rfl) rfl ⟨?_,bl⟩
   rw[RR.out];first | done | rfl
set_option maxHeartbeats 4000000 in
theorem specRd_out (k:Int) (hk:k<13) (n i:Int) (t:ByteArray) (lo hi:Int) (s:TStore):RdC 45 s ⟨k,n,i,t,lo,hi⟩:=by
 intro S q w hs hv
 obtain⟨x0,x1,x2,x3,x4,x5,x6,x7,x8,x9,x10,x11,x12⟩:=s
 have HSt:=hide hs
 obtain⟨A0,c0,A1,c1,A2,c2,A3,c3,A6,c6,A7,c7,A8,c8,hq,e0,e1,e2,e3,e4,e5,e6,e7,e8,e9,e10,e11,e12,hlc0,hcm0,hlc1,hcm1,hlc2,hcm2,hlc3,hcm3,hlc6,hcm6,hlc7,hcm7,hlc8,hcm8,g4,g5,g10,g11,g12,-,-,-,-,-,-,-⟩:=StoreAt.opn hs
 clear hs
 have hqn:¬q=w.heap.size:=by omega
 have hts:=hv.t
 unfold maxLen at hts
 simp only at hts
 have hbw:Bel w w:=Bel.refl w
 have RR:=hide (show rdV (TStore.mk x0 x1 x2 x3 x4 x5 x6 x7 x8 x9 x10 x11 x12) ⟨k,n,i,t,lo,hi⟩=(⟨k,n,i,t,lo,hi⟩,0) by unfold rdV;rw[if_neg (by simp;omega),if_neg (by simp;omega),if_neg (by simp;omega),if_neg (by simp;omega),if_neg (by simp;omega)])
 have tk13:(k==13)=false:=by simp;omega
 have tk14:(k==14)=false:=by simp;omega
 have tk15:(k==15)=false:=by simp;omega
 have tk16:(k==16)=false:=by simp;omega
 have tk17:(k==17)=false:=by simp;omega
 have tk18:(k==18)=false:=by simp;omega
 go_enter Tryz.func45,Tryz.ntmps45
 go_wp2_with (fail)
 repeat (any_goals (go_quiet (fail);(try go_wp2_with (fail))))
 all_goals
  refine bodyPost_ret (v:=.tuple #[.agg #[.int .i64 k,.int .i64 n,.int .i64 i,.string t,.int .i64 lo,.int .i64 hi],.int .i64 0]) (by simp[results,Tryz.results45,go_sem] <;> rfl) rfl ⟨?_,bl⟩
  rw[RR.out];first | done | rfl
theorem specRd_any (s:TStore) (v:VVal) (hval:validB s=true) (hin:inB s v=true) (hk:v.k≤18):RdC 45 s v:=by
 obtain⟨k,n,i,t,lo,hi⟩:=v
 simp only at hk
 by_cases h13:k=13
 ·
  subst h13;exact specRd_13 n i t lo hi s hin
 by_cases h14:k=14
 ·
  subst h14;exact specRd_14 n i t lo hi s hin
 by_cases h15:k=15
 ·
  subst h15;exact specRd_15 n i t lo hi s hin
 by_cases h16:k=16
 ·
  subst h16;exact specRd_16 n i t lo hi s hin
 by_cases h17:k=17
 ·
  subst h17;exact specRd_17 n i t lo hi s hval hin
 by_cases h18:k=18
 ·
  subst h18;exact specRd_18 n i t lo hi s
 exact specRd_out k (by omega) n i t lo hi s
end Go.Proofs.YtehcjlkgfgpjnaaGreatDoor
