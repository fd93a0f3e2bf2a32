/- The image of a value: the program. -/
import Derived.Test.YtehcjlkgfgpjnaaGreatDoorPr
import Derived.Test.YtehcjlkgfgpjnaaGreatDoorPQc
import Derived.Test.YtehcjlkgfgpjnaaGreatDoorPR2
import Derived.Test.YtehcjlkgfgpjnaaGreatDoorPBox
import Derived.Deep.RegionHeld3
import Derived.Deep.Cut
namespace Go.Proofs.YtehcjlkgfgpjnaaGreatDoor
set_option linter.unusedVariables false
set_option linter.unusedSimpArgs false
set_option maxRecDepth 100000
open Go.RowKit
--%quiet
def SixI (w:World) (b:Nat) (x0 x1 x2 x3 x4 x5:Value):Prop:=w.cell? ⟨b,0,none⟩=some x0∧w.cell? ⟨b,1,none⟩=some x1∧w.cell? ⟨b,2,none⟩=some x2∧w.cell? ⟨b,3,none⟩=some x3∧w.cell? ⟨b,4,none⟩=some x4∧w.cell? ⟨b,5,none⟩=some x5
theorem put6_any {w:World} {b:Nat} {y0 y1 y2 y3 y4 y5:Value} (c0:w.cell? ⟨b,0,none⟩=some y0) (c1:w.cell? ⟨b,1,none⟩=some y1) (c2:w.cell? ⟨b,2,none⟩=some y2) (c3:w.cell? ⟨b,3,none⟩=some y3) (c4:w.cell? ⟨b,4,none⟩=some y4) (c5:w.cell? ⟨b,5,none⟩=some y5) (x0 x1 x2 x3 x4 x5:Value) :
  SixI (put6 w b x0 x1 x2 x3 x4 x5) b x0 x1 x2 x3 x4 x5:=by
 have n:∀i j:Nat,i≠j→(⟨b,i,none⟩:Addr)≠⟨b,j,none⟩:=fun i j h e=>h (by injection e)
 unfold put6 SixI
 refine⟨?_,?_,?_,?_,?_,?_⟩
 ·
  rw[World.cell?_setCell_other (h:=n 5 0 (by decide)),World.cell?_setCell_other (h:=n 4 0 (by decide)),World.cell?_setCell_other (h:=n 3 0 (by decide)),World.cell?_setCell_other (h:=n 2 0 (by decide)),World.cell?_setCell_other (h:=n 1 0 (by decide)),World.cell?_setCell_same (u:=y0) (h:=c0)]
 ·
  rw[World.cell?_setCell_other (h:=n 5 1 (by decide)),World.cell?_setCell_other (h:=n 4 1 (by decide)),World.cell?_setCell_other (h:=n 3 1 (by decide)),World.cell?_setCell_other (h:=n 2 1 (by decide)),World.cell?_setCell_same (u:=y1) (h:=by rw[World.cell?_setCell_other (h:=n 0 1 (by decide))];exact c1)]
 ·
  rw[World.cell?_setCell_other (h:=n 5 2 (by decide)),World.cell?_setCell_other (h:=n 4 2 (by decide)),World.cell?_setCell_other (h:=n 3 2 (by decide)),World.cell?_setCell_same (u:=y2) (h:=by rw[World.cell?_setCell_other (h:=n 1 2 (by decide)),World.cell?_setCell_other (h:=n 0 2 (by decide))];exact c2)]
 ·
  rw[World.cell?_setCell_other (h:=n 5 3 (by decide)),World.cell?_setCell_other (h:=n 4 3 (by decide)),World.cell?_setCell_same (u:=y3) (h:=by rw[World.cell?_setCell_other (h:=n 2 3 (by decide)),World.cell?_setCell_other (h:=n 1 3 (by decide)),World.cell?_setCell_other (h:=n 0 3 (by decide))];exact c3)]
 ·
  rw[World.cell?_setCell_other (h:=n 5 4 (by decide)),World.cell?_setCell_same (u:=y4) (h:=by rw[World.cell?_setCell_other (h:=n 3 4 (by decide)),World.cell?_setCell_other (h:=n 2 4 (by decide)),World.cell?_setCell_other (h:=n 1 4 (by decide)),World.cell?_setCell_other (h:=n 0 4 (by decide))];exact c4)]
 ·
  rw[World.cell?_setCell_same (u:=y5) (h:=by rw[World.cell?_setCell_other (h:=n 4 5 (by decide)),World.cell?_setCell_other (h:=n 3 5 (by decide)),World.cell?_setCell_other (h:=n 2 5 (by decide)),World.cell?_setCell_other (h:=n 1 5 (by decide)),World.cell?_setCell_other (h:=n 0 5 (by decide))];exact c5)]
theorem gen_xI {P:Program} {c:Code} {Q:Exit→Act→World→Prop} {a:Act} {W2:World} {t:TypeId} {x0 x1 x2 x3 x4 x5:Value} (h:∀w3,Bel W2 w3→w3.cell? ⟨W2.heap.size,0,none⟩=some x0→w3.cell? ⟨W2.heap.size,1,none⟩=some x1→w3.cell? ⟨W2.heap.size,2,none⟩=some x2→w3.cell? ⟨W2.heap.size,3,none⟩=some x3→w3.cell? ⟨W2.heap.size,4,none⟩=some x4→w3.cell? ⟨W2.heap.size,5,none⟩=some x5→W2.heap.size<w3.heap.size→Code.wp P c Q a w3):Code.wp P c Q a (W2.alloc (.cells #[x0,x1,x2,x3,x4,x5] t)) :=
 h _ (Bel.alloc (Bel.refl _) _) (by simp) (by simp) (by simp) (by simp) (by simp) (by simp) (by simp)
theorem makeF (P:Program):∀(fn:Fn) (first cap:Array Value) (w:World),(Instr.makeFunc fn first cap).run P w=.ok (.func fn first cap) w:=fun _ _ _ _=>rfl
set_option maxHeartbeats 1000000 in
theorem sizedC_any (nm:ByteArray) (z ser:Int) (b:Nat) (w:World) (hnm:nm.size≤1000) (hser:InI ser) (hz:InI z) (h10:P10 w) (hc:w.cell? ⟨b,2,none⟩=some (.int .i64 ser)) (hb:b<w.heap.size) :
  Calls Tryz.prog 79 #[.string nm,.int .i64 z,.pointer (some ⟨b,0,none⟩)] w fun e w'=>e=.returned (.string (nm++tailT ser z))∧Bel w w':=by
 rw[←impl_tail]
 have u1:({ data:=#[95] }:ByteArray).size≤1:=by decide
 have u3:({ data:=#[40] }:ByteArray).size≤1:=by decide
 have u5:({ data:=#[41] }:ByteArray).size≤1:=by decide
 have ga1:=run_addI hnm u1 (by omega)
 have ga2:=run_addI (add_le hnm u1) (itI_le hser) (by omega)
 have ga3:=run_addI (add_le (add_le hnm u1) (itI_le hser)) u3 (by omega)
 have ga4:=run_addI (add_le (add_le (add_le hnm u1) (itI_le hser)) u3) (itI_le hz) (by omega)
 have ga5:=run_addI (add_le (add_le (add_le (add_le hnm u1) (itI_le hser)) u3) (itI_le hz)) u5 (by omega)
 clear u1 u3 u5
 have HN:=hide hser
 have HZ:=hide hz
 have H10:=hide h10
 clear hser hz h10 hnm
 go_enter Tryz.func79,Tryz.ntmps79
 have mkq:=True.intro
 repeat (any_goals ((first | clear mkq | go_quiet (fail));(try go_wp2_with (first | (go_at_call 80;(with_reducible refine (implFmtI_any ser _ HN.out (H10.out.on bl)).mono ?_);rintro e wa ⟨rfl,hba⟩;(have hza:=hba.sz;obtain⟨hka_0,hfa_0,hla_0,hna_0⟩:=hba.lay (b))) | (go_at_call 80;(with_reducible refine (implFmtI_any z _ HZ.out (H10.out.on bl)).mono ?_);rintro e wb ⟨rfl,hbb⟩;(have hzb:=hbb.sz;obtain⟨hkb_0,hfb_0,hlb_0,hnb_0⟩:=hbb.lay (b)))))))
 all_goals
  go_returns
  exact⟨rfl,bl⟩
set_option maxHeartbeats 4000000 in
theorem implIm_0 (n i:Int) (t:ByteArray) (lo hi:Int) (s:TStore) (v:VVal) (bR:Bool) (hbR:isRef v.k=bR) (hval:validB s=true) (hinv:inB s v=true) (hx:(⟨0,n,i,t,lo,hi⟩:VVal).Ok) (hc:(bR=false∧(⟨0,n,i,t,lo,hi⟩:VVal)=v)∨(bR=true∧rdV s v=(⟨0,n,i,t,lo,hi⟩,0))):ImC 44 s v (img0 s ⟨0,n,i,t,lo,hi⟩):=by
 intro S q w hs hv ht10 htsp
 obtain⟨x0,x1,x2,x3,x4,x5,x6,x7,x8,x9,x10,x11,x12⟩:=s
 have HSt:=hide hs
 obtain⟨A0,c0,A1,c1,A2,c2,A3,c3,A6,c6,A7,c7,A8,c8,hq,e0,e1,e2,e3,e4,e5,e6,e7,e8,e9,e10,e11,e12,hlc0,hcm0,hlc1,hcm1,hlc2,hcm2,hlc3,hcm3,hlc6,hcm6,hlc7,hcm7,hlc8,hcm8,g4,g5,g10,g11,g12,-,-,-,-,-,-,-⟩:=StoreAt.opn hs
 clear hs
 have hqn:¬q=w.heap.size:=by omega
 have hts:=hx.t
 unfold maxLen at hts
 simp only at hts
 have htv:=hv.t
 unfold maxLen at htv
 have HV:=hide hv
 have H10:=hide ht10
 have HSP:=hide htsp
 have HVL:=hide hval
 have HIN:=hide hinv
 have HX:=hide hx
 clear hv ht10 htsp hval hinv hx
 have hbw:Bel w w:=Bel.refl w
 obtain⟨k0,n0,i0,t0,lo0,hi0⟩:=v
 have HF:=hide hbR
 have HC:=hide hc
 clear hbR hc
 simp only at htv ⊢
 have RR:=hide (show img0 (TStore.mk x0 x1 x2 x3 x4 x5 x6 x7 x8 x9 x10 x11 x12) ⟨0,n,i,t,lo,hi⟩=({ data:=#[38,110,117,108,108] }:ByteArray) by unfold img0;rw[if_pos rfl])
 go_enter Tryz.func44,Tryz.ntmps44
 go_upto_if 10 with (go_at_call 77;refine (implIsReference_any ⟨k0,n0,i0,t0,lo0,hi0⟩ _).mono ?_;rintro e w1 ⟨rfl,hb1⟩;rw[HF.out];(have hz1:=hb1.sz;obtain⟨hk1_0,hf1_0,hl1_0,hn1_0⟩:=hb1.lay (w.heap.size);obtain⟨hk1_1,hf1_1,hl1_1,hn1_1⟩:=hb1.lay (q)))
 go_cut []from 9 (fun wx=>Bel w wx∧SixI wx w.heap.size (.int .i64 0) (.int .i64 n) (.int .i64 i) (.string t) (.int .i64 lo) (.int .i64 hi)∧w.heap.size<wx.heap.size)
 case first =>
  exact rk0
 case rest =>
  exact rk44
set_option maxHeartbeats 4000000 in
theorem implIm_19 (n i:Int) (t:ByteArray) (lo hi:Int) (s:TStore) (v:VVal) (bR:Bool) (hbR:isRef v.k=bR) (hval:validB s=true) (hinv:inB s v=true) (hx:(⟨19,n,i,t,lo,hi⟩:VVal).Ok) (hc:(bR=false∧(⟨19,n,i,t,lo,hi⟩:VVal)=v)∨(bR=true∧rdV s v=(⟨19,n,i,t,lo,hi⟩,0))):ImC 44 s v (img0 s ⟨19,n,i,t,lo,hi⟩):=by
 intro S q w hs hv ht10 htsp
 obtain⟨x0,x1,x2,x3,x4,x5,x6,x7,x8,x9,x10,x11,x12⟩:=s
 have HSt:=hide hs
 obtain⟨A0,c0,A1,c1,A2,c2,A3,c3,A6,c6,A7,c7,A8,c8,hq,e0,e1,e2,e3,e4,e5,e6,e7,e8,e9,e10,e11,e12,hlc0,hcm0,hlc1,hcm1,hlc2,hcm2,hlc3,hcm3,hlc6,hcm6,hlc7,hcm7,hlc8,hcm8,g4,g5,g10,g11,g12,-,-,-,-,-,-,-⟩:=StoreAt.opn hs
 clear hs
 have hqn:¬q=w.heap.size:=by omega
 have hts:=hx.t
 unfold maxLen at hts
 simp only at hts
 have htv:=hv.t
 unfold maxLen at htv
 have HV:=hide hv
 have H10:=hide ht10
 have HSP:=hide htsp
 have HVL:=hide hval
 have HIN:=hide hinv
 have HX:=hide hx
 clear hv ht10 htsp hval hinv hx
 have hbw:Bel w w:=Bel.refl w
 obtain⟨k0,n0,i0,t0,lo0,hi0⟩:=v
 have HF:=hide hbR
 have HC:=hide hc
 clear hbR hc
 simp only at htv ⊢
 have RR:=hide (show img0 (TStore.mk x0 x1 x2 x3 x4 x5 x6 x7 x8 x9 x10 x11 x12) ⟨19,n,i,t,lo,hi⟩=({ data:=#[102,114,97,109,101] }:ByteArray) by unfold img0;rw[if_neg (by simp),if_neg (by simp),if_neg (by simp),if_neg (by simp),if_neg (by simp),if_neg (by simp),if_neg (by simp),if_neg (by simp),if_neg (by simp),if_neg (by simp),if_neg (by simp),if_neg (by simp),if_neg (by simp),if_pos rfl])
 go_enter Tryz.func44,Tryz.ntmps44
 go_upto_if 10 with (go_at_call 77;refine (implIsReference_any ⟨k0,n0,i0,t0,lo0,hi0⟩ _).mono ?_;rintro e w1 ⟨rfl,hb1⟩;rw[HF.out];(have hz1:=hb1.sz;obtain⟨hk1_0,hf1_0,hl1_0,hn1_0⟩:=hb1.lay (w.heap.size);obtain⟨hk1_1,hf1_1,hl1_1,hn1_1⟩:=hb1.lay (q)))
 go_cut []from 9 (fun wx=>Bel w wx∧SixI wx w.heap.size (.int .i64 19) (.int .i64 n) (.int .i64 i) (.string t) (.int .i64 lo) (.int .i64 hi)∧w.heap.size<wx.heap.size)
 case first =>
  exact rk0
 case rest =>
  exact rk44
set_option maxHeartbeats 4000000 in
theorem implIm_20 (n i:Int) (t:ByteArray) (lo hi:Int) (s:TStore) (v:VVal) (bR:Bool) (hbR:isRef v.k=bR) (hval:validB s=true) (hinv:inB s v=true) (hx:(⟨20,n,i,t,lo,hi⟩:VVal).Ok) (hc:(bR=false∧(⟨20,n,i,t,lo,hi⟩:VVal)=v)∨(bR=true∧rdV s v=(⟨20,n,i,t,lo,hi⟩,0))):ImC 44 s v (img0 s ⟨20,n,i,t,lo,hi⟩):=by
 intro S q w hs hv ht10 htsp
 obtain⟨x0,x1,x2,x3,x4,x5,x6,x7,x8,x9,x10,x11,x12⟩:=s
 have HSt:=hide hs
 obtain⟨A0,c0,A1,c1,A2,c2,A3,c3,A6,c6,A7,c7,A8,c8,hq,e0,e1,e2,e3,e4,e5,e6,e7,e8,e9,e10,e11,e12,hlc0,hcm0,hlc1,hcm1,hlc2,hcm2,hlc3,hcm3,hlc6,hcm6,hlc7,hcm7,hlc8,hcm8,g4,g5,g10,g11,g12,-,-,-,-,-,-,-⟩:=StoreAt.opn hs
 clear hs
 have hqn:¬q=w.heap.size:=by omega
 have hts:=hx.t
 unfold maxLen at hts
 simp only at hts
 have htv:=hv.t
 unfold maxLen at htv
 have HV:=hide hv
 have H10:=hide ht10
 have HSP:=hide htsp
 have HVL:=hide hval
 have HIN:=hide hinv
 have HX:=hide hx
 clear hv ht10 htsp hval hinv hx
 have hbw:Bel w w:=Bel.refl w
 obtain⟨k0,n0,i0,t0,lo0,hi0⟩:=v
 have HF:=hide hbR
 have HC:=hide hc
 clear hbR hc
 simp only at htv ⊢
 have RR:=hide (show img0 (TStore.mk x0 x1 x2 x3 x4 x5 x6 x7 x8 x9 x10 x11 x12) ⟨20,n,i,t,lo,hi⟩=({ data:=#[115,99,97,110] }:ByteArray) by unfold img0;rw[if_neg (by simp),if_neg (by simp),if_neg (by simp),if_neg (by simp),if_neg (by simp),if_neg (by simp),if_neg (by simp),if_neg (by simp),if_neg (by simp),if_neg (by simp),if_neg (by simp),if_neg (by simp),if_neg (by simp),if_neg (by simp)])
 go_enter Tryz.func44,Tryz.ntmps44
 go_upto_if 10 with (go_at_call 77;refine (implIsReference_any ⟨k0,n0,i0,t0,lo0,hi0⟩ _).mono ?_;rintro e w1 ⟨rfl,hb1⟩;rw[HF.out];(have hz1:=hb1.sz;obtain⟨hk1_0,hf1_0,hl1_0,hn1_0⟩:=hb1.lay (w.heap.size);obtain⟨hk1_1,hf1_1,hl1_1,hn1_1⟩:=hb1.lay (q)))
 go_cut []from 9 (fun wx=>Bel w wx∧SixI wx w.heap.size (.int .i64 20) (.int .i64 n) (.int .i64 i) (.string t) (.int .i64 lo) (.int .i64 hi)∧w.heap.size<wx.heap.size)
 case first =>
  exact rk0
 case rest =>
  exact rk44
set_option maxHeartbeats 4000000 in
theorem implIm_1 (n i:Int) (t:ByteArray) (lo hi:Int) (s:TStore) (v:VVal) (bR:Bool) (hbR:isRef v.k=bR) (hval:validB s=true) (hinv:inB s v=true) (hx:(⟨1,n,i,t,lo,hi⟩:VVal).Ok) (hc:(bR=false∧(⟨1,n,i,t,lo,hi⟩:VVal)=v)∨(bR=true∧rdV s v=(⟨1,n,i,t,lo,hi⟩,0))):ImC 44 s v (img0 s ⟨1,n,i,t,lo,hi⟩):=by
 intro S q w hs hv ht10 htsp
 have HN:=hide hx.n
 obtain⟨x0,x1,x2,x3,x4,x5,x6,x7,x8,x9,x10,x11,x12⟩:=s
 have HSt:=hide hs
 obtain⟨A0,c0,A1,c1,A2,c2,A3,c3,A6,c6,A7,c7,A8,c8,hq,e0,e1,e2,e3,e4,e5,e6,e7,e8,e9,e10,e11,e12,hlc0,hcm0,hlc1,hcm1,hlc2,hcm2,hlc3,hcm3,hlc6,hcm6,hlc7,hcm7,hlc8,hcm8,g4,g5,g10,g11,g12,-,-,-,-,-,-,-⟩:=StoreAt.opn hs
 clear hs
 have hqn:¬q=w.heap.size:=by omega
 have hts:=hx.t
 unfold maxLen at hts
 simp only at hts
 have htv:=hv.t
 unfold maxLen at htv
 have HV:=hide hv
 have H10:=hide ht10
 have HSP:=hide htsp
 have HVL:=hide hval
 have HIN:=hide hinv
 have HX:=hide hx
 clear hv ht10 htsp hval hinv hx
 have hbw:Bel w w:=Bel.refl w
 obtain⟨k0,n0,i0,t0,lo0,hi0⟩:=v
 have HF:=hide hbR
 have HC:=hide hc
 clear hbR hc
 simp only at htv ⊢
 have RR:=hide (show img0 (TStore.mk x0 x1 x2 x3 x4 x5 x6 x7 x8 x9 x10 x11 x12) ⟨1,n,i,t,lo,hi⟩=itI n by unfold img0;rw[if_neg (by simp),if_pos rfl])
 go_enter Tryz.func44,Tryz.ntmps44
 go_upto_if 10 with (go_at_call 77;refine (implIsReference_any ⟨k0,n0,i0,t0,lo0,hi0⟩ _).mono ?_;rintro e w1 ⟨rfl,hb1⟩;rw[HF.out];(have hz1:=hb1.sz;obtain⟨hk1_0,hf1_0,hl1_0,hn1_0⟩:=hb1.lay (w.heap.size);obtain⟨hk1_1,hf1_1,hl1_1,hn1_1⟩:=hb1.lay (q)))
 go_cut []from 9 (fun wx=>Bel w wx∧SixI wx w.heap.size (.int .i64 1) (.int .i64 n) (.int .i64 i) (.string t) (.int .i64 lo) (.int .i64 hi)∧w.heap.size<wx.heap.size)
 case first =>
  exact rk0
 case rest =>
  obtain⟨hbc,⟨a0,a1,a2,a3,a4,a5⟩,hlc⟩:=hcut
  have n0c:¬w.heap.size=wc.heap.size:=by omega
  (have hzc:=hbc.sz;obtain⟨hkc_0,hfc_0,hlc_0,hnc_0⟩:=hbc.lay (q))
  have hmf:=makeF Tryz.prog
  clear hb1 hz1 hk1_0 hf1_0 hl1_0 hn1_0 hk1_1 hf1_1 hl1_1 hn1_1
  have mkq:=True.intro
  repeat (any_goals ((first | clear mkq | go_quiet (fail));(try go_wp2_with (first | (go_at_call 80;refine (implFmtI_any n _ HN.out (H10.out.on bl)).mono ?_;rintro e wa ⟨rfl,hba⟩)))))
  all_goals
   go_returns
   exact⟨by rw[RR.out];first | done | rfl,bl⟩
set_option maxHeartbeats 4000000 in
theorem implIm_2 (n i:Int) (t:ByteArray) (lo hi:Int) (s:TStore) (v:VVal) (bR:Bool) (hbR:isRef v.k=bR) (hval:validB s=true) (hinv:inB s v=true) (hx:(⟨2,n,i,t,lo,hi⟩:VVal).Ok) (hc:(bR=false∧(⟨2,n,i,t,lo,hi⟩:VVal)=v)∨(bR=true∧rdV s v=(⟨2,n,i,t,lo,hi⟩,0))) (hq3:t.size≤300000000):ImC 44 s v (img0 s ⟨2,n,i,t,lo,hi⟩):=by
 intro S q w hs hv ht10 htsp
 have HQ:=hide hq3
 clear hq3
 obtain⟨x0,x1,x2,x3,x4,x5,x6,x7,x8,x9,x10,x11,x12⟩:=s
 have HSt:=hide hs
 obtain⟨A0,c0,A1,c1,A2,c2,A3,c3,A6,c6,A7,c7,A8,c8,hq,e0,e1,e2,e3,e4,e5,e6,e7,e8,e9,e10,e11,e12,hlc0,hcm0,hlc1,hcm1,hlc2,hcm2,hlc3,hcm3,hlc6,hcm6,hlc7,hcm7,hlc8,hcm8,g4,g5,g10,g11,g12,-,-,-,-,-,-,-⟩:=StoreAt.opn hs
 clear hs
 have hqn:¬q=w.heap.size:=by omega
 have hts:=hx.t
 unfold maxLen at hts
 simp only at hts
 have htv:=hv.t
 unfold maxLen at htv
 have HV:=hide hv
 have H10:=hide ht10
 have HSP:=hide htsp
 have HVL:=hide hval
 have HIN:=hide hinv
 have HX:=hide hx
 clear hv ht10 htsp hval hinv hx
 have hbw:Bel w w:=Bel.refl w
 obtain⟨k0,n0,i0,t0,lo0,hi0⟩:=v
 have HF:=hide hbR
 have HC:=hide hc
 clear hbR hc
 simp only at htv ⊢
 have RR:=hide (show img0 (TStore.mk x0 x1 x2 x3 x4 x5 x6 x7 x8 x9 x10 x11 x12) ⟨2,n,i,t,lo,hi⟩=qt 34 t by unfold img0;rw[if_neg (by simp),if_neg (by simp),if_pos rfl])
 go_enter Tryz.func44,Tryz.ntmps44
 go_upto_if 10 with (go_at_call 77;refine (implIsReference_any ⟨k0,n0,i0,t0,lo0,hi0⟩ _).mono ?_;rintro e w1 ⟨rfl,hb1⟩;rw[HF.out];(have hz1:=hb1.sz;obtain⟨hk1_0,hf1_0,hl1_0,hn1_0⟩:=hb1.lay (w.heap.size);obtain⟨hk1_1,hf1_1,hl1_1,hn1_1⟩:=hb1.lay (q)))
 go_cut []from 9 (fun wx=>Bel w wx∧SixI wx w.heap.size (.int .i64 2) (.int .i64 n) (.int .i64 i) (.string t) (.int .i64 lo) (.int .i64 hi)∧w.heap.size<wx.heap.size)
 case first =>
  exact rk0
 case rest =>
  obtain⟨hbc,⟨a0,a1,a2,a3,a4,a5⟩,hlc⟩:=hcut
  have n0c:¬w.heap.size=wc.heap.size:=by omega
  (have hzc:=hbc.sz;obtain⟨hkc_0,hfc_0,hlc_0,hnc_0⟩:=hbc.lay (q))
  have hmf:=makeF Tryz.prog
  clear hb1 hz1 hk1_0 hf1_0 hl1_0 hn1_0 hk1_1 hf1_1 hl1_1 hn1_1
  have mkq:=True.intro
  repeat (any_goals ((first | clear mkq | go_quiet (fail));(try go_wp2_with (first | (go_at_call 81;refine (implQuoteText_any t _ HQ.out).mono ?_;rintro e wa ⟨rfl,hba⟩)))))
  all_goals
   go_returns
   exact⟨by rw[RR.out];first | done | rfl,bl⟩
set_option maxHeartbeats 4000000 in
theorem implIm_3 (n i:Int) (t:ByteArray) (lo hi:Int) (s:TStore) (v:VVal) (bR:Bool) (hbR:isRef v.k=bR) (hval:validB s=true) (hinv:inB s v=true) (hx:(⟨3,n,i,t,lo,hi⟩:VVal).Ok) (hc:(bR=false∧(⟨3,n,i,t,lo,hi⟩:VVal)=v)∨(bR=true∧rdV s v=(⟨3,n,i,t,lo,hi⟩,0))):ImC 44 s v (img0 s ⟨3,n,i,t,lo,hi⟩):=by
 intro S q w hs hv ht10 htsp
 obtain⟨x0,x1,x2,x3,x4,x5,x6,x7,x8,x9,x10,x11,x12⟩:=s
 have HSt:=hide hs
 obtain⟨A0,c0,A1,c1,A2,c2,A3,c3,A6,c6,A7,c7,A8,c8,hq,e0,e1,e2,e3,e4,e5,e6,e7,e8,e9,e10,e11,e12,hlc0,hcm0,hlc1,hcm1,hlc2,hcm2,hlc3,hcm3,hlc6,hcm6,hlc7,hcm7,hlc8,hcm8,g4,g5,g10,g11,g12,-,-,-,-,-,-,-⟩:=StoreAt.opn hs
 clear hs
 have hqn:¬q=w.heap.size:=by omega
 have hts:=hx.t
 unfold maxLen at hts
 simp only at hts
 have htv:=hv.t
 unfold maxLen at htv
 have HV:=hide hv
 have H10:=hide ht10
 have HSP:=hide htsp
 have HVL:=hide hval
 have HIN:=hide hinv
 have HX:=hide hx
 clear hv ht10 htsp hval hinv hx
 have hbw:Bel w w:=Bel.refl w
 obtain⟨k0,n0,i0,t0,lo0,hi0⟩:=v
 have HF:=hide hbR
 have HC:=hide hc
 clear hbR hc
 simp only at htv ⊢
 have RR:=hide (show img0 (TStore.mk x0 x1 x2 x3 x4 x5 x6 x7 x8 x9 x10 x11 x12) ⟨3,n,i,t,lo,hi⟩=qt 39 (csT lo hi) by unfold img0;rw[if_neg (by simp),if_neg (by simp),if_neg (by simp),if_pos rfl])
 go_enter Tryz.func44,Tryz.ntmps44
 go_upto_if 10 with (go_at_call 77;refine (implIsReference_any ⟨k0,n0,i0,t0,lo0,hi0⟩ _).mono ?_;rintro e w1 ⟨rfl,hb1⟩;rw[HF.out];(have hz1:=hb1.sz;obtain⟨hk1_0,hf1_0,hl1_0,hn1_0⟩:=hb1.lay (w.heap.size);obtain⟨hk1_1,hf1_1,hl1_1,hn1_1⟩:=hb1.lay (q)))
 go_cut []from 9 (fun wx=>Bel w wx∧SixI wx w.heap.size (.int .i64 3) (.int .i64 n) (.int .i64 i) (.string t) (.int .i64 lo) (.int .i64 hi)∧w.heap.size<wx.heap.size)
 case first =>
  exact rk0
 case rest =>
  obtain⟨hbc,⟨a0,a1,a2,a3,a4,a5⟩,hlc⟩:=hcut
  have n0c:¬w.heap.size=wc.heap.size:=by omega
  (have hzc:=hbc.sz;obtain⟨hkc_0,hfc_0,hlc_0,hnc_0⟩:=hbc.lay (q))
  have hmf:=makeF Tryz.prog
  clear hb1 hz1 hk1_0 hf1_0 hl1_0 hn1_0 hk1_1 hf1_1 hl1_1 hn1_1
  have mkq:=True.intro
  repeat (any_goals ((first | clear mkq | go_quiet (fail));(try go_wp2_with (first | (go_at_call 82;refine (implQuoteCset_any lo hi _).mono ?_;rintro e wa ⟨rfl,hba⟩)))))
  all_goals
   go_returns
   exact⟨by rw[RR.out];first | done | rfl,bl⟩
set_option maxHeartbeats 4000000 in
theorem implIm_4 (n i:Int) (t:ByteArray) (lo hi:Int) (s:TStore) (v:VVal) (bR:Bool) (hbR:isRef v.k=bR) (hval:validB s=true) (hinv:inB s v=true) (hx:(⟨4,n,i,t,lo,hi⟩:VVal).Ok) (hc:(bR=false∧(⟨4,n,i,t,lo,hi⟩:VVal)=v)∨(bR=true∧rdV s v=(⟨4,n,i,t,lo,hi⟩,0))) (hin:inB s ⟨4,n,i,t,lo,hi⟩=true):ImC 44 s v (img0 s ⟨4,n,i,t,lo,hi⟩):=by
 intro S q w hs hv ht10 htsp
 obtain⟨m,rfl,hm,hkd⟩:=in_objI hin (by omega)
 clear hin hkd
 obtain⟨x0,x1,x2,x3,x4,x5,x6,x7,x8,x9,x10,x11,x12⟩:=s
 have HSt:=hide hs
 obtain⟨A0,c0,A1,c1,A2,c2,A3,c3,A6,c6,A7,c7,A8,c8,hq,e0,e1,e2,e3,e4,e5,e6,e7,e8,e9,e10,e11,e12,hlc0,hcm0,hlc1,hcm1,hlc2,hcm2,hlc3,hcm3,hlc6,hcm6,hlc7,hcm7,hlc8,hcm8,g4,g5,g10,g11,g12,-,-,HR2,-,-,-,-⟩:=StoreAt.opn hs
 clear hs
 have hqn:¬q=w.heap.size:=by omega
 have hts:=hx.t
 unfold maxLen at hts
 simp only at hts
 have htv:=hv.t
 unfold maxLen at htv
 have HV:=hide hv
 have H10:=hide ht10
 have HSP:=hide htsp
 have HVL:=hide hval
 have HIN:=hide hinv
 have HX:=hide hx
 clear hv ht10 htsp hval hinv hx
 have hbw:Bel w w:=Bel.refl w
 obtain⟨k0,n0,i0,t0,lo0,hi0⟩:=v
 have HF:=hide hbR
 have HC:=hide hc
 clear hbR hc
 simp only at htv ⊢
 simp only[TStore.objects_mk]at hm
 (obtain⟨b1,o1,x1_0,x1_1,x1_2,x1_3,x1_4,A1_3,C1_3,A1_4,C1_4,hA1,hS1,hl1,hx1,hv1,g1_0,g1_1,g1_2,g1_3,g1_4,c1_0,c1_1,c1_2,c1_3,c1_4⟩:=TObject.at HR2.out m hm;subst hA1;have HV1:=hide (Dat.HoldVals.bel hbw hv1);have hh1:=hbw.box b1 hl1;have hw1:=Nat.lt_of_lt_of_le hl1 (Bel.size hbw);replace c1_0:=(hh1 _).trans c1_0;replace c1_1:=(hh1 _).trans c1_1;replace c1_2:=(hh1 _).trans c1_2;replace c1_3:=(hh1 _).trans c1_3;replace c1_4:=(hh1 _).trans c1_4;have HX1:=hide hx1;have GR1_3:=hide g1_3;have GR1_4:=hide g1_4;clear hh1 hv1 hx1 hS1 g1_3 g1_4)
 have dm:decide ((m:Int)<(x2.length:Int))=true:=by simp;omega
 have hll:=GR1_3.out.1
 have hlm:=GR1_3.out.2.1
 simp only[List.length_map]at hll
 unfold maxLen at hlm
 have hlk:=GR1_4.out.1
 have hlkm:=GR1_4.out.2.1
 simp only[List.length_map]at hlk
 unfold maxLen at hlkm
 have HZ:=hide (show InI (x1_3.length:Int) by unfold InI;omega)
 have RR:=hide (show img0 (TStore.mk x0 x1 x2 x3 x4 x5 x6 x7 x8 x9 x10 x11 x12) ⟨4,m,i,t,lo,hi⟩=({ data:=#[108,105,115,116] }:ByteArray)++tailT x1_2 x1_3.length by unfold img0;rw[if_neg (by simp),if_neg (by simp),if_neg (by simp),if_neg (by simp),if_pos rfl];show ({ data:=#[108,105,115,116] }:ByteArray)++tailT (objAt (TStore.mk x0 x1 x2 x3 x4 x5 x6 x7 x8 x9 x10 x11 x12) (m:Int)).serial (objAt (TStore.mk x0 x1 x2 x3 x4 x5 x6 x7 x8 x9 x10 x11 x12) (m:Int)).items.length=_;rw[objAt_get (by exact hm)];show ({ data:=#[108,105,115,116] }:ByteArray)++tailT (x2[m]).serial (x2[m]).items.length=_;rw[HX1.out];rfl)
 go_enter Tryz.func44,Tryz.ntmps44
 go_upto_if 10 with (go_at_call 77;refine (implIsReference_any ⟨k0,n0,i0,t0,lo0,hi0⟩ _).mono ?_;rintro e w1 ⟨rfl,hb1⟩;rw[HF.out];(have hz1:=hb1.sz;obtain⟨hk1_0,hf1_0,hl1_0,hn1_0⟩:=hb1.lay (w.heap.size);obtain⟨hk1_1,hf1_1,hl1_1,hn1_1⟩:=hb1.lay (q)))
 go_cut []from 9 (fun wx=>Bel w wx∧SixI wx w.heap.size (.int .i64 4) (.int .i64 m) (.int .i64 i) (.string t) (.int .i64 lo) (.int .i64 hi)∧w.heap.size<wx.heap.size)
 case first =>
  exact rk0
 case rest =>
  obtain⟨hbc,⟨a0,a1,a2,a3,a4,a5⟩,hlc⟩:=hcut
  have n0c:¬w.heap.size=wc.heap.size:=by omega
  (have hzc:=hbc.sz;obtain⟨hkc_0,hfc_0,hlc_0,hnc_0⟩:=hbc.lay (q);obtain⟨hkc_1,hfc_1,hlc_1,hnc_1⟩:=hbc.lay (b1))
  have hmf:=makeF Tryz.prog
  clear hb1 hz1 hk1_0 hf1_0 hl1_0 hn1_0 hk1_1 hf1_1 hl1_1 hn1_1
  have hb1c:¬b1=wc.heap.size:=by omega
  go_wp2_with (fail)
  repeat (any_goals (go_quiet (fail);(try go_wp2_with (fail))))
  go_region_held3 (fun w'=>w'.cell? ⟨w.heap.size,1,none⟩=some (.int .i64 (m:Int))∧w'.cell? ⟨q,2,none⟩=some (.slice (some ⟨b1,o1,none⟩) x2.length c2)∧w'.cell? ⟨b1,o1+m*5,none⟩=some (.int .i64 x1_0)∧w'.cell? ⟨b1,o1+m*5+1,none⟩=some (.int .i64 x1_1)∧w'.cell? ⟨b1,o1+m*5+2,none⟩=some (.int .i64 x1_2)∧w'.cell? ⟨b1,o1+m*5+3,none⟩=some (.slice A1_3 x1_3.length C1_3)∧w'.cell? ⟨b1,o1+m*5+4,none⟩=some (.slice A1_4 x1_4.length C1_4)) (first | exact⟨(Bel.box (W:=wc) bl (w.heap.size) hlc _).trans a1,(Bel.box (W:=w) bl (q) hq _).trans e2,(Bel.box (W:=w) bl (b1) hl1 _).trans c1_0,(Bel.box (W:=w) bl (b1) hl1 _).trans c1_1,(Bel.box (W:=w) bl (b1) hl1 _).trans c1_2,(Bel.box (W:=w) bl (b1) hl1 _).trans c1_3,(Bel.box (W:=w) bl (b1) hl1 _).trans c1_4⟩) (fail)
  have mkq:=True.intro
  repeat (any_goals ((first | clear mkq | go_quiet (fail));(try go_wp2_with (first | (go_at_call 79;refine (sizedC_any ({ data:=#[108,105,115,116] }:ByteArray) (x1_3.length:Int) x1_2 wc.heap.size _ (by decide) g1_2 HZ.out (H10.out.on bl) (by first | (simp;done) | (simp[* ];done) | (simp[go_sem, * ];done)) (by simp)).mono ?_;rintro e wa ⟨rfl,hba⟩;(have hza:=hba.sz;obtain⟨hka_0,hfa_0,hla_0,hna_0⟩:=hba.lay (w.heap.size);obtain⟨hka_1,hfa_1,hla_1,hna_1⟩:=hba.lay (wc.heap.size);obtain⟨hka_2,hfa_2,hla_2,hna_2⟩:=hba.lay (q)))))))
  all_goals
   go_returns
   exact⟨by rw[RR.out];first | done | rfl,bl⟩
set_option maxHeartbeats 4000000 in
theorem implIm_5 (n i:Int) (t:ByteArray) (lo hi:Int) (s:TStore) (v:VVal) (bR:Bool) (hbR:isRef v.k=bR) (hval:validB s=true) (hinv:inB s v=true) (hx:(⟨5,n,i,t,lo,hi⟩:VVal).Ok) (hc:(bR=false∧(⟨5,n,i,t,lo,hi⟩:VVal)=v)∨(bR=true∧rdV s v=(⟨5,n,i,t,lo,hi⟩,0))) (hin:inB s ⟨5,n,i,t,lo,hi⟩=true):ImC 44 s v (img0 s ⟨5,n,i,t,lo,hi⟩):=by
 intro S q w hs hv ht10 htsp
 obtain⟨m,rfl,hm,hkd⟩:=in_objI hin (by omega)
 clear hin hkd
 obtain⟨x0,x1,x2,x3,x4,x5,x6,x7,x8,x9,x10,x11,x12⟩:=s
 have HSt:=hide hs
 obtain⟨A0,c0,A1,c1,A2,c2,A3,c3,A6,c6,A7,c7,A8,c8,hq,e0,e1,e2,e3,e4,e5,e6,e7,e8,e9,e10,e11,e12,hlc0,hcm0,hlc1,hcm1,hlc2,hcm2,hlc3,hcm3,hlc6,hcm6,hlc7,hcm7,hlc8,hcm8,g4,g5,g10,g11,g12,-,-,HR2,-,-,-,-⟩:=StoreAt.opn hs
 clear hs
 have hqn:¬q=w.heap.size:=by omega
 have hts:=hx.t
 unfold maxLen at hts
 simp only at hts
 have htv:=hv.t
 unfold maxLen at htv
 have HV:=hide hv
 have H10:=hide ht10
 have HSP:=hide htsp
 have HVL:=hide hval
 have HIN:=hide hinv
 have HX:=hide hx
 clear hv ht10 htsp hval hinv hx
 have hbw:Bel w w:=Bel.refl w
 obtain⟨k0,n0,i0,t0,lo0,hi0⟩:=v
 have HF:=hide hbR
 have HC:=hide hc
 clear hbR hc
 simp only at htv ⊢
 simp only[TStore.objects_mk]at hm
 (obtain⟨b1,o1,x1_0,x1_1,x1_2,x1_3,x1_4,A1_3,C1_3,A1_4,C1_4,hA1,hS1,hl1,hx1,hv1,g1_0,g1_1,g1_2,g1_3,g1_4,c1_0,c1_1,c1_2,c1_3,c1_4⟩:=TObject.at HR2.out m hm;subst hA1;have HV1:=hide (Dat.HoldVals.bel hbw hv1);have hh1:=hbw.box b1 hl1;have hw1:=Nat.lt_of_lt_of_le hl1 (Bel.size hbw);replace c1_0:=(hh1 _).trans c1_0;replace c1_1:=(hh1 _).trans c1_1;replace c1_2:=(hh1 _).trans c1_2;replace c1_3:=(hh1 _).trans c1_3;replace c1_4:=(hh1 _).trans c1_4;have HX1:=hide hx1;have GR1_3:=hide g1_3;have GR1_4:=hide g1_4;clear hh1 hv1 hx1 hS1 g1_3 g1_4)
 have dm:decide ((m:Int)<(x2.length:Int))=true:=by simp;omega
 have hll:=GR1_3.out.1
 have hlm:=GR1_3.out.2.1
 simp only[List.length_map]at hll
 unfold maxLen at hlm
 have hlk:=GR1_4.out.1
 have hlkm:=GR1_4.out.2.1
 simp only[List.length_map]at hlk
 unfold maxLen at hlkm
 have HZ:=hide (show InI (x1_4.length:Int) by unfold InI;omega)
 have RR:=hide (show img0 (TStore.mk x0 x1 x2 x3 x4 x5 x6 x7 x8 x9 x10 x11 x12) ⟨5,m,i,t,lo,hi⟩=({ data:=#[116,97,98,108,101] }:ByteArray)++tailT x1_2 x1_4.length by unfold img0;rw[if_neg (by simp),if_neg (by simp),if_neg (by simp),if_neg (by simp),if_neg (by simp),if_pos rfl];show ({ data:=#[116,97,98,108,101] }:ByteArray)++tailT (objAt (TStore.mk x0 x1 x2 x3 x4 x5 x6 x7 x8 x9 x10 x11 x12) (m:Int)).serial (objAt (TStore.mk x0 x1 x2 x3 x4 x5 x6 x7 x8 x9 x10 x11 x12) (m:Int)).keys.length=_;rw[objAt_get (by exact hm)];show ({ data:=#[116,97,98,108,101] }:ByteArray)++tailT (x2[m]).serial (x2[m]).keys.length=_;rw[HX1.out];rfl)
 go_enter Tryz.func44,Tryz.ntmps44
 go_upto_if 10 with (go_at_call 77;refine (implIsReference_any ⟨k0,n0,i0,t0,lo0,hi0⟩ _).mono ?_;rintro e w1 ⟨rfl,hb1⟩;rw[HF.out];(have hz1:=hb1.sz;obtain⟨hk1_0,hf1_0,hl1_0,hn1_0⟩:=hb1.lay (w.heap.size);obtain⟨hk1_1,hf1_1,hl1_1,hn1_1⟩:=hb1.lay (q)))
 go_cut []from 9 (fun wx=>Bel w wx∧SixI wx w.heap.size (.int .i64 5) (.int .i64 m) (.int .i64 i) (.string t) (.int .i64 lo) (.int .i64 hi)∧w.heap.size<wx.heap.size)
 case first =>
  exact rk0
 case rest =>
  obtain⟨hbc,⟨a0,a1,a2,a3,a4,a5⟩,hlc⟩:=hcut
  have n0c:¬w.heap.size=wc.heap.size:=by omega
  (have hzc:=hbc.sz;obtain⟨hkc_0,hfc_0,hlc_0,hnc_0⟩:=hbc.lay (q);obtain⟨hkc_1,hfc_1,hlc_1,hnc_1⟩:=hbc.lay (b1))
  have hmf:=makeF Tryz.prog
  clear hb1 hz1 hk1_0 hf1_0 hl1_0 hn1_0 hk1_1 hf1_1 hl1_1 hn1_1
  have hb1c:¬b1=wc.heap.size:=by omega
  go_wp2_with (fail)
  repeat (any_goals (go_quiet (fail);(try go_wp2_with (fail))))
  go_region_held3 (fun w'=>w'.cell? ⟨w.heap.size,1,none⟩=some (.int .i64 (m:Int))∧w'.cell? ⟨q,2,none⟩=some (.slice (some ⟨b1,o1,none⟩) x2.length c2)∧w'.cell? ⟨b1,o1+m*5,none⟩=some (.int .i64 x1_0)∧w'.cell? ⟨b1,o1+m*5+1,none⟩=some (.int .i64 x1_1)∧w'.cell? ⟨b1,o1+m*5+2,none⟩=some (.int .i64 x1_2)∧w'.cell? ⟨b1,o1+m*5+3,none⟩=some (.slice A1_3 x1_3.length C1_3)∧w'.cell? ⟨b1,o1+m*5+4,none⟩=some (.slice A1_4 x1_4.length C1_4)) (first | exact⟨(Bel.box (W:=wc) bl (w.heap.size) hlc _).trans a1,(Bel.box (W:=w) bl (q) hq _).trans e2,(Bel.box (W:=w) bl (b1) hl1 _).trans c1_0,(Bel.box (W:=w) bl (b1) hl1 _).trans c1_1,(Bel.box (W:=w) bl (b1) hl1 _).trans c1_2,(Bel.box (W:=w) bl (b1) hl1 _).trans c1_3,(Bel.box (W:=w) bl (b1) hl1 _).trans c1_4⟩) (fail)
  have mkq:=True.intro
  repeat (any_goals ((first | clear mkq | go_quiet (fail));(try go_wp2_with (first | (go_at_call 79;refine (sizedC_any ({ data:=#[116,97,98,108,101] }:ByteArray) (x1_4.length:Int) x1_2 wc.heap.size _ (by decide) g1_2 HZ.out (H10.out.on bl) (by first | (simp;done) | (simp[* ];done) | (simp[go_sem, * ];done)) (by simp)).mono ?_;rintro e wa ⟨rfl,hba⟩;(have hza:=hba.sz;obtain⟨hka_0,hfa_0,hla_0,hna_0⟩:=hba.lay (w.heap.size);obtain⟨hka_1,hfa_1,hla_1,hna_1⟩:=hba.lay (wc.heap.size);obtain⟨hka_2,hfa_2,hla_2,hna_2⟩:=hba.lay (q)))))))
  all_goals
   go_returns
   exact⟨by rw[RR.out];first | done | rfl,bl⟩
set_option maxHeartbeats 4000000 in
theorem implIm_6 (n i:Int) (t:ByteArray) (lo hi:Int) (s:TStore) (v:VVal) (bR:Bool) (hbR:isRef v.k=bR) (hval:validB s=true) (hinv:inB s v=true) (hx:(⟨6,n,i,t,lo,hi⟩:VVal).Ok) (hc:(bR=false∧(⟨6,n,i,t,lo,hi⟩:VVal)=v)∨(bR=true∧rdV s v=(⟨6,n,i,t,lo,hi⟩,0))) (hin:inB s ⟨6,n,i,t,lo,hi⟩=true):ImC 44 s v (img0 s ⟨6,n,i,t,lo,hi⟩):=by
 intro S q w hs hv ht10 htsp
 obtain⟨m,rfl,hm,hkd⟩:=in_objI hin (by omega)
 clear hin hkd
 obtain⟨x0,x1,x2,x3,x4,x5,x6,x7,x8,x9,x10,x11,x12⟩:=s
 have HSt:=hide hs
 obtain⟨A0,c0,A1,c1,A2,c2,A3,c3,A6,c6,A7,c7,A8,c8,hq,e0,e1,e2,e3,e4,e5,e6,e7,e8,e9,e10,e11,e12,hlc0,hcm0,hlc1,hcm1,hlc2,hcm2,hlc3,hcm3,hlc6,hcm6,hlc7,hcm7,hlc8,hcm8,g4,g5,g10,g11,g12,-,-,HR2,-,-,-,-⟩:=StoreAt.opn hs
 clear hs
 have hqn:¬q=w.heap.size:=by omega
 have hts:=hx.t
 unfold maxLen at hts
 simp only at hts
 have htv:=hv.t
 unfold maxLen at htv
 have HV:=hide hv
 have H10:=hide ht10
 have HSP:=hide htsp
 have HVL:=hide hval
 have HIN:=hide hinv
 have HX:=hide hx
 clear hv ht10 htsp hval hinv hx
 have hbw:Bel w w:=Bel.refl w
 obtain⟨k0,n0,i0,t0,lo0,hi0⟩:=v
 have HF:=hide hbR
 have HC:=hide hc
 clear hbR hc
 simp only at htv ⊢
 simp only[TStore.objects_mk]at hm
 (obtain⟨b1,o1,x1_0,x1_1,x1_2,x1_3,x1_4,A1_3,C1_3,A1_4,C1_4,hA1,hS1,hl1,hx1,hv1,g1_0,g1_1,g1_2,g1_3,g1_4,c1_0,c1_1,c1_2,c1_3,c1_4⟩:=TObject.at HR2.out m hm;subst hA1;have HV1:=hide (Dat.HoldVals.bel hbw hv1);have hh1:=hbw.box b1 hl1;have hw1:=Nat.lt_of_lt_of_le hl1 (Bel.size hbw);replace c1_0:=(hh1 _).trans c1_0;replace c1_1:=(hh1 _).trans c1_1;replace c1_2:=(hh1 _).trans c1_2;replace c1_3:=(hh1 _).trans c1_3;replace c1_4:=(hh1 _).trans c1_4;have HX1:=hide hx1;have GR1_3:=hide g1_3;have GR1_4:=hide g1_4;clear hh1 hv1 hx1 hS1 g1_3 g1_4)
 have dm:decide ((m:Int)<(x2.length:Int))=true:=by simp;omega
 have hll:=GR1_3.out.1
 have hlm:=GR1_3.out.2.1
 simp only[List.length_map]at hll
 unfold maxLen at hlm
 have hlk:=GR1_4.out.1
 have hlkm:=GR1_4.out.2.1
 simp only[List.length_map]at hlk
 unfold maxLen at hlkm
 have HZ:=hide (show InI (x1_4.length:Int) by unfold InI;omega)
 have RR:=hide (show img0 (TStore.mk x0 x1 x2 x3 x4 x5 x6 x7 x8 x9 x10 x11 x12) ⟨6,m,i,t,lo,hi⟩=({ data:=#[115,101,116] }:ByteArray)++tailT x1_2 x1_4.length by unfold img0;rw[if_neg (by simp),if_neg (by simp),if_neg (by simp),if_neg (by simp),if_neg (by simp),if_neg (by simp),if_pos rfl];show ({ data:=#[115,101,116] }:ByteArray)++tailT (objAt (TStore.mk x0 x1 x2 x3 x4 x5 x6 x7 x8 x9 x10 x11 x12) (m:Int)).serial (objAt (TStore.mk x0 x1 x2 x3 x4 x5 x6 x7 x8 x9 x10 x11 x12) (m:Int)).keys.length=_;rw[objAt_get (by exact hm)];show ({ data:=#[115,101,116] }:ByteArray)++tailT (x2[m]).serial (x2[m]).keys.length=_;rw[HX1.out];rfl)
 go_enter Tryz.func44,Tryz.ntmps44
 go_upto_if 10 with (go_at_call 77;refine (implIsReference_any ⟨k0,n0,i0,t0,lo0,hi0⟩ _).mono ?_;rintro e w1 ⟨rfl,hb1⟩;rw[HF.out];(have hz1:=hb1.sz;obtain⟨hk1_0,hf1_0,hl1_0,hn1_0⟩:=hb1.lay (w.heap.size);obtain⟨hk1_1,hf1_1,hl1_1,hn1_1⟩:=hb1.lay (q)))
 go_cut []from 9 (fun wx=>Bel w wx∧SixI wx w.heap.size (.int .i64 6) (.int .i64 m) (.int .i64 i) (.string t) (.int .i64 lo) (.int .i64 hi)∧w.heap.size<wx.heap.size)
 case first =>
  exact rk0
 case rest =>
  obtain⟨hbc,⟨a0,a1,a2,a3,a4,a5⟩,hlc⟩:=hcut
  have n0c:¬w.heap.size=wc.heap.size:=by omega
  (have hzc:=hbc.sz;obtain⟨hkc_0,hfc_0,hlc_0,hnc_0⟩:=hbc.lay (q);obtain⟨hkc_1,hfc_1,hlc_1,hnc_1⟩:=hbc.lay (b1))
  have hmf:=makeF Tryz.prog
  clear hb1 hz1 hk1_0 hf1_0 hl1_0 hn1_0 hk1_1 hf1_1 hl1_1 hn1_1
  have hb1c:¬b1=wc.heap.size:=by omega
  go_wp2_with (fail)
  repeat (any_goals (go_quiet (fail);(try go_wp2_with (fail))))
  go_region_held3 (fun w'=>w'.cell? ⟨w.heap.size,1,none⟩=some (.int .i64 (m:Int))∧w'.cell? ⟨q,2,none⟩=some (.slice (some ⟨b1,o1,none⟩) x2.length c2)∧w'.cell? ⟨b1,o1+m*5,none⟩=some (.int .i64 x1_0)∧w'.cell? ⟨b1,o1+m*5+1,none⟩=some (.int .i64 x1_1)∧w'.cell? ⟨b1,o1+m*5+2,none⟩=some (.int .i64 x1_2)∧w'.cell? ⟨b1,o1+m*5+3,none⟩=some (.slice A1_3 x1_3.length C1_3)∧w'.cell? ⟨b1,o1+m*5+4,none⟩=some (.slice A1_4 x1_4.length C1_4)) (first | exact⟨(Bel.box (W:=wc) bl (w.heap.size) hlc _).trans a1,(Bel.box (W:=w) bl (q) hq _).trans e2,(Bel.box (W:=w) bl (b1) hl1 _).trans c1_0,(Bel.box (W:=w) bl (b1) hl1 _).trans c1_1,(Bel.box (W:=w) bl (b1) hl1 _).trans c1_2,(Bel.box (W:=w) bl (b1) hl1 _).trans c1_3,(Bel.box (W:=w) bl (b1) hl1 _).trans c1_4⟩) (fail)
  have mkq:=True.intro
  repeat (any_goals ((first | clear mkq | go_quiet (fail));(try go_wp2_with (first | (go_at_call 79;refine (sizedC_any ({ data:=#[115,101,116] }:ByteArray) (x1_4.length:Int) x1_2 wc.heap.size _ (by decide) g1_2 HZ.out (H10.out.on bl) (by first | (simp;done) | (simp[* ];done) | (simp[go_sem, * ];done)) (by simp)).mono ?_;rintro e wa ⟨rfl,hba⟩;(have hza:=hba.sz;obtain⟨hka_0,hfa_0,hla_0,hna_0⟩:=hba.lay (w.heap.size);obtain⟨hka_1,hfa_1,hla_1,hna_1⟩:=hba.lay (wc.heap.size);obtain⟨hka_2,hfa_2,hla_2,hna_2⟩:=hba.lay (q)))))))
  all_goals
   go_returns
   exact⟨by rw[RR.out];first | done | rfl,bl⟩
set_option maxHeartbeats 4000000 in
theorem implIm_12 (n i:Int) (t:ByteArray) (lo hi:Int) (s:TStore) (v:VVal) (bR:Bool) (hbR:isRef v.k=bR) (hval:validB s=true) (hinv:inB s v=true) (hx:(⟨12,n,i,t,lo,hi⟩:VVal).Ok) (hc:(bR=false∧(⟨12,n,i,t,lo,hi⟩:VVal)=v)∨(bR=true∧rdV s v=(⟨12,n,i,t,lo,hi⟩,0))) (hin:inB s ⟨12,n,i,t,lo,hi⟩=true):ImC 44 s v (img0 s ⟨12,n,i,t,lo,hi⟩):=by
 intro S q w hs hv ht10 htsp
 obtain⟨m,rfl,hm,hkd⟩:=in_objI hin (by omega)
 clear hin hkd
 obtain⟨x0,x1,x2,x3,x4,x5,x6,x7,x8,x9,x10,x11,x12⟩:=s
 have HSt:=hide hs
 obtain⟨A0,c0,A1,c1,A2,c2,A3,c3,A6,c6,A7,c7,A8,c8,hq,e0,e1,e2,e3,e4,e5,e6,e7,e8,e9,e10,e11,e12,hlc0,hcm0,hlc1,hcm1,hlc2,hcm2,hlc3,hcm3,hlc6,hcm6,hlc7,hcm7,hlc8,hcm8,g4,g5,g10,g11,g12,-,-,HR2,-,-,-,-⟩:=StoreAt.opn hs
 clear hs
 have hqn:¬q=w.heap.size:=by omega
 have hts:=hx.t
 unfold maxLen at hts
 simp only at hts
 have htv:=hv.t
 unfold maxLen at htv
 have HV:=hide hv
 have H10:=hide ht10
 have HSP:=hide htsp
 have HVL:=hide hval
 have HIN:=hide hinv
 have HX:=hide hx
 clear hv ht10 htsp hval hinv hx
 have hbw:Bel w w:=Bel.refl w
 obtain⟨k0,n0,i0,t0,lo0,hi0⟩:=v
 have HF:=hide hbR
 have HC:=hide hc
 clear hbR hc
 simp only at htv ⊢
 simp only[TStore.objects_mk]at hm
 (obtain⟨b1,o1,x1_0,x1_1,x1_2,x1_3,x1_4,A1_3,C1_3,A1_4,C1_4,hA1,hS1,hl1,hx1,hv1,g1_0,g1_1,g1_2,g1_3,g1_4,c1_0,c1_1,c1_2,c1_3,c1_4⟩:=TObject.at HR2.out m hm;subst hA1;have HV1:=hide (Dat.HoldVals.bel hbw hv1);have hh1:=hbw.box b1 hl1;have hw1:=Nat.lt_of_lt_of_le hl1 (Bel.size hbw);replace c1_0:=(hh1 _).trans c1_0;replace c1_1:=(hh1 _).trans c1_1;replace c1_2:=(hh1 _).trans c1_2;replace c1_3:=(hh1 _).trans c1_3;replace c1_4:=(hh1 _).trans c1_4;have HX1:=hide hx1;have GR1_3:=hide g1_3;have GR1_4:=hide g1_4;clear hh1 hv1 hx1 hS1 g1_3 g1_4)
 have dm:decide ((m:Int)<(x2.length:Int))=true:=by simp;omega
 have hll:=GR1_3.out.1
 have hlm:=GR1_3.out.2.1
 simp only[List.length_map]at hll
 unfold maxLen at hlm
 have hlk:=GR1_4.out.1
 have hlkm:=GR1_4.out.2.1
 simp only[List.length_map]at hlk
 unfold maxLen at hlkm
 have HZ:=hide g1_2
 have u1:({ data:=#[112,97,116,116,101,114,110,95] }:ByteArray).size≤8:=by decide
 have ga1:=run_addI u1 (itI_le g1_2) (by omega)
 clear u1
 have RR:=hide (show img0 (TStore.mk x0 x1 x2 x3 x4 x5 x6 x7 x8 x9 x10 x11 x12) ⟨12,m,i,t,lo,hi⟩=({ data:=#[112,97,116,116,101,114,110,95] }:ByteArray)++itI x1_2 by unfold img0;rw[if_neg (by simp),if_neg (by simp),if_neg (by simp),if_neg (by simp),if_neg (by simp),if_neg (by simp),if_neg (by simp),if_neg (by simp),if_neg (by simp),if_neg (by simp),if_neg (by simp),if_neg (by simp),if_pos rfl];show ({ data:=#[112,97,116,116,101,114,110,95] }:ByteArray)++itI (objAt (TStore.mk x0 x1 x2 x3 x4 x5 x6 x7 x8 x9 x10 x11 x12) (m:Int)).serial=_;rw[objAt_get (by exact hm)];show ({ data:=#[112,97,116,116,101,114,110,95] }:ByteArray)++itI (x2[m]).serial=_;rw[HX1.out];rfl)
 go_enter Tryz.func44,Tryz.ntmps44
 go_upto_if 10 with (go_at_call 77;refine (implIsReference_any ⟨k0,n0,i0,t0,lo0,hi0⟩ _).mono ?_;rintro e w1 ⟨rfl,hb1⟩;rw[HF.out];(have hz1:=hb1.sz;obtain⟨hk1_0,hf1_0,hl1_0,hn1_0⟩:=hb1.lay (w.heap.size);obtain⟨hk1_1,hf1_1,hl1_1,hn1_1⟩:=hb1.lay (q)))
 go_cut []from 9 (fun wx=>Bel w wx∧SixI wx w.heap.size (.int .i64 12) (.int .i64 m) (.int .i64 i) (.string t) (.int .i64 lo) (.int .i64 hi)∧w.heap.size<wx.heap.size)
 case first =>
  exact rk0
 case rest =>
  obtain⟨hbc,⟨a0,a1,a2,a3,a4,a5⟩,hlc⟩:=hcut
  have n0c:¬w.heap.size=wc.heap.size:=by omega
  (have hzc:=hbc.sz;obtain⟨hkc_0,hfc_0,hlc_0,hnc_0⟩:=hbc.lay (q);obtain⟨hkc_1,hfc_1,hlc_1,hnc_1⟩:=hbc.lay (b1))
  have hmf:=makeF Tryz.prog
  clear hb1 hz1 hk1_0 hf1_0 hl1_0 hn1_0 hk1_1 hf1_1 hl1_1 hn1_1
  have hb1c:¬b1=wc.heap.size:=by omega
  go_wp2_with (fail)
  repeat (any_goals (go_quiet (fail);(try go_wp2_with (fail))))
  go_region_held3 (fun w'=>w'.cell? ⟨w.heap.size,1,none⟩=some (.int .i64 (m:Int))∧w'.cell? ⟨q,2,none⟩=some (.slice (some ⟨b1,o1,none⟩) x2.length c2)∧w'.cell? ⟨b1,o1+m*5,none⟩=some (.int .i64 x1_0)∧w'.cell? ⟨b1,o1+m*5+1,none⟩=some (.int .i64 x1_1)∧w'.cell? ⟨b1,o1+m*5+2,none⟩=some (.int .i64 x1_2)∧w'.cell? ⟨b1,o1+m*5+3,none⟩=some (.slice A1_3 x1_3.length C1_3)∧w'.cell? ⟨b1,o1+m*5+4,none⟩=some (.slice A1_4 x1_4.length C1_4)) (first | exact⟨(Bel.box (W:=wc) bl (w.heap.size) hlc _).trans a1,(Bel.box (W:=w) bl (q) hq _).trans e2,(Bel.box (W:=w) bl (b1) hl1 _).trans c1_0,(Bel.box (W:=w) bl (b1) hl1 _).trans c1_1,(Bel.box (W:=w) bl (b1) hl1 _).trans c1_2,(Bel.box (W:=w) bl (b1) hl1 _).trans c1_3,(Bel.box (W:=w) bl (b1) hl1 _).trans c1_4⟩) (fail)
  have mkq:=True.intro
  repeat (any_goals ((first | clear mkq | go_quiet (fail));(try go_wp2_with (first | (go_at_call 80;refine (implFmtI_any x1_2 _ HZ.out (H10.out.on bl)).mono ?_;rintro e wa ⟨rfl,hba⟩)))))
  all_goals
   go_returns
   exact⟨by rw[RR.out];first | done | rfl,bl⟩
set_option maxHeartbeats 4000000 in
theorem implIm_11 (n i:Int) (t:ByteArray) (lo hi:Int) (s:TStore) (v:VVal) (bR:Bool) (hbR:isRef v.k=bR) (hval:validB s=true) (hinv:inB s v=true) (hx:(⟨11,n,i,t,lo,hi⟩:VVal).Ok) (hc:(bR=false∧(⟨11,n,i,t,lo,hi⟩:VVal)=v)∨(bR=true∧rdV s v=(⟨11,n,i,t,lo,hi⟩,0))) (hin:inB s ⟨11,n,i,t,lo,hi⟩=true):ImC 44 s v (img0 s ⟨11,n,i,t,lo,hi⟩):=by
 intro S q w hs hv ht10 htsp
 obtain⟨m,rfl,hm,hkd⟩:=in_objI hin (by omega)
 rw[show kindI 11=6 by decide]at hkd
 obtain⟨tag,ser,a,b,c,keys,he⟩:=coex_ofI hval hm hkd
 clear hin hkd
 obtain⟨x0,x1,x2,x3,x4,x5,x6,x7,x8,x9,x10,x11,x12⟩:=s
 have HSt:=hide hs
 obtain⟨A0,c0,A1,c1,A2,c2,A3,c3,A6,c6,A7,c7,A8,c8,hq,e0,e1,e2,e3,e4,e5,e6,e7,e8,e9,e10,e11,e12,hlc0,hcm0,hlc1,hcm1,hlc2,hcm2,hlc3,hcm3,hlc6,hcm6,hlc7,hcm7,hlc8,hcm8,g4,g5,g10,g11,g12,-,-,HR2,-,-,-,-⟩:=StoreAt.opn hs
 clear hs
 have hqn:¬q=w.heap.size:=by omega
 have hts:=hx.t
 unfold maxLen at hts
 simp only at hts
 have htv:=hv.t
 unfold maxLen at htv
 have HV:=hide hv
 have H10:=hide ht10
 have HSP:=hide htsp
 have HVL:=hide hval
 have HIN:=hide hinv
 have HX:=hide hx
 clear hv ht10 htsp hval hinv hx
 have hbw:Bel w w:=Bel.refl w
 obtain⟨k0,n0,i0,t0,lo0,hi0⟩:=v
 have HF:=hide hbR
 have HC:=hide hc
 clear hbR hc
 simp only at htv ⊢
 simp only[TStore.objects_mk]at hm he
 (obtain⟨b1,o1,x1_0,x1_1,x1_2,x1_3,x1_4,A1_3,C1_3,A1_4,C1_4,hA1,hS1,hl1,hx1,hv1,g1_0,g1_1,g1_2,g1_3,g1_4,c1_0,c1_1,c1_2,c1_3,c1_4⟩:=TObject.at HR2.out m hm;subst hA1;have HV1:=hide (Dat.HoldVals.bel hbw hv1);have hh1:=hbw.box b1 hl1;have hw1:=Nat.lt_of_lt_of_le hl1 (Bel.size hbw);replace c1_0:=(hh1 _).trans c1_0;replace c1_1:=(hh1 _).trans c1_1;replace c1_2:=(hh1 _).trans c1_2;replace c1_3:=(hh1 _).trans c1_3;replace c1_4:=(hh1 _).trans c1_4;have HX1:=hide hx1;have GR1_3:=hide g1_3;have GR1_4:=hide g1_4;clear hh1 hv1 hx1 hS1 g1_3 g1_4)
 have dm:decide ((m:Int)<(x2.length:Int))=true:=by simp;omega
 have hll:=GR1_3.out.1
 have hlm:=GR1_3.out.2.1
 simp only[List.length_map]at hll
 unfold maxLen at hlm
 have hlk:=GR1_4.out.1
 have hlkm:=GR1_4.out.2.1
 simp only[List.length_map]at hlk
 unfold maxLen at hlkm
 obtain⟨rfl,rfl,rfl,rfl,rfl⟩:=TObject.mk.inj (he.symm.trans HX1.out)
 (obtain⟨b3,o3,x3_0,x3_1,x3_2,x3_3,x3_4,x3_5,hA3,hS3,hl3,hx3,hv3,g3_0,g3_1,g3_2,g3_3,g3_4,g3_5,c3_0,c3_1,c3_2,c3_3,c3_4,c3_5⟩:=TValue.at GR1_3.out 2 (by simp);subst hA3;have HV3:=hide (Dat.HoldVals.bel hbw hv3);have hh3:=hbw.box b3 hl3;have hw3:=Nat.lt_of_lt_of_le hl3 (Bel.size hbw);replace c3_0:=(hh3 _).trans c3_0;replace c3_1:=(hh3 _).trans c3_1;replace c3_2:=(hh3 _).trans c3_2;replace c3_3:=(hh3 _).trans c3_3;replace c3_4:=(hh3 _).trans c3_4;replace c3_5:=(hh3 _).trans c3_5;have HX3:=hide hx3;clear hh3 hv3 hx3 hS3;simp only[Nat.zero_mul,Nat.one_mul,Nat.add_zero,Nat.reduceMul,Nat.add_assoc,Nat.reduceAdd]at c3_0 c3_1 c3_2 c3_3 c3_4 c3_5)
 obtain rfl:c=.mk x3_0 x3_1 x3_2 x3_3 x3_4 x3_5:=HX3.out
 have HZ:=hide g3_1
 have RR:=hide (show img0 (TStore.mk x0 x1 x2 x3 x4 x5 x6 x7 x8 x9 x10 x11 x12) ⟨11,m,i,t,lo,hi⟩=({ data:=#[99,111,45,101,120,112,114,101,115,115,105,111,110] }:ByteArray)++tailT ser x3_1 by
  have q1:objAt (TStore.mk x0 x1 x2 x3 x4 x5 x6 x7 x8 x9 x10 x11 x12) (m:Int)=.mk 6 tag ser [a,b,.mk x3_0 x3_1 x3_2 x3_3 x3_4 x3_5] keys:=(objAt_get (s:=(TStore.mk x0 x1 x2 x3 x4 x5 x6 x7 x8 x9 x10 x11 x12)) hm).trans he
  unfold img0;rw[if_neg (by simp),if_neg (by simp),if_neg (by simp),if_neg (by simp),if_neg (by simp),if_neg (by simp),if_neg (by simp),if_neg (by simp),if_neg (by simp),if_neg (by simp),if_neg (by simp),if_pos rfl];simp only[q1,TObject.items,TObject.serial,vAt_2];rfl)
 go_enter Tryz.func44,Tryz.ntmps44
 go_upto_if 10 with (go_at_call 77;refine (implIsReference_any ⟨k0,n0,i0,t0,lo0,hi0⟩ _).mono ?_;rintro e w1 ⟨rfl,hb1⟩;rw[HF.out];(have hz1:=hb1.sz;obtain⟨hk1_0,hf1_0,hl1_0,hn1_0⟩:=hb1.lay (w.heap.size);obtain⟨hk1_1,hf1_1,hl1_1,hn1_1⟩:=hb1.lay (q)))
 go_cut []from 9 (fun wx=>Bel w wx∧SixI wx w.heap.size (.int .i64 11) (.int .i64 m) (.int .i64 i) (.string t) (.int .i64 lo) (.int .i64 hi)∧w.heap.size<wx.heap.size)
 case first =>
  exact rk0
 case rest =>
  obtain⟨hbc,⟨a0,a1,a2,a3,a4,a5⟩,hlc⟩:=hcut
  have n0c:¬w.heap.size=wc.heap.size:=by omega
  (have hzc:=hbc.sz;obtain⟨hkc_0,hfc_0,hlc_0,hnc_0⟩:=hbc.lay (q);obtain⟨hkc_1,hfc_1,hlc_1,hnc_1⟩:=hbc.lay (b1);obtain⟨hkc_2,hfc_2,hlc_2,hnc_2⟩:=hbc.lay (b3))
  have hmf:=makeF Tryz.prog
  clear hb1 hz1 hk1_0 hf1_0 hl1_0 hn1_0 hk1_1 hf1_1 hl1_1 hn1_1
  have hb3c:¬b3=wc.heap.size:=by omega
  have hb1c:¬b1=wc.heap.size:=by omega
  go_wp2_with (fail)
  repeat (any_goals (go_quiet (fail);(try go_wp2_with (fail))))
  go_region_held3 (fun w'=>w'.cell? ⟨w.heap.size,1,none⟩=some (.int .i64 (m:Int))∧w'.cell? ⟨q,2,none⟩=some (.slice (some ⟨b1,o1,none⟩) x2.length c2)∧w'.cell? ⟨b1,o1+m*5,none⟩=some (.int .i64 6)∧w'.cell? ⟨b1,o1+m*5+1,none⟩=some (.int .i64 tag)∧w'.cell? ⟨b1,o1+m*5+2,none⟩=some (.int .i64 ser)∧w'.cell? ⟨b1,o1+m*5+3,none⟩=some (.slice (some ⟨b3,o3,none⟩) 3 C1_3)∧w'.cell? ⟨b1,o1+m*5+4,none⟩=some (.slice A1_4 keys.length C1_4)) (first | exact⟨(Bel.box (W:=wc) bl (w.heap.size) hlc _).trans a1,(Bel.box (W:=w) bl (q) hq _).trans e2,(Bel.box (W:=w) bl (b1) hl1 _).trans c1_0,(Bel.box (W:=w) bl (b1) hl1 _).trans c1_1,(Bel.box (W:=w) bl (b1) hl1 _).trans c1_2,(Bel.box (W:=w) bl (b1) hl1 _).trans c1_3,(Bel.box (W:=w) bl (b1) hl1 _).trans c1_4⟩) (fail)
  have mkq:=True.intro
  repeat (any_goals ((first | clear mkq | go_quiet (fail));(try go_wp2_with (first | (go_at_call 79;refine (sizedC_any ({ data:=#[99,111,45,101,120,112,114,101,115,115,105,111,110] }:ByteArray) x3_1 ser wc.heap.size _ (by decide) g1_2 HZ.out (H10.out.on bl) (by first | (simp;done) | (simp[* ];done) | (simp[go_sem, * ];done)) (by simp)).mono ?_;rintro e wa ⟨rfl,hba⟩;(have hza:=hba.sz;obtain⟨hka_0,hfa_0,hla_0,hna_0⟩:=hba.lay (w.heap.size);obtain⟨hka_1,hfa_1,hla_1,hna_1⟩:=hba.lay (wc.heap.size);obtain⟨hka_2,hfa_2,hla_2,hna_2⟩:=hba.lay (q)))))))
  all_goals
   go_returns
   exact⟨by rw[RR.out];first | done | rfl,bl⟩
set_option maxHeartbeats 4000000 in
theorem implIm_8 (n i:Int) (t:ByteArray) (lo hi:Int) (s:TStore) (v:VVal) (bR:Bool) (hbR:isRef v.k=bR) (hval:validB s=true) (hinv:inB s v=true) (hx:(⟨8,n,i,t,lo,hi⟩:VVal).Ok) (hc:(bR=false∧(⟨8,n,i,t,lo,hi⟩:VVal)=v)∨(bR=true∧rdV s v=(⟨8,n,i,t,lo,hi⟩,0))) (hin:inB s ⟨8,n,i,t,lo,hi⟩=true):ImC 44 s v (img0 s ⟨8,n,i,t,lo,hi⟩):=by
 intro S q w hs hv ht10 htsp
 obtain⟨m,rfl,hm⟩:=in_nam hin
 have hnm:=name_of hval hm
 clear hin
 obtain⟨x0,x1,x2,x3,x4,x5,x6,x7,x8,x9,x10,x11,x12⟩:=s
 have HSt:=hide hs
 obtain⟨A0,c0,A1,c1,A2,c2,A3,c3,A6,c6,A7,c7,A8,c8,hq,e0,e1,e2,e3,e4,e5,e6,e7,e8,e9,e10,e11,e12,hlc0,hcm0,hlc1,hcm1,hlc2,hcm2,hlc3,hcm3,hlc6,hcm6,hlc7,hcm7,hlc8,hcm8,g4,g5,g10,g11,g12,HR0,-,-,-,-,-,-⟩:=StoreAt.opn hs
 clear hs
 have hqn:¬q=w.heap.size:=by omega
 have hts:=hx.t
 unfold maxLen at hts
 simp only at hts
 have htv:=hv.t
 unfold maxLen at htv
 have HV:=hide hv
 have H10:=hide ht10
 have HSP:=hide htsp
 have HVL:=hide hval
 have HIN:=hide hinv
 have HX:=hide hx
 clear hv ht10 htsp hval hinv hx
 have hbw:Bel w w:=Bel.refl w
 obtain⟨k0,n0,i0,t0,lo0,hi0⟩:=v
 have HF:=hide hbR
 have HC:=hide hc
 clear hbR hc
 simp only at htv ⊢
 simp only[TStore.names_mk]at hm hnm
 obtain⟨b1,o1,hA1,hS1,hl1,hz1,c1x⟩:=strAt HR0.out m hm
 subst hA1
 have dm:decide ((m:Int)<(x0.length:Int))=true:=by simp;omega
 have u1:({ data:=#[112,114,111,99,101,100,117,114,101,32] }:ByteArray).size≤10:=by decide
 have ga1:=run_addI u1 hnm (by omega)
 clear u1 hz1
 have RR:=hide (show img0 (TStore.mk x0 x1 x2 x3 x4 x5 x6 x7 x8 x9 x10 x11 x12) ⟨8,m,i,t,lo,hi⟩=({ data:=#[112,114,111,99,101,100,117,114,101,32] }:ByteArray)++x0[m] by unfold img0;rw[if_neg (by simp),if_neg (by simp),if_neg (by simp),if_neg (by simp),if_neg (by simp),if_neg (by simp),if_neg (by simp),if_neg (by simp),if_pos rfl];rw[nameAt_get (by exact hm)];rfl)
 go_enter Tryz.func44,Tryz.ntmps44
 go_upto_if 10 with (go_at_call 77;refine (implIsReference_any ⟨k0,n0,i0,t0,lo0,hi0⟩ _).mono ?_;rintro e w1 ⟨rfl,hb1⟩;rw[HF.out];(have hz1:=hb1.sz;obtain⟨hk1_0,hf1_0,hl1_0,hn1_0⟩:=hb1.lay (w.heap.size);obtain⟨hk1_1,hf1_1,hl1_1,hn1_1⟩:=hb1.lay (q)))
 go_cut []from 9 (fun wx=>Bel w wx∧SixI wx w.heap.size (.int .i64 8) (.int .i64 m) (.int .i64 i) (.string t) (.int .i64 lo) (.int .i64 hi)∧w.heap.size<wx.heap.size)
 case first =>
  exact rk0
 case rest =>
  obtain⟨hbc,⟨a0,a1,a2,a3,a4,a5⟩,hlc⟩:=hcut
  have n0c:¬w.heap.size=wc.heap.size:=by omega
  (have hzc:=hbc.sz;obtain⟨hkc_0,hfc_0,hlc_0,hnc_0⟩:=hbc.lay (q);obtain⟨hkc_1,hfc_1,hlc_1,hnc_1⟩:=hbc.lay (b1))
  have hmf:=makeF Tryz.prog
  clear hb1 hz1 hk1_0 hf1_0 hl1_0 hn1_0 hk1_1 hf1_1 hl1_1 hn1_1
  have hb1c:¬b1=wc.heap.size:=by omega
  have q0c:=(hbc.box q hq 0).trans e0
  have x0c:=(hbc.box b1 hl1 _).trans c1x
  exact rk127
set_option maxHeartbeats 4000000 in
theorem implIm_9 (n i:Int) (t:ByteArray) (lo hi:Int) (s:TStore) (v:VVal) (bR:Bool) (hbR:isRef v.k=bR) (hval:validB s=true) (hinv:inB s v=true) (hx:(⟨9,n,i,t,lo,hi⟩:VVal).Ok) (hc:(bR=false∧(⟨9,n,i,t,lo,hi⟩:VVal)=v)∨(bR=true∧rdV s v=(⟨9,n,i,t,lo,hi⟩,0))):ImC 44 s v (img0 s ⟨9,n,i,t,lo,hi⟩):=by
 intro S q w hs hv ht10 htsp
 have HN:=hide hx.n
 obtain⟨x0,x1,x2,x3,x4,x5,x6,x7,x8,x9,x10,x11,x12⟩:=s
 have HSt:=hide hs
 obtain⟨A0,c0,A1,c1,A2,c2,A3,c3,A6,c6,A7,c7,A8,c8,hq,e0,e1,e2,e3,e4,e5,e6,e7,e8,e9,e10,e11,e12,hlc0,hcm0,hlc1,hcm1,hlc2,hcm2,hlc3,hcm3,hlc6,hcm6,hlc7,hcm7,hlc8,hcm8,g4,g5,g10,g11,g12,-,-,-,-,-,-,-⟩:=StoreAt.opn hs
 clear hs
 have hqn:¬q=w.heap.size:=by omega
 have hts:=hx.t
 unfold maxLen at hts
 simp only at hts
 have htv:=hv.t
 unfold maxLen at htv
 have HV:=hide hv
 have H10:=hide ht10
 have HSP:=hide htsp
 have HVL:=hide hval
 have HIN:=hide hinv
 have HX:=hide hx
 clear hv ht10 htsp hval hinv hx
 have hbw:Bel w w:=Bel.refl w
 obtain⟨k0,n0,i0,t0,lo0,hi0⟩:=v
 have HF:=hide hbR
 have HC:=hide hc
 clear hbR hc
 simp only at htv ⊢
 have u1:({ data:=#[102,117,110,99,116,105,111,110,32] }:ByteArray).size≤9:=by decide
 have ga1:=run_addI u1 (funName_le n) (by omega)
 clear u1
 have RR:=hide (show img0 (TStore.mk x0 x1 x2 x3 x4 x5 x6 x7 x8 x9 x10 x11 x12) ⟨9,n,i,t,lo,hi⟩=({ data:=#[102,117,110,99,116,105,111,110,32] }:ByteArray)++funName n by unfold img0;rw[if_neg (by simp),if_neg (by simp),if_neg (by simp),if_neg (by simp),if_neg (by simp),if_neg (by simp),if_neg (by simp),if_neg (by simp),if_neg (by simp),if_pos rfl])
 go_enter Tryz.func44,Tryz.ntmps44
 go_upto_if 10 with (go_at_call 77;refine (implIsReference_any ⟨k0,n0,i0,t0,lo0,hi0⟩ _).mono ?_;rintro e w1 ⟨rfl,hb1⟩;rw[HF.out];(have hz1:=hb1.sz;obtain⟨hk1_0,hf1_0,hl1_0,hn1_0⟩:=hb1.lay (w.heap.size);obtain⟨hk1_1,hf1_1,hl1_1,hn1_1⟩:=hb1.lay (q)))
 go_cut []from 9 (fun wx=>Bel w wx∧SixI wx w.heap.size (.int .i64 9) (.int .i64 n) (.int .i64 i) (.string t) (.int .i64 lo) (.int .i64 hi)∧w.heap.size<wx.heap.size)
 case first =>
  exact rk0
 case rest =>
  obtain⟨hbc,⟨a0,a1,a2,a3,a4,a5⟩,hlc⟩:=hcut
  have n0c:¬w.heap.size=wc.heap.size:=by omega
  (have hzc:=hbc.sz;obtain⟨hkc_0,hfc_0,hlc_0,hnc_0⟩:=hbc.lay (q))
  have hmf:=makeF Tryz.prog
  clear hb1 hz1 hk1_0 hf1_0 hl1_0 hn1_0 hk1_1 hf1_1 hl1_1 hn1_1
  have mkq:=True.intro
  repeat (any_goals ((first | clear mkq | go_quiet (fail));(try go_wp2_with (first | (go_at_call 83;refine (implFunctionName_any n _ HN.out (HSP.out.on bl)).mono ?_;rintro e wa ⟨rfl,hba⟩)))))
  all_goals
   go_returns
   exact⟨by rw[RR.out];first | done | rfl,bl⟩
set_option maxHeartbeats 4000000 in
theorem implIm_10 (n i:Int) (t:ByteArray) (lo hi:Int) (s:TStore) (v:VVal) (bR:Bool) (hbR:isRef v.k=bR) (hval:validB s=true) (hinv:inB s v=true) (hx:(⟨10,n,i,t,lo,hi⟩:VVal).Ok) (hc:(bR=false∧(⟨10,n,i,t,lo,hi⟩:VVal)=v)∨(bR=true∧rdV s v=(⟨10,n,i,t,lo,hi⟩,0))) (hin:inB s ⟨10,n,i,t,lo,hi⟩=true):ImC 44 s v (img0 s ⟨10,n,i,t,lo,hi⟩):=by
 intro S q w hs hv ht10 htsp
 obtain⟨m,rfl,hm⟩:=in_rec hin
 have hnm:=rec_name hval hm
 clear hin
 obtain⟨x0,x1,x2,x3,x4,x5,x6,x7,x8,x9,x10,x11,x12⟩:=s
 have HSt:=hide hs
 obtain⟨A0,c0,A1,c1,A2,c2,A3,c3,A6,c6,A7,c7,A8,c8,hq,e0,e1,e2,e3,e4,e5,e6,e7,e8,e9,e10,e11,e12,hlc0,hcm0,hlc1,hcm1,hlc2,hcm2,hlc3,hcm3,hlc6,hcm6,hlc7,hcm7,hlc8,hcm8,g4,g5,g10,g11,g12,-,HR1,-,-,-,-,-⟩:=StoreAt.opn hs
 clear hs
 have hqn:¬q=w.heap.size:=by omega
 have hts:=hx.t
 unfold maxLen at hts
 simp only at hts
 have htv:=hv.t
 unfold maxLen at htv
 have HV:=hide hv
 have H10:=hide ht10
 have HSP:=hide htsp
 have HVL:=hide hval
 have HIN:=hide hinv
 have HX:=hide hx
 clear hv ht10 htsp hval hinv hx
 have hbw:Bel w w:=Bel.refl w
 obtain⟨k0,n0,i0,t0,lo0,hi0⟩:=v
 have HF:=hide hbR
 have HC:=hide hc
 clear hbR hc
 simp only at htv ⊢
 simp only[TStore.records_mk]at hm hnm
 (obtain⟨b5,o5,x5_0,x5_1,x5_2,A5_1,C5_1,hA5,hS5,hl5,hx5,hv5,g5_0,g5_1,g5_2,c5_0,c5_1,c5_2⟩:=TRecordType.at HR1.out m hm;subst hA5;have HV5:=hide (Dat.HoldVals.bel hbw hv5);have hh5:=hbw.box b5 hl5;have hw5:=Nat.lt_of_lt_of_le hl5 (Bel.size hbw);replace c5_0:=(hh5 _).trans c5_0;replace c5_1:=(hh5 _).trans c5_1;replace c5_2:=(hh5 _).trans c5_2;have HX5:=hide hx5;have GR5_1:=hide g5_1;clear hh5 hv5 hx5 hS5 g5_1)
 have hnm5:x5_0.size≤12:=by have:=hnm;rw[HX5.out]at this;exact this
 clear hnm
 have dr:decide ((m:Int)<(x1.length:Int))=true:=by simp;omega
 have u1:({ data:=#[114,101,99,111,114,100,32,99,111,110,115,116,114,117,99,116,111,114,32] }:ByteArray).size≤19:=by decide
 have ga1:=run_addI u1 hnm5 (by omega)
 clear u1
 have RR:=hide (show img0 (TStore.mk x0 x1 x2 x3 x4 x5 x6 x7 x8 x9 x10 x11 x12) ⟨10,m,i,t,lo,hi⟩=({ data:=#[114,101,99,111,114,100,32,99,111,110,115,116,114,117,99,116,111,114,32] }:ByteArray)++x5_0 by unfold img0;rw[if_neg (by simp),if_neg (by simp),if_neg (by simp),if_neg (by simp),if_neg (by simp),if_neg (by simp),if_neg (by simp),if_neg (by simp),if_neg (by simp),if_neg (by simp),if_pos rfl];rw[recAt_get (by exact hm)];show ({ data:=#[114,101,99,111,114,100,32,99,111,110,115,116,114,117,99,116,111,114,32] }:ByteArray)++(x1[m]).name=_;rw[HX5.out];rfl)
 go_enter Tryz.func44,Tryz.ntmps44
 go_upto_if 10 with (go_at_call 77;refine (implIsReference_any ⟨k0,n0,i0,t0,lo0,hi0⟩ _).mono ?_;rintro e w1 ⟨rfl,hb1⟩;rw[HF.out];(have hz1:=hb1.sz;obtain⟨hk1_0,hf1_0,hl1_0,hn1_0⟩:=hb1.lay (w.heap.size);obtain⟨hk1_1,hf1_1,hl1_1,hn1_1⟩:=hb1.lay (q)))
 go_cut []from 9 (fun wx=>Bel w wx∧SixI wx w.heap.size (.int .i64 10) (.int .i64 m) (.int .i64 i) (.string t) (.int .i64 lo) (.int .i64 hi)∧w.heap.size<wx.heap.size)
 case first =>
  exact rk0
 case rest =>
  obtain⟨hbc,⟨a0,a1,a2,a3,a4,a5⟩,hlc⟩:=hcut
  have n0c:¬w.heap.size=wc.heap.size:=by omega
  (have hzc:=hbc.sz;obtain⟨hkc_0,hfc_0,hlc_0,hnc_0⟩:=hbc.lay (q);obtain⟨hkc_1,hfc_1,hlc_1,hnc_1⟩:=hbc.lay (b5))
  have hmf:=makeF Tryz.prog
  clear hb1 hz1 hk1_0 hf1_0 hl1_0 hn1_0 hk1_1 hf1_1 hl1_1 hn1_1
  have hb5c:¬b5=wc.heap.size:=by omega
  have q1c:=(hbc.box q hq 1).trans e1
  have x5c:=(hbc.box b5 hl5 _).trans c5_0
  exact rk127
set_option maxHeartbeats 4000000 in
theorem implIm_7 (n i:Int) (t:ByteArray) (lo hi:Int) (s:TStore) (v:VVal) (bR:Bool) (hbR:isRef v.k=bR) (hval:validB s=true) (hinv:inB s v=true) (hx:(⟨7,n,i,t,lo,hi⟩:VVal).Ok) (hc:(bR=false∧(⟨7,n,i,t,lo,hi⟩:VVal)=v)∨(bR=true∧rdV s v=(⟨7,n,i,t,lo,hi⟩,0))) (hin:inB s ⟨7,n,i,t,lo,hi⟩=true):ImC 44 s v (img0 s ⟨7,n,i,t,lo,hi⟩):=by
 intro S q w hs hv ht10 htsp
 obtain⟨m,rfl,hm,hkd⟩:=in_objI hin (by omega)
 rw[show kindI 7=5 by decide]at hkd
 obtain⟨r,ser,its,keys,hr,he⟩:=rec_of hval hm hkd
 have hnm:=rec_name hval hr
 clear hin hkd
 obtain⟨x0,x1,x2,x3,x4,x5,x6,x7,x8,x9,x10,x11,x12⟩:=s
 have HSt:=hide hs
 obtain⟨A0,c0,A1,c1,A2,c2,A3,c3,A6,c6,A7,c7,A8,c8,hq,e0,e1,e2,e3,e4,e5,e6,e7,e8,e9,e10,e11,e12,hlc0,hcm0,hlc1,hcm1,hlc2,hcm2,hlc3,hcm3,hlc6,hcm6,hlc7,hcm7,hlc8,hcm8,g4,g5,g10,g11,g12,-,HR1,HR2,-,-,-,-⟩:=StoreAt.opn hs
 clear hs
 have hqn:¬q=w.heap.size:=by omega
 have hts:=hx.t
 unfold maxLen at hts
 simp only at hts
 have htv:=hv.t
 unfold maxLen at htv
 have HV:=hide hv
 have H10:=hide ht10
 have HSP:=hide htsp
 have HVL:=hide hval
 have HIN:=hide hinv
 have HX:=hide hx
 clear hv ht10 htsp hval hinv hx
 have hbw:Bel w w:=Bel.refl w
 obtain⟨k0,n0,i0,t0,lo0,hi0⟩:=v
 have HF:=hide hbR
 have HC:=hide hc
 clear hbR hc
 simp only at htv ⊢
 simp only[TStore.objects_mk,TStore.records_mk]at hm he hr hnm
 (obtain⟨b1,o1,x1_0,x1_1,x1_2,x1_3,x1_4,A1_3,C1_3,A1_4,C1_4,hA1,hS1,hl1,hx1,hv1,g1_0,g1_1,g1_2,g1_3,g1_4,c1_0,c1_1,c1_2,c1_3,c1_4⟩:=TObject.at HR2.out m hm;subst hA1;have HV1:=hide (Dat.HoldVals.bel hbw hv1);have hh1:=hbw.box b1 hl1;have hw1:=Nat.lt_of_lt_of_le hl1 (Bel.size hbw);replace c1_0:=(hh1 _).trans c1_0;replace c1_1:=(hh1 _).trans c1_1;replace c1_2:=(hh1 _).trans c1_2;replace c1_3:=(hh1 _).trans c1_3;replace c1_4:=(hh1 _).trans c1_4;have HX1:=hide hx1;have GR1_3:=hide g1_3;have GR1_4:=hide g1_4;clear hh1 hv1 hx1 hS1 g1_3 g1_4)
 have dm:decide ((m:Int)<(x2.length:Int))=true:=by simp;omega
 have hll:=GR1_3.out.1
 have hlm:=GR1_3.out.2.1
 simp only[List.length_map]at hll
 unfold maxLen at hlm
 have hlk:=GR1_4.out.1
 have hlkm:=GR1_4.out.2.1
 simp only[List.length_map]at hlk
 unfold maxLen at hlkm
 obtain⟨rfl,rfl,rfl,rfl,rfl⟩:=TObject.mk.inj (he.symm.trans HX1.out)
 (obtain⟨b5,o5,x5_0,x5_1,x5_2,A5_1,C5_1,hA5,hS5,hl5,hx5,hv5,g5_0,g5_1,g5_2,c5_0,c5_1,c5_2⟩:=TRecordType.at HR1.out r hr;subst hA5;have HV5:=hide (Dat.HoldVals.bel hbw hv5);have hh5:=hbw.box b5 hl5;have hw5:=Nat.lt_of_lt_of_le hl5 (Bel.size hbw);replace c5_0:=(hh5 _).trans c5_0;replace c5_1:=(hh5 _).trans c5_1;replace c5_2:=(hh5 _).trans c5_2;have HX5:=hide hx5;have GR5_1:=hide g5_1;clear hh5 hv5 hx5 hS5 g5_1)
 have hnm5:x5_0.size≤12:=by have:=hnm;rw[HX5.out]at this;exact this
 clear hnm
 have dr:decide ((r:Int)<(x1.length:Int))=true:=by simp;omega
 have HZ:=hide (show InI (its.length:Int) by unfold InI;omega)
 have u1:({ data:=#[114,101,99,111,114,100,32] }:ByteArray).size≤7:=by decide
 have ga1:=run_addI u1 hnm5 (by omega)
 have HL:=hide (show (({ data:=#[114,101,99,111,114,100,32] }:ByteArray)++x5_0).size≤1000 from Nat.le_trans (add_le u1 hnm5) (by omega))
 clear u1
 have RR:=hide (show img0 (TStore.mk x0 x1 x2 x3 x4 x5 x6 x7 x8 x9 x10 x11 x12) ⟨7,m,i,t,lo,hi⟩=({ data:=#[114,101,99,111,114,100,32] }:ByteArray)++x5_0++tailT ser its.length by
  have q1:objAt (TStore.mk x0 x1 x2 x3 x4 x5 x6 x7 x8 x9 x10 x11 x12) (m:Int)=.mk 5 r ser its keys:=(objAt_get (s:=(TStore.mk x0 x1 x2 x3 x4 x5 x6 x7 x8 x9 x10 x11 x12)) hm).trans he
  have q2:recAt (TStore.mk x0 x1 x2 x3 x4 x5 x6 x7 x8 x9 x10 x11 x12) (r:Int)=x1[r]:=recAt_get (s:=(TStore.mk x0 x1 x2 x3 x4 x5 x6 x7 x8 x9 x10 x11 x12)) hr
  unfold img0;rw[if_neg (by simp),if_neg (by simp),if_neg (by simp),if_neg (by simp),if_neg (by simp),if_neg (by simp),if_neg (by simp),if_pos rfl];simp only[q1,TObject.items,TObject.serial,TObject.tag,q2];rw[HX5.out];rfl)
 go_enter Tryz.func44,Tryz.ntmps44
 go_upto_if 10 with (go_at_call 77;refine (implIsReference_any ⟨k0,n0,i0,t0,lo0,hi0⟩ _).mono ?_;rintro e w1 ⟨rfl,hb1⟩;rw[HF.out];(have hz1:=hb1.sz;obtain⟨hk1_0,hf1_0,hl1_0,hn1_0⟩:=hb1.lay (w.heap.size);obtain⟨hk1_1,hf1_1,hl1_1,hn1_1⟩:=hb1.lay (q)))
 go_cut []from 9 (fun wx=>Bel w wx∧SixI wx w.heap.size (.int .i64 7) (.int .i64 m) (.int .i64 i) (.string t) (.int .i64 lo) (.int .i64 hi)∧w.heap.size<wx.heap.size)
 case first =>
  exact rk0
 case rest =>
  obtain⟨hbc,⟨a0,a1,a2,a3,a4,a5⟩,hlc⟩:=hcut
  have n0c:¬w.heap.size=wc.heap.size:=by omega
  (have hzc:=hbc.sz;obtain⟨hkc_0,hfc_0,hlc_0,hnc_0⟩:=hbc.lay (q);obtain⟨hkc_1,hfc_1,hlc_1,hnc_1⟩:=hbc.lay (b1);obtain⟨hkc_2,hfc_2,hlc_2,hnc_2⟩:=hbc.lay (b5))
  have hmf:=makeF Tryz.prog
  clear hb1 hz1 hk1_0 hf1_0 hl1_0 hn1_0 hk1_1 hf1_1 hl1_1 hn1_1
  have hb5c:¬b5=wc.heap.size:=by omega
  have nqc:¬q=wc.heap.size:=by omega
  have hb1c:¬b1=wc.heap.size:=by omega
  go_wp2_with (fail)
  repeat (any_goals (go_quiet (fail);(try go_wp2_with (fail))))
  go_region_held3 (fun w'=>w'.cell? ⟨w.heap.size,1,none⟩=some (.int .i64 (m:Int))∧w'.cell? ⟨q,2,none⟩=some (.slice (some ⟨b1,o1,none⟩) x2.length c2)∧w'.cell? ⟨b1,o1+m*5,none⟩=some (.int .i64 5)∧w'.cell? ⟨b1,o1+m*5+1,none⟩=some (.int .i64 (r:Int))∧w'.cell? ⟨b1,o1+m*5+2,none⟩=some (.int .i64 ser)∧w'.cell? ⟨b1,o1+m*5+3,none⟩=some (.slice A1_3 its.length C1_3)∧w'.cell? ⟨b1,o1+m*5+4,none⟩=some (.slice A1_4 keys.length C1_4)) (first | exact⟨(Bel.box (W:=wc) bl (w.heap.size) hlc _).trans a1,(Bel.box (W:=w) bl (q) hq _).trans e2,(Bel.box (W:=w) bl (b1) hl1 _).trans c1_0,(Bel.box (W:=w) bl (b1) hl1 _).trans c1_1,(Bel.box (W:=w) bl (b1) hl1 _).trans c1_2,(Bel.box (W:=w) bl (b1) hl1 _).trans c1_3,(Bel.box (W:=w) bl (b1) hl1 _).trans c1_4⟩) (fail)
  go_wp2_with (fail)
  repeat (any_goals (go_quiet (fail);(try go_wp2_with (fail))))
  go_region_held3 (fun w'=>w'.cell? ⟨q,1,none⟩=some (.slice (some ⟨b5,o5,none⟩) x1.length c1)∧w'.cell? ⟨wc.heap.size,1,none⟩=some (.int .i64 (r:Int))∧w'.cell? ⟨wc.heap.size,2,none⟩=some (.int .i64 ser)∧w'.cell? ⟨wc.heap.size,3,none⟩=some (.slice A1_3 its.length C1_3)∧w'.cell? ⟨b5,o5+r*3,none⟩=some (.string x5_0)) (first | exact⟨(Bel.box (W:=w) bl (q) hq _).trans e1,ksx9,ksx9,ksx9,(Bel.box (W:=w) bl (b5) hl5 _).trans c5_0⟩) (first | (go_at_call 79;refine (sizedC_any (({ data:=#[114,101,99,111,114,100,32] }:ByteArray)++x5_0) (its.length:Int) ser wc.heap.size _ HL.out g1_2 HZ.out (H10.out.on bl) (by first | (simp;done) | (simp[* ];done) | (simp[go_sem, * ];done)) (by simp)).mono ?_;rintro e wa ⟨rfl,hba⟩;(have hza:=hba.sz;obtain⟨hka_0,hfa_0,hla_0,hna_0⟩:=hba.lay (w.heap.size);obtain⟨hka_1,hfa_1,hla_1,hna_1⟩:=hba.lay (wc.heap.size);obtain⟨hka_2,hfa_2,hla_2,hna_2⟩:=hba.lay (q))))
  go_wp2_with (fail)
  repeat (any_goals (go_quiet (fail);(try go_wp2_with (fail))))
  all_goals
   go_returns
   exact⟨by rw[RR.out];first | done | rfl,bl⟩
end Go.Proofs.YtehcjlkgfgpjnaaGreatDoor
