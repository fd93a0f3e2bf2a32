/- What a value in a store stands for: the exported function, both sides. -/
import Derived.Test.YtehcjlkgfgpjnaaGreatDoorPr
import Derived.Test.YtehcjlkgfgpjnaaGreatDoorPR1
import Derived.Test.YtehcjlkgfgpjnaaGreatDoorPR2
import Derived.Test.YtehcjlkgfgpjnaaGreatDoorPR0
import Derived.Test.YtehcjlkgfgpjnaaGreatDoorPI4
import Derived.Test.YtehcjlkgfgpjnaaGreatDoorPDsa
import Derived.Test.YtehcjlkgfgpjnaaGreatDoorPShelf
namespace Go.Proofs.YtehcjlkgfgpjnaaGreatDoor
set_option linter.unusedVariables false
set_option linter.unusedSimpArgs false
set_option maxRecDepth 100000
open Go.RowKit
--%quiet
def readI (s:TStore) (v:VVal):VVal × Int:=if inV s v=true∧v.k≤18 then rdV s v else (zeroV,111)
set_option maxHeartbeats 8000000 in
theorem specRead_any (s:TStore) (v:VVal) (S:Nat→Prop) (w:World) (vs:List Value) (hv:Dat.HoldVals w S s.D vs) (hx:v.Ok):Calls Tryz.prog 17 #[.agg vs.toArray,.agg #[.int .i64 v.k,.int .i64 v.n,.int .i64 v.i,.string v.t,.int .i64 v.lo,.int .i64 v.hi]] w fun e w'=>e=.returned (.tuple #[(readI s v).1.val,.int .i64 (readI s v).2])∧Bel w w':=by
 obtain⟨x0,x1,x2,x3,x4,x5,x6,x7,x8,x9,x10,x11,x12⟩:=s
 have HV:=hide hv
 obtain⟨A0,c0,A1,c1,A2,c2,A3,c3,A6,c6,A7,c7,A8,c8,rfl,g0,g1,g2,g3,g4,g5,g6,g7,g8,-,g10,g11,g12⟩:=TStore.vals hv
 have HR0:=hide g0
 have hlc0:=g0.1
 have hcm0:=g0.2.1
 simp only[List.length_map]at hlc0
 unfold maxLen at hcm0
 have HR1:=hide g1
 have hlc1:=g1.1
 have hcm1:=g1.2.1
 simp only[List.length_map]at hlc1
 unfold maxLen at hcm1
 have HR2:=hide g2
 have hlc2:=g2.1
 have hcm2:=g2.2.1
 simp only[List.length_map]at hlc2
 unfold maxLen at hcm2
 have HR3:=hide g3
 have hlc3:=g3.1
 have hcm3:=g3.2.1
 simp only[List.length_map]at hlc3
 unfold maxLen at hcm3
 have HR6:=hide g6
 have hlc6:=g6.1
 have hcm6:=g6.2.1
 simp only[List.length_map]at hlc6
 unfold maxLen at hcm6
 have HR7:=hide g7
 have hlc7:=g7.1
 have hcm7:=g7.2.1
 simp only[List.length_map]at hlc7
 unfold maxLen at hcm7
 have HR8:=hide g8
 have hlc8:=g8.1
 have hcm8:=g8.2.1
 simp only[List.length_map]at hlc8
 unfold maxLen at hcm8
 unfold maxLen at g4
 clear hv g0 g1 g2 g3 g6 g7 g8
 have HS1:=hide (show StoreAt (w.alloc (.cells #[.slice A0 x0.length c0,.slice A1 x1.length c1,.slice A2 x2.length c2,.slice A3 x3.length c3,.string x4,.int .i64 x5,.slice A6 x6.length c6,.slice A7 x7.length c7,.slice A8 x8.length c8,.bool x9,.int .i64 x10,.int .i64 x11,.int .i64 x12] 36)) S w.heap.size (TStore.mk x0 x1 x2 x3 x4 x5 x6 x7 x8 x9 x10 x11 x12)from StoreAt.mk_of HV.out rfl)
 have HX:=hide hx
 obtain⟨k0,n0,i0,t0,lo0,hi0⟩:=v
 have hts:=hx.t
 have gx0:=hx.k
 unfold maxLen at hts
 clear hx
 simp only at hts gx0 ⊢
 cases hb:inV (TStore.mk x0 x1 x2 x3 x4 x5 x6 x7 x8 x9 x10 x11 x12) ⟨k0,n0,i0,t0,lo0,hi0⟩
 ·
  have RR:=hide (show readI (TStore.mk x0 x1 x2 x3 x4 x5 x6 x7 x8 x9 x10 x11 x12) ⟨k0,n0,i0,t0,lo0,hi0⟩=(zeroV,111) by unfold readI;rw[hb];rfl)
  have HB:=hide hb
  clear hb
  exact rk42
 ·
  have HB:=hide hb
  have hval:validB (TStore.mk x0 x1 x2 x3 x4 x5 x6 x7 x8 x9 x10 x11 x12)=true:=by unfold inV at hb;rw[Bool.and_eq_true]at hb;exact hb.1
  have hin:inB (TStore.mk x0 x1 x2 x3 x4 x5 x6 x7 x8 x9 x10 x11 x12) ⟨k0,n0,i0,t0,lo0,hi0⟩=true:=by unfold inV at hb;rw[Bool.and_eq_true]at hb;exact hb.2
  have HVL:=hide hval
  have HIN:=hide hin
  clear hval hin
  by_cases hk:k0≤18
  ·
   have dk:decide (18<k0)=false:=by simp;omega
   obtain⟨⟨r0,r1,r2,r3,r4,r5⟩,rc,hr⟩:∃(r:VVal) (c:Int),rdV (TStore.mk x0 x1 x2 x3 x4 x5 x6 x7 x8 x9 x10 x11 x12) ⟨k0,n0,i0,t0,lo0,hi0⟩=(r,c):=⟨_,_,rfl⟩
   have HR:=hide hr
   have RR:=hide (show readI (TStore.mk x0 x1 x2 x3 x4 x5 x6 x7 x8 x9 x10 x11 x12) ⟨k0,n0,i0,t0,lo0,hi0⟩=(⟨r0,r1,r2,r3,r4,r5⟩,rc) by unfold readI;rw[if_pos ⟨hb,hk⟩];exact hr)
   have HK:=hide hk
   clear hb hr
   go_enter Tryz.func17,Tryz.ntmps17
   have mkq:=True.intro
   repeat (any_goals ((first | clear mkq | go_quiet (fail));(try go_wp2_with (first | (go_at_call 18;refine (specValueIn_any (TStore.mk x0 x1 x2 x3 x4 x5 x6 x7 x8 x9 x10 x11 x12) ⟨k0,n0,i0,t0,lo0,hi0⟩ S _ _ (Dat.HoldVals.bel bl HV.out) HX.out).mono ?_;rintro e w1 ⟨rfl,hb1⟩;rw[HB.out];(have hz1:=hb1.sz;obtain⟨hk1_0,hf1_0,hl1_0,hn1_0⟩:=hb1.lay (w.heap.size);obtain⟨hk1_1,hf1_1,hl1_1,hn1_1⟩:=hb1.lay (w.heap.size+1);obtain⟨hk1_2,hf1_2,hl1_2,hn1_2⟩:=hb1.lay (w.heap.size+1+1));have Z1:=Z6.on Z6.new hb1;(try simp only[World.size_alloc]at Z1)) | (go_at_call 45;refine (specRd_any (TStore.mk x0 x1 x2 x3 x4 x5 x6 x7 x8 x9 x10 x11 x12) ⟨k0,n0,i0,t0,lo0,hi0⟩ HVL.out HIN.out HK.out S w.heap.size _ (StoreAt.bel bl HS1.out) HX.out).mono ?_;rintro e w2 ⟨rfl,hb2⟩;rw[HR.out];simp only[VVal.val];(have hz2:=hb2.sz;obtain⟨hk2_0,hf2_0,hl2_0,hn2_0⟩:=hb2.lay (w.heap.size);obtain⟨hk2_1,hf2_1,hl2_1,hn2_1⟩:=hb2.lay (w.heap.size+1);obtain⟨hk2_2,hf2_2,hl2_2,hn2_2⟩:=hb2.lay (w.heap.size+1+1));have Z2:=Z6.on Z1 hb2)))))
   all_goals
    refine gen_ret6 (Z6.on Z2 bl) fun wz d0 d1 d2 d3 d4 d5 hbz=>?_
    refine bodyPost_ret (v:=.tuple #[.agg #[.int .i64 r0,.int .i64 r1,.int .i64 r2,.string r3,.int .i64 r4,.int .i64 r5],.int .i64 rc]) (by simp[results,Tryz.results17,go_sem,d0,d1,d2,d3,d4,d5] <;> rfl) rfl ⟨?_,hbz _ bl (by omega)⟩
    rw[RR.out];first | done | rfl
  ·
   have dk:decide (18<k0)=true:=by simp;omega
   have RR:=hide (show readI (TStore.mk x0 x1 x2 x3 x4 x5 x6 x7 x8 x9 x10 x11 x12) ⟨k0,n0,i0,t0,lo0,hi0⟩=(zeroV,111) by unfold readI;rw[if_neg (fun h=>hk h.2)])
   clear hb hk
   exact rk42
end Go.Proofs.YtehcjlkgfgpjnaaGreatDoor
namespace Go.Proofs.YtehcjlkgfgpjnaaGreatDoor
set_option linter.unusedVariables false
set_option linter.unusedSimpArgs false
set_option maxRecDepth 100000
open Go.RowKit
theorem app_ne {a b:ByteArray} (h:0<a.size):a++b≠ByteArray.empty:=fun e=>by
 have h1:=congrArg ByteArray.size e
 rw[ByteArray.size_append]at h1
 have h0:ByteArray.empty.size=0:=rfl
 omega
theorem ite_ne {α:Type} {p:Prop} [Decidable p] {a b e:α} (h1:a≠e) (h2:b≠e):(if p then a else b)≠e:=by
 by_cases h:p
 ·
  rw[if_pos h];exact h1
 ·
  rw[if_neg h];exact h2
theorem itI_ne (n:Int):itI n≠ByteArray.empty:=fun e=>by
 have h:(Lib.itoa n).toArray.size=0:=congrArg ByteArray.size e
 rw[List.size_toArray]at h
 by_cases hneg:n<0
 ·
  obtain⟨u,rfl⟩:∃u:Nat,n = -(u:Int):=⟨n.natAbs,by omega⟩
  rw[Lib.itoa_neg u (by omega)]at h
  simp at h
 ·
  obtain⟨u,rfl⟩:∃u:Nat,n=u:=⟨n.toNat,by omega⟩
  rw[Lib.itoa_nonneg,Lib.decDigits_length]at h
  have:=Lib.nDigits_pos u
  omega
theorem qt_ne (q:Nat) (s:ByteArray):qt q s≠ByteArray.empty:=fun e=>by
 have h:(txt (qtL q s s.size++[q])).size=0:=congrArg ByteArray.size e
 unfold txt at h
 have h2:((List.map UInt8.ofNat (qtL q s s.size++[q])).toArray).size=0:=h
 rw[List.size_toArray,List.length_map,List.length_append]at h2
 simp at h2
theorem img0_ne (s:TStore) (v:VVal):img0 s v≠ByteArray.empty:=by
 unfold img0
 refine ite_ne (by decide) (ite_ne (itI_ne _) (ite_ne (qt_ne _ _) (ite_ne (qt_ne _ _) ?_)))
 iterate 9 refine ite_ne (app_ne (by first | decide | (rw[ByteArray.size_append];have:({ data:=#[114,101,99,111,114,100,32] }:ByteArray).size=7:=rfl;omega))) ?_
 exact ite_ne (by decide) (by decide)
theorem imgV_ne (s:TStore) (v:VVal):imgV s v≠ByteArray.empty:=by
 unfold imgV
 exact ite_ne (ite_ne (by decide) (img0_ne _ _)) (img0_ne _ _)
theorem image_no {s:TStore} {v:VVal} (h:inV s v=false):imageI s v=ByteArray.empty:=by unfold imageI;rw[h];rfl
theorem image_yes {s:TStore} {v:VVal} (h:inV s v=true):imageI s v≠ByteArray.empty:=by unfold imageI;rw[if_pos h];exact imgV_ne _ _
theorem image_read {s:TStore} {v:VVal} (h:inV s v=true):(readI s v).2≠0∨imageI s (readI s v).1=imageI s v:=by
 have h2:=h
 unfold inV at h2
 rw[Bool.and_eq_true]at h2
 unfold readI
 by_cases hk:v.k≤18
 ·
  rw[if_pos ⟨h,hk⟩]
  by_cases h0:(rdV s v).2=0
  ·
   refine Or.inr ?_
   by_cases hr:13≤v.k
   ·
    obtain⟨h12,hin⟩:=rd_in h2.1 h2.2 ⟨hr,hk⟩ h0
    have hx:inV s (rdV s v).1=true:=by unfold inV;rw[h2.1,hin];rfl
    have f1:isRef v.k=true:=by unfold isRef;rw[decide_eq_true hr,decide_eq_true hk];rfl
    have f2:isRef (rdV s v).1.k=false:=by unfold isRef;rw[decide_eq_false (by omega)];rfl
    have e1:imageI s (rdV s v).1=img0 s (rdV s v).1:=by
     unfold imageI imgV
     rw[if_pos hx,f2,if_neg Bool.false_ne_true]
    have e2:imageI s v=img0 s (rdV s v).1:=by
     unfold imageI imgV
     rw[if_pos h,f1,if_pos rfl,if_neg (fun e=>e h0)]
    rw[e1,e2]
   ·
    have e:(rdV s v).1=v:=by unfold rdV;rw[if_neg (by omega),if_neg (by omega),if_neg (by omega),if_neg (by omega),if_neg (by omega)]
    rw[e]
  ·
   exact Or.inl h0
 ·
  rw[if_neg (fun h=>hk h.2)]
  exact Or.inl (by decide)
end Go.Proofs.YtehcjlkgfgpjnaaGreatDoor
namespace Go.Proofs.YtehcjlkgfgpjnaaGreatDoor
set_option linter.unusedVariables false
set_option linter.unusedSimpArgs false
set_option maxRecDepth 100000
open Go.RowKit
theorem lawBig_any (A:Option Addr) (n cap:Nat) (w:World) :
  Calls Tryz.prog 14 #[.slice A n cap] w fun e w'=>e=.returned (.bool (decide ((1048576:Int)<(n:Int))))∧w=w':=by
 go_enter Tryz.func14,Tryz.ntmps14
 go_wp2
 all_goals
  go_returns
  exact⟨rfl,rfl⟩
theorem readI_ok {w:World} {S:Nat→Prop} {q:Nat} {s:TStore} {v:VVal} (hs:StoreAt w S q s) (hin:inV s v=true) (hx:v.Ok) (h0:(readI s v).2=0):(readI s v).1.Ok:=by
 have h2:=hin
 unfold inV at h2
 rw[Bool.and_eq_true]at h2
 by_cases hk:v.k≤18
 ·
  have e:readI s v=rdV s v:=by unfold readI;rw[if_pos ⟨hin,hk⟩]
  rw[e]at h0 ⊢
  by_cases hr:13≤v.k
  ·
   exact rd_ok hs h2.1 h2.2 ⟨hr,hk⟩ h0
  ·
   have e2:(rdV s v).1=v:=by unfold rdV;rw[if_neg (by omega),if_neg (by omega),if_neg (by omega),if_neg (by omega),if_neg (by omega)]
   rw[e2];exact hx
 ·
  have e:readI s v=(zeroV,111):=by unfold readI;rw[if_neg (fun h=>hk h.2)]
  rw[e]at h0
  cases h0
structure ImS (w wx:World) (b bv:Nat) (u0 u1 u2 u3 u4 u5 u6 u7 u8 u9 u10 u11 u12:Value) (ds:List Dat) (k n i:Int) (t:ByteArray) (lo hi:Int):Prop where
 bel:Bel w wx
 box:SB wx b u0 u1 u2 u3 u4 u5 u6 u7 u8 u9 u10 u11 u12
 vb:V6 wx bv k n i t lo hi
 val:Dat.HoldVals wx (fun _=>True) ds [u0,u1,u2,u3,u4,u5,u6,u7,u8,u9,u10,u11,u12]
theorem ImS.on {w wx wy:World} {b bv:Nat} {u0 u1 u2 u3 u4 u5 u6 u7 u8 u9 u10 u11 u12:Value} {ds:List Dat} {k n i:Int} {t:ByteArray} {lo hi:Int} (h:ImS w wx b bv u0 u1 u2 u3 u4 u5 u6 u7 u8 u9 u10 u11 u12 ds k n i t lo hi) (q:Bel wx wy):ImS w wy b bv u0 u1 u2 u3 u4 u5 u6 u7 u8 u9 u10 u11 u12 ds k n i t lo hi:=⟨h.bel.trans q,h.box.on q,h.vb.on q,Dat.HoldVals.bel q h.val⟩
theorem box_at {w:World} {b:Nat} {u0 u1 u2 u3 u4 u5 u6 u7 u8 u9 u10 u11 u12:Value} (h:SB w b u0 u1 u2 u3 u4 u5 u6 u7 u8 u9 u10 u11 u12) (j:Nat) (hj:j<13):w.cell? ⟨b,j,none⟩=[u0,u1,u2,u3,u4,u5,u6,u7,u8,u9,u10,u11,u12][j]?:=by
 obtain⟨hlb,hfb,k0,k1,k2,k3,k4,k5,k6,k7,k8,k9,k10,k11,k12⟩:=h
 match j,hj with
 | 0,_=>exact k0
 | 1,_=>exact k1
 | 2,_=>exact k2
 | 3,_=>exact k3
 | 4,_=>exact k4
 | 5,_=>exact k5
 | 6,_=>exact k6
 | 7,_=>exact k7
 | 8,_=>exact k8
 | 9,_=>exact k9
 | 10,_=>exact k10
 | 11,_=>exact k11
 | 12,_=>exact k12
 | m+13,h=>omega
set_option maxRecDepth 8000 in
set_option maxHeartbeats 4000000 in
theorem FnImages_walk (A:Option Addr) (n cap:Nat) (w:World) (hB:∀c,w.heap.size≤c→n≤1048576→Bts w c A n) (htab:Tabs w) :
  Calls Tryz.prog 4 #[.slice A n cap] w fun e w'=>e=.returned (.bool true)∧Bel w w':=by
 have HB:=hide hB
 have HTB:=hide htab
 clear hB htab
 by_cases hn:n≤1048576
 case neg =>
  have hd:=hide (show decide ((1048576:Int)<(n:Int))=true by simp;omega)
  go_enter Tryz.func4,Tryz.ntmps4
  go_wp2_with (go_at_call 14;refine (lawBig_any A n cap _).mono ?_;rintro e w1 ⟨rfl,rfl⟩;rw[hd.out])
  all_goals
   go_returns
   exact⟨rfl,bl⟩
 have hd:=hide (show decide ((1048576:Int)<(n:Int))=false by simp;omega)
 go_enter Tryz.func4,Tryz.ntmps4
 go_upto_region 4 with (first
  | (go_at_call 14;refine (lawBig_any A n cap _).mono ?_;rintro e w1 ⟨rfl,rfl⟩;rw[hd.out])
  | (go_at_call 15;refine (drawImageOf_any A n cap _ hn (fun c h=>HB.out c h hn)).mono ?_;rintro e w1 ⟨s,vs,⟨k,m,i,t,lo,hi⟩,he,hv,-,-,hx,hb1⟩;replace he:e=.returned (.tuple #[.agg vs.toArray,.agg #[.int .i64 k,.int .i64 m,.int .i64 i,.string t,.int .i64 lo,.int .i64 hi]]):=he;have HV:=hide hv;have HX:=hide hx;have Hb1:=hide hb1;clear hv hx hb1;obtain⟨A0,n0,c0,A1,n1,c1,A2,n2,c2,A3,n3,c3,x4,x5,A6,n6,c6,A7,n7,c7,A8,n8,c8,x9,x10,x11,x12,rfl⟩:=thirteen HV.out;subst he))
 refine wp_named2 fun w2 hw2=>?_
 have hb2:Bel w1 w2:=by rw[←hw2];exact bl
 have L2:=hide (show ImS w w2 w1.heap.size (w1.heap.size+1) (.slice A0 n0 c0) (.slice A1 n1 c1) (.slice A2 n2 c2) (.slice A3 n3 c3) (.string x4) (.int .i64 x5) (.slice A6 n6 c6) (.slice A7 n7 c7) (.slice A8 n8 c8) (.bool x9) (.int .i64 x10) (.int .i64 x11) (.int .i64 x12) s.D k m i t lo hi from⟨Hb1.out.trans hb2,by rw[←hw2];exact SB.on (SB.new w1 36) (Bel.alloc (Bel.refl _) _),by rw[←hw2];have h:=V6.new (w1.alloc (.cells #[.slice A0 n0 c0,.slice A1 n1 c1,.slice A2 n2 c2,.slice A3 n3 c3,.string x4,.int .i64 x5,.slice A6 n6 c6,.slice A7 n7 c7,.slice A8 n8 c8,.bool x9,.int .i64 x10,.int .i64 x11,.int .i64 x12] 36)) 48 (k:=k) (n:=m) (i:=i) (t:=t) (lo:=lo) (hi:=hi);rw[World.size_alloc]at h;exact h,Dat.HoldVals.bel hb2 (HV.out.wide (fun _ _=>trivial))⟩)
 clear hw2 hb2 HV Hb1
 obtain⟨b,hb⟩:∃x,w1.heap.size=x:=⟨_,rfl⟩
 rw[hb]at L2
 simp only[hb]
 clear hb w1
 obtain⟨hlb,hfb,kb_0,kb_1,kb_2,kb_3,kb_4,kb_5,kb_6,kb_7,kb_8,kb_9,kb_10,kb_11,kb_12⟩:=L2.out.box
 obtain⟨vl,vf,d0,d1,d2,d3,d4,d5⟩:=L2.out.vb
 obtain⟨im,him⟩:∃x,imageI s ⟨k,m,i,t,lo,hi⟩=x:=⟨_,rfl⟩
 have HIM:=hide him
 clear him
 go_upto_region 5 with (go_at_call 16;refine (implImage_any s ⟨k,m,i,t,lo,hi⟩ (fun _=>True) _ [.slice A0 n0 c0,.slice A1 n1 c1,.slice A2 n2 c2,.slice A3 n3 c3,.string x4,.int .i64 x5,.slice A6 n6 c6,.slice A7 n7 c7,.slice A8 n8 c8,.bool x9,.int .i64 x10,.int .i64 x11,.int .i64 x12] (HTB.out.1.on L2.out.bel) (HTB.out.2.on L2.out.bel) L2.out.val HX.out).mono ?_;rintro e w3 ⟨rfl,hb3⟩;rw[HIM.out];have L3:=hide (L2.out.on hb3);clear hb3)
 clear hlb hfb kb_0 kb_1 kb_2 kb_3 kb_4 kb_5 kb_6 kb_7 kb_8 kb_9 kb_10 kb_11 kb_12 vl vf d0 d1 d2 d3 d4 d5 L2
 obtain⟨hlb,hfb,kb_0,kb_1,kb_2,kb_3,kb_4,kb_5,kb_6,kb_7,kb_8,kb_9,kb_10,kb_11,kb_12⟩:=L3.out.box
 obtain⟨vl,vf,d0,d1,d2,d3,d4,d5⟩:=L3.out.vb
 obtain⟨rr,hrr⟩:∃x,readI s ⟨k,m,i,t,lo,hi⟩=x:=⟨_,rfl⟩
 obtain⟨⟨xk,xn,xi,xt,xl,xh⟩,rc⟩:=rr
 have HRR:=hide hrr
 clear hrr
 go_upto_region 6 with (go_at_call 17;refine (specRead_any s ⟨k,m,i,t,lo,hi⟩ (fun _=>True) _ [.slice A0 n0 c0,.slice A1 n1 c1,.slice A2 n2 c2,.slice A3 n3 c3,.string x4,.int .i64 x5,.slice A6 n6 c6,.slice A7 n7 c7,.slice A8 n8 c8,.bool x9,.int .i64 x10,.int .i64 x11,.int .i64 x12] L3.out.val HX.out).mono ?_;rintro e w4 ⟨he,hb4⟩;rw[HRR.out]at he;replace he:e=.returned (.tuple #[.agg #[.int .i64 xk,.int .i64 xn,.int .i64 xi,.string xt,.int .i64 xl,.int .i64 xh],.int .i64 rc]):=he;subst he;have L4:=hide (L3.out.on hb4);clear hb4)
 refine wp_named2 fun w5 hw5=>?_
 have hb5:Bel w4 w5:=by rw[←hw5];exact bl
 have L5:=hide (L4.out.on hb5)
 have X5:=hide (show V6 w5 w4.heap.size xk xn xi xt xl xh from by rw[←hw5];exact V6.new w4 _)
 clear hw5 hb5 L3 L4 hlb hfb kb_0 kb_1 kb_2 kb_3 kb_4 kb_5 kb_6 kb_7 kb_8 kb_9 kb_10 kb_11 kb_12 vl vf d0 d1 d2 d3 d4 d5
 obtain⟨bx,hbx⟩:∃x,w4.heap.size=x:=⟨_,rfl⟩
 rw[hbx]at X5
 simp only[hbx]
 clear hbx w4
 obtain⟨hlb,hfb,kb_0,kb_1,kb_2,kb_3,kb_4,kb_5,kb_6,kb_7,kb_8,kb_9,kb_10,kb_11,kb_12⟩:=L5.out.box
 obtain⟨vl,vf,d0,d1,d2,d3,d4,d5⟩:=L5.out.vb
 obtain⟨iv,hiv⟩:∃x,inV s ⟨k,m,i,t,lo,hi⟩=x:=⟨_,rfl⟩
 have HIV:=hide hiv
 clear hiv
 go_upto_if 27 with (go_at_call 18;refine (specValueIn_any s ⟨k,m,i,t,lo,hi⟩ (fun _=>True) _ [.slice A0 n0 c0,.slice A1 n1 c1,.slice A2 n2 c2,.slice A3 n3 c3,.string x4,.int .i64 x5,.slice A6 n6 c6,.slice A7 n7 c7,.slice A8 n8 c8,.bool x9,.int .i64 x10,.int .i64 x11,.int .i64 x12] L5.out.val HX.out).mono ?_;rintro e w6 ⟨rfl,hb6⟩;rw[HIV.out];have L6:=hide (L5.out.on hb6);have X6:=hide (X5.out.on hb6);clear hb6)
 clear hlb hfb kb_0 kb_1 kb_2 kb_3 kb_4 kb_5 kb_6 kb_7 kb_8 kb_9 kb_10 kb_11 kb_12 vl vf d0 d1 d2 d3 d4 d5 L5 X5
 cases iv
 ·
  have e0:im=ByteArray.empty:=by rw[←HIM.out];exact image_no HIV.out
  subst e0
  go_wp2_with (fail)
  all_goals
   go_returns
   exact⟨rfl,L6.out.bel.trans bl⟩
 ·
  have e0:im≠ByteArray.empty:=by rw[←HIM.out];exact image_yes HIV.out
  have e4:¬im.toList=[]:=fun h=>e0 ((ba_eq im ByteArray.empty).1 (h.trans (show []=ByteArray.empty.toList from (ByteArray.toList_eq ByteArray.empty).symm)))
  have hrd:=image_read HIV.out
  rw[HRR.out,HIM.out]at hrd
  by_cases hc:rc=0
  ·
   subst hc
   have hok:(⟨xk,xn,xi,xt,xl,xh⟩:VVal).Ok:=by
    have h:=readI_ok (w:=w6) (q:=b) ⟨L6.out.box.1,_,L6.out.val,fun j hj=>box_at L6.out.box j hj⟩ HIV.out HX.out (by rw[HRR.out])
    rw[HRR.out]at h
    exact h
   have HOK:=hide hok
   have him2:imageI s ⟨xk,xn,xi,xt,xl,xh⟩=im:=hrd.resolve_left (fun h=>h rfl)
   have HIM2:=hide him2
   clear hok him2 hrd
   obtain⟨hlb,hfb,kb_0,kb_1,kb_2,kb_3,kb_4,kb_5,kb_6,kb_7,kb_8,kb_9,kb_10,kb_11,kb_12⟩:=L6.out.box
   obtain⟨vl,vf,d0,d1,d2,d3,d4,d5⟩:=X6.out
   go_wp2_with (go_at_call 16;refine (implImage_any s ⟨xk,xn,xi,xt,xl,xh⟩ (fun _=>True) _ [.slice A0 n0 c0,.slice A1 n1 c1,.slice A2 n2 c2,.slice A3 n3 c3,.string x4,.int .i64 x5,.slice A6 n6 c6,.slice A7 n7 c7,.slice A8 n8 c8,.bool x9,.int .i64 x10,.int .i64 x11,.int .i64 x12] (HTB.out.1.on L6.out.bel) (HTB.out.2.on L6.out.bel) L6.out.val HOK.out).mono ?_;rintro e w7 ⟨rfl,hb7⟩;rw[HIM2.out];have L7:=hide (L6.out.on hb7);clear hb7)
   all_goals
    go_returns
    exact⟨by first | rfl | (simp[e4];done) | simp,L7.out.bel.trans bl⟩
  ·
   have hcb:(rc != 0)=true:=by simpa using hc
   go_wp2_with (fail)
   all_goals
    go_returns
    exact⟨by first | rfl | (simp[e4];done) | simp,L6.out.bel.trans bl⟩
end Go.Proofs.YtehcjlkgfgpjnaaGreatDoor
