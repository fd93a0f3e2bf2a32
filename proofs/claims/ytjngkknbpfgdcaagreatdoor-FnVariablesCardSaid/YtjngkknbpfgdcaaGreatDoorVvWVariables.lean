import Derived.Test.YtjngkknbpfgdcaaGreatDoorVvDsa
import Derived.Test.YtjngkknbpfgdcaaGreatDoorVvWrC
import Derived.Test.YtjngkknbpfgdcaaGreatDoorVvWrD
set_option linter.unusedVariables false
set_option linter.unusedSimpArgs false
set_option maxRecDepth 100000
set_option maxHeartbeats 8000000
namespace Go.Proofs.YtjngkknbpfgdcaaGreatDoor
open Go.RowKit Go.Proofs.Tryz
theorem Cw (A:Option Addr) (n cap:Nat) (w:World) :
  Calls prog 5 #[.slice A n cap] w fun e w'=>e=.returned (.bool (decide ((1048576:Int)<(n:Int))))/\w=w':=by
 go_enter func5,ntmps5
 go_wp2
 all_goals
  go_returns
  exact⟨rfl,rfl⟩
theorem zS (A:Option Addr) (n cap:Nat) (w:World) (hc:n<=cap) (hm:cap<=maxLen) (hA:0<n->∃b o,A=some ⟨b,o,none⟩) :
  Calls prog 12 #[.slice A n cap] w fun e w'=>(∃A' cap',e=.returned (.slice A' (n - 1) cap')/\∀w2 c,LN w2 c A n->LN w2 c A' (n - 1))/\w=w':=by
 unfold maxLen at hm
 by_cases h0:n=0
 ·
  subst h0
  go_enter func12,ntmps12
  go_wp2
  all_goals
   go_returns
   exact⟨⟨A,cap,rfl,fun _ _ h=>h⟩,rfl⟩
 ·
  obtain⟨b,o,rfl⟩:=hA aF
  obtain⟨m,rfl⟩:∃m,n=m+1:=⟨n - 1,by omega⟩
  by_cases vx:cap=1
  ·
   subst vx
   obtain rfl:m=0:=by omega
   have hsl:∀W,(Instr.slice 22 (.slice (some ⟨b,o,none⟩) (0+1) 1) (some (.int .i64 1)) none none).run prog W=.ok (.slice (some ⟨b,o,none⟩) 0 0) W:=fun W=>by
    rw[run_slice_l (P:=prog) (ht:=by rw[underlying22];kernel_rfl) (h0:=by omega) (h1:=by omega)]
    simp[sliced,go_sem,sizeOf5,Addr.add]
   go_enter func12,ntmps12
   go_wp2
   all_goals
    go_returns
    exact⟨⟨some ⟨b,o,none⟩,0,by first | rfl | simp,fun w2 c h=>⟨by omega,fun hn=>absurd hn aF⟩⟩,rfl⟩
  have hsl:∀W,(Instr.slice 22 (.slice (some ⟨b,o,none⟩) (m+1) cap) (some (.int .i64 1)) none none).run prog W=.ok (.slice (some ⟨b,o+1,none⟩) m (cap - 1)) W:=fun W=>by
   rw[run_slice_l (P:=prog) (ht:=by rw[underlying22];kernel_rfl) (h0:=by omega) (h1:=by omega)]
   simp[sliced,go_sem,sizeOf5,Addr.add]
   first | done | omega | exact vx
  go_enter func12,ntmps12
  go_wp2
  all_goals
   go_returns
   refine⟨⟨some ⟨b,o+1,none⟩,cap - 1,by first | rfl | simp,fun w2 c h=>⟨by have:=h.1;omega,fun hn=>?_⟩⟩,rfl⟩
   obtain⟨b2,o2,e,hb,BI,hj⟩:=h.2 aF
   obtain⟨rfl,rfl⟩:b=b2/\o=o2:=by simpa using e
   refine⟨b,o+1,rfl,hb,BI,fun j vw=>?_⟩
   obtain⟨x,hx,I0⟩:=hj (j+1) aF
   exact⟨x,hx,by rw[show o+1+j=o+(j+1) by omega];exact I0⟩
theorem Wq {s:O} {r v:cC} (h:Bd s r v=0) (hv:v.Ok):sZ s (yZ s r v) r v/\13<=r.k/\r.k<=18:=by
 unfold Bd at h
 by_cases AN:tQ s r v=true
 ·
  rw[if_pos AN]at h
  unfold yZ
  rw[if_pos ⟨AN,by omega⟩]
  refine⟨LZ AN hv h,?_⟩
  unfold tQ at AN
  simp only[Bool.and_eq_true,decide_eq_true_eq]at AN
  exact AN.2
 ·
  rw[if_neg AN]at h
  exact absurd h aI
theorem sZ.self {s T:O} {r v:cC} (h:sZ s T r v) (hk:r.k<=18):(lh T r).2=0/\(r.k≠18->(lh T r).1=v):=by
 have e:lh T r=nG T r:=by
  unfold lh
  rw[if_pos ⟨by unfold yO;rw[h.val,h.inn];rfl,hk⟩]
 rw[e]
 exact⟨h.rd0,h.rd⟩
theorem sZ.other {s T:O} {r v o:cC} (h:sZ s T r v) (hs:yO s o=true) (h1:13<=o.k) (h2:o.k<=16) (h3:r.k<=16) (iP:o≠r):lh T o=lh s o:=by
 have hs':=hs
 unfold yO at hs'
 rw[Bool.and_eq_true]at hs'
 obtain⟨a,b⟩:=h.gV o hs'.2 h1 h2 h3 iP
 unfold lh
 rw[if_pos ⟨by unfold yO;rw[h.val,a];rfl,by omega⟩,if_pos ⟨hs,by omega⟩,b]
structure VaS (w wx:World) (b br bv:Nat) (u0 u1 u2 u3 u4 u5 u6 u7 u8 u9 rX rY qu:Value) (ds:List Y) (rk rn ri:Int) (rt:cx) (rl rh vk vn vi:Int) (vt:cx) (vl vh:Int):Prop where
 de:U w wx
 box:SB wx b u0 u1 u2 u3 u4 u5 u6 u7 u8 u9 rX rY qu
 rb:V6 wx br rk rn ri rt rl rh
 vb:V6 wx bv vk vn vi vt vl vh
 val:Y.cA wx (fun _=>True) ds [u0,u1,u2,u3,u4,u5,u6,u7,u8,u9,rX,rY,qu]
theorem VaS.on {w wx wy:World} {b br bv:Nat} {u0 u1 u2 u3 u4 u5 u6 u7 u8 u9 rX rY qu:Value} {ds:List Y} {rk rn ri:Int} {rt:cx} {rl rh vk vn vi:Int} {vt:cx} {vl vh:Int} (h:VaS w wx b br bv u0 u1 u2 u3 u4 u5 u6 u7 u8 u9 rX rY qu ds rk rn ri rt rl rh vk vn vi vt vl vh) (q:U wx wy):VaS w wy b br bv u0 u1 u2 u3 u4 u5 u6 u7 u8 u9 rX rY qu ds rk rn ri rt rl rh vk vn vi vt vl vh:=⟨h.de.trans q,h.box.on q,h.rb.on q,h.vb.on q,Y.cA.de q h.val⟩
structure OuS (wx:World) (b:Nat) (u0 u1 u2 u3 u4 u5 u6 u7 u8 u9 rX rY qu:Value) (ds:List Y):Prop where
 box:SB wx b u0 u1 u2 u3 u4 u5 u6 u7 u8 u9 rX rY qu
 val:Y.cA wx (fun _=>True) ds [u0,u1,u2,u3,u4,u5,u6,u7,u8,u9,rX,rY,qu]
theorem OuS.on {wx wy:World} {b:Nat} {u0 u1 u2 u3 u4 u5 u6 u7 u8 u9 rX rY qu:Value} {ds:List Y} (h:OuS wx b u0 u1 u2 u3 u4 u5 u6 u7 u8 u9 rX rY qu ds) (q:U wx wy):OuS wy b u0 u1 u2 u3 u4 u5 u6 u7 u8 u9 rX rY qu ds:=⟨h.box.on q,Y.cA.de q h.val⟩
theorem FnVariables_walk (A:Option Addr) (n cap:Nat) (w:World) (hB:∀c,w.heap.size<=c->n<=1048576->LN w c A n) (hcap:n<=cap) (hmax:cap<=maxLen) (j6:Sy w) :
  Calls prog 3 #[.slice A n cap] w fun e w'=>e=.returned (.bool true)/\U w w':=by
 have HB:=I hB
 have Zi:=I j6
 have HCM:=I (And.intro hcap hmax)
 clear hB j6 hcap hmax
 by_cases hn:n<=1048576
 case neg =>
  have hd:=I (show decide ((1048576:Int)<(n:Int))=true by simp;omega)
  go_enter func3,ntmps3
  go_wp2_with (go_at_call 5;refine (Cw A n cap _).mono ?_;rintro e w1 ⟨rfl,rfl⟩;rw[hd.out])
  all_goals
   go_returns
   exact⟨rfl,bl⟩
 have HN:=I hn
 have hd:=I (show decide ((1048576:Int)<(n:Int))=false by simp;omega)
 clear hn
 go_enter func3,ntmps3
 go_upto_region 4 with (first
  | (go_at_call 5;refine (Cw A n cap _).mono ?_;rintro e w1 ⟨rfl,rfl⟩;rw[hd.out])
  | (go_at_call 6;refine (tf A n cap _ HN.out (fun c h=>HB.out c h HN.out)).mono ?_;rintro e w1 ⟨⟨x0,x1,x2,x3,x4,x5,x6,x7,x8,x9,F,G,Z⟩,vs,⟨rk,rn,ri,rt,rl,rh⟩,⟨vk,vn,vi,vt,vl,vh⟩,he,hv,amA,Xj,hr,hx,dE⟩;replace he:e=.returned (.tuple #[.agg vs.toArray,.agg #[.int .i64 rk,.int .i64 rn,.int .i64 ri,.string rt,.int .i64 rl,.int .i64 rh],.agg #[.int .i64 vk,.int .i64 vn,.int .i64 vi,.string vt,.int .i64 vl,.int .i64 vh]]):=he;have HV:=I hv;have HR:=I hr;have HX:=I hx;have Hb1:=I dE;have HMD:=I Xj;obtain⟨A0,c0,A1,c1,A2,c2,A3,c3,A6,c6,A7,c7,A8,c8,rfl,-⟩:=O.gK hv;clear hv hr hx dE Xj amA;subst he))
 refine cZ fun w2 nn=>?_
 have gC:U w1 w2:=by rw[<-nn];exact bl
 have L:=I (show VaS w w2 w1.heap.size (w1.heap.size+1) (w1.heap.size+1+1) (.slice A0 x0.length c0) (.slice A1 x1.length c1) (.slice A2 x2.length c2) (.slice A3 x3.length c3) (.string x4) (.int .i64 x5) (.slice A6 x6.length c6) (.slice A7 x7.length c7) (.slice A8 x8.length c8) (.bool x9) (.int .i64 F) (.int .i64 G) (.int .i64 Z) (O.mk x0 x1 x2 x3 x4 x5 x6 x7 x8 x9 F G Z).D rk rn ri rt rl rh vk vn vi vt vl vh from⟨Hb1.out.trans gC,by rw[<-nn];exact SB.on (SB.new w1 30) (U.alloc (U.alloc (U.refl _) _) _),by rw[<-nn];have h:=V6.new (w1.alloc (.cells #[.slice A0 x0.length c0,.slice A1 x1.length c1,.slice A2 x2.length c2,.slice A3 x3.length c3,.string x4,.int .i64 x5,.slice A6 x6.length c6,.slice A7 x7.length c7,.slice A8 x8.length c8,.bool x9,.int .i64 F,.int .i64 G,.int .i64 Z] 30)) 34 (k:=rk) (n:=rn) (i:=ri) (t:=rt) (lo:=rl) (hi:=rh);rw[World.size_alloc]at h;exact h.on (U.alloc (U.refl _) _),by rw[<-nn];have h:=V6.new ((w1.alloc (.cells #[.slice A0 x0.length c0,.slice A1 x1.length c1,.slice A2 x2.length c2,.slice A3 x3.length c3,.string x4,.int .i64 x5,.slice A6 x6.length c6,.slice A7 x7.length c7,.slice A8 x8.length c8,.bool x9,.int .i64 F,.int .i64 G,.int .i64 Z] 30)).alloc (.cells #[.int .i64 rk,.int .i64 rn,.int .i64 ri,.string rt,.int .i64 rl,.int .i64 rh] 34)) 34 (k:=vk) (n:=vn) (i:=vi) (t:=vt) (lo:=vl) (hi:=vh);rw[World.size_alloc,World.size_alloc]at h;exact h,Y.cA.de gC (HV.out.wide (fun _ _=>trivial))⟩)
 clear nn gC HV Hb1
 obtain⟨b,hb⟩:∃x,w1.heap.size=x:=⟨_,rfl⟩
 obtain⟨br,jg⟩:∃x,w1.heap.size+1=x:=⟨_,rfl⟩
 obtain⟨bv,Gg⟩:∃x,w1.heap.size+1+1=x:=⟨_,rfl⟩
 rw[Gg,jg,hb]at L
 simp only[Gg]
 simp only[jg]
 simp only[hb]
 clear hb jg Gg
 obtain⟨lP,l4,gM,gN,gH,gO,gP,gQ,gR,gS,gT,gU,fu,fv,fw⟩:=L.out.box
 obtain⟨Sz,SA,Cx,Cy,Cz,CA,CB,CC⟩:=L.out.rb
 obtain⟨vl0,vf0,Og,Oh,Oi,Oj,Ol,Om⟩:=L.out.vb
 have hln:Y.Gf (O.mk x0 x1 x2 x3 x4 x5 x6 x7 x8 x9 F G Z).D<=1048576:=by have:=HMD.out.2.2;omega
 have HLN:=I hln
 clear hln
 obtain⟨T,hT⟩:∃T,yZ (O.mk x0 x1 x2 x3 x4 x5 x6 x7 x8 x9 F G Z) ⟨rk,rn,ri,rt,rl,rh⟩ ⟨vk,vn,vi,vt,vl,vh⟩=T:=⟨_,rfl⟩
 obtain⟨cc,hC⟩:∃c,Bd (O.mk x0 x1 x2 x3 x4 x5 x6 x7 x8 x9 F G Z) ⟨rk,rn,ri,rt,rl,rh⟩ ⟨vk,vn,vi,vt,vl,vh⟩=c:=⟨_,rfl⟩
 obtain⟨y0,y1,y2,y3,y4,y5,y6,y7,y8,y9,te,sV,vr⟩:=T
 have HT:=I hT
 have HC:=I hC
 clear hT hC
 go_upto_region 5 with (go_at_call 7;refine (Ka (O.mk x0 x1 x2 x3 x4 x5 x6 x7 x8 x9 F G Z) ⟨rk,rn,ri,rt,rl,rh⟩ ⟨vk,vn,vi,vt,vl,vh⟩ (fun _=>True) _ [.slice A0 x0.length c0,.slice A1 x1.length c1,.slice A2 x2.length c2,.slice A3 x3.length c3,.string x4,.int .i64 x5,.slice A6 x6.length c6,.slice A7 x7.length c7,.slice A8 x8.length c8,.bool x9,.int .i64 F,.int .i64 G,.int .i64 Z] (Zi.out.1.on (U.trans L.out.de bl)) (Zi.out.2.on (U.trans L.out.de bl)) (Y.cA.de bl L.out.val) HR.out HX.out HLN.out).mono ?_;rintro e w3 ⟨us,L3,he,GP,-,-,jx⟩;rw[HT.out]at GP;rw[HC.out]at he;have OY:=I (Y.dh.gK (S:=fun _=>True) (fun _ _=>trivial) GP);obtain⟨B0,d0,B1,d1,B2,d2,B3,d3,B6,d6,B7,d7,B8,d8,rfl,-⟩:=O.gK OY.out;subst he;have L3:=I (L.out.on jx);clear jx GP)
 refine cZ fun w4 LH=>?_
 have sU:U w3 w4:=by rw[<-LH];exact bl
 have L4:=I (L3.out.on sU)
 have M4:=I (show OuS w4 w3.heap.size (.slice B0 y0.length d0) (.slice B1 y1.length d1) (.slice B2 y2.length d2) (.slice B3 y3.length d3) (.string y4) (.int .i64 y5) (.slice B6 y6.length d6) (.slice B7 y7.length d7) (.slice B8 y8.length d8) (.bool y9) (.int .i64 te) (.int .i64 sV) (.int .i64 vr) (O.mk y0 y1 y2 y3 y4 y5 y6 y7 y8 y9 te sV vr).D from⟨by rw[<-LH];exact SB.new w3 30,Y.cA.de sU OY.out⟩)
 clear LH sU OY L L3
 clear lP l4 gM gN gH gO gP gQ gR gS gT gU fu fv fw Sz SA Cx Cy Cz CA CB CC vl0 vf0 Og Oh Oi Oj Ol Om
 obtain⟨bo,tn⟩:∃x,w3.heap.size=x:=⟨_,rfl⟩
 rw[tn]at M4
 simp only[tn]
 clear tn w3
 obtain⟨lP,l4,gM,gN,gH,gO,gP,gQ,gR,gS,gT,gU,fu,fv,fw⟩:=L4.out.box
 obtain⟨Sz,SA,Cx,Cy,Cz,CA,CB,CC⟩:=L4.out.rb
 obtain⟨vl0,vf0,Og,Oh,Oi,Oj,Ol,Om⟩:=L4.out.vb
 go_upto_region 6 with (go_at_call 8;refine (Kb (O.mk x0 x1 x2 x3 x4 x5 x6 x7 x8 x9 F G Z) ⟨rk,rn,ri,rt,rl,rh⟩ ⟨vk,vn,vi,vt,vl,vh⟩ (fun _=>True) _ [.slice A0 x0.length c0,.slice A1 x1.length c1,.slice A2 x2.length c2,.slice A3 x3.length c3,.string x4,.int .i64 x5,.slice A6 x6.length c6,.slice A7 x7.length c7,.slice A8 x8.length c8,.bool x9,.int .i64 F,.int .i64 G,.int .i64 Z] (Zi.out.1.on (U.trans L4.out.de bl)) (Zi.out.2.on (U.trans L4.out.de bl)) (Y.cA.de bl L4.out.val) HR.out HX.out HLN.out).mono ?_;rintro e w5 ⟨us,L3,he,GP,-,-,jx⟩;rw[HT.out]at GP;rw[HC.out]at he;have OY:=I (Y.dh.gK (S:=fun _=>True) (fun _ _=>trivial) GP);obtain⟨E0,e0,E1,e1,E2,e2,E3,e3,E6,e6,E7,e7,E8,e8,rfl,-⟩:=O.gK OY.out;subst he;have L5:=I (L4.out.on jx);have M5:=I (M4.out.on jx);clear jx GP)
 refine cZ fun wr jO=>?_
 have SC:U w5 wr:=by rw[<-jO];exact bl
 have L:=I (L5.out.on SC)
 have M:=I (M5.out.on SC)
 clear jO SC L4 M4 L5 M5 OY
 clear lP l4 gM gN gH gO gP gQ gR gS gT gU fu fv fw Sz SA Cx Cy Cz CA CB CC vl0 vf0 Og Oh Oi Oj Ol Om
 by_cases hc:cc=0
 case neg =>
  have Xk:(cc != 0)=true:=by simpa using hc
  have KN:(cc != cc)=false:=aJ
  go_wp2_with (fail)
  all_goals
   go_returns
   exact⟨by first | rfl | simp | simp[*],L.out.de.trans bl⟩
 subst hc
 have abP:=Wq HC.out HX.out
 rw[HT.out]at abP
 have HW:=I abP
 clear abP
 obtain⟨⟨⟨xk,xn,xi,xt,xl,xh⟩,rc⟩,Wr⟩:∃x,lh (O.mk y0 y1 y2 y3 y4 y5 y6 y7 y8 y9 te sV vr) ⟨rk,rn,ri,rt,rl,rh⟩=x:=⟨_,rfl⟩
 have h0:=(HW.out.1.self HW.out.2.2)
 rw[Wr]at h0
 obtain⟨h1,hxv⟩:=h0
 replace h1:rc=0:=h1
 subst h1
 have HRR:=I Wr
 have HXV:=I hxv
 clear Wr hxv
 obtain⟨lP,l4,gM,gN,gH,gO,gP,gQ,gR,gS,gT,gU,fu,fv,fw⟩:=L.out.box
 obtain⟨Sz,SA,Cx,Cy,Cz,CA,CB,CC⟩:=L.out.rb
 obtain⟨yM,Mm,On,Oo,Oq,Ot,Ou,Ov,Ow,Ox,Oy,Oz,Eh,Ei,Ej⟩:=M.out.box
 go_upto_region 11 with (go_at_call 9;refine (yr (O.mk y0 y1 y2 y3 y4 y5 y6 y7 y8 y9 te sV vr) ⟨rk,rn,ri,rt,rl,rh⟩ (fun _=>True) _ [.slice B0 y0.length d0,.slice B1 y1.length d1,.slice B2 y2.length d2,.slice B3 y3.length d3,.string y4,.int .i64 y5,.slice B6 y6.length d6,.slice B7 y7.length d7,.slice B8 y8.length d8,.bool y9,.int .i64 te,.int .i64 sV,.int .i64 vr] (Zi.out.1.on (U.trans L.out.de bl)) (Y.cA.de bl M.out.val) HR.out).mono ?_;rintro e w7 ⟨he,Py⟩;rw[HRR.out]at he;replace he:e=.returned (.tuple #[.agg #[.int .i64 xk,.int .i64 xn,.int .i64 xi,.string xt,.int .i64 xl,.int .i64 xh],.int .i64 0]):=he;subst he;have L7:=I (L.out.on Py);have M7:=I (M.out.on Py);clear Py)
 refine cZ fun w8 I8=>?_
 have zA:U w7 w8:=by rw[<-I8];exact bl
 have L8:=I (L7.out.on zA)
 have M8:=I (M7.out.on zA)
 have X8:=I (show V6 w8 w7.heap.size xk xn xi xt xl xh from by rw[<-I8];exact V6.new w7 _)
 clear I8 zA L M L7 M7
 clear lP l4 gM gN gH gO gP gQ gR gS gT gU fu fv fw Sz SA Cx Cy Cz CA CB CC
 clear yM Mm On Oo Oq Ot Ou Ov Ow Ox Oy Oz Eh Ei Ej
 obtain⟨bx,jl⟩:∃x,w7.heap.size=x:=⟨_,rfl⟩
 rw[jl]at X8
 simp only[jl]
 clear jl w7
 obtain⟨lP,l4,gM,gN,gH,gO,gP,gQ,gR,gS,gT,gU,fu,fv,fw⟩:=L8.out.box
 obtain⟨Sz,SA,Cx,Cy,Cz,CA,CB,CC⟩:=L8.out.rb
 obtain⟨vl0,vf0,Og,Oh,Oi,Oj,Ol,Om⟩:=L8.out.vb
 obtain⟨yM,Mm,On,Oo,Oq,Ot,Ou,Ov,Ow,Ox,Oy,Oz,Eh,Ei,Ej⟩:=M8.out.box
 obtain⟨xl0,xf0,ahw,ahx,ahy,ahz,ahA,ahB⟩:=X8.out
 have HVA:=I HW.out.1.val
 by_cases hk:rk=18
 ·
  have d18:(rk != 18)=false:=by simpa using hk
  have HK:=I (show ¬rk<=16 by omega)
  clear hk
  go_upto_region 13 with (go_at_call 10;refine (jn (O.mk y0 y1 y2 y3 y4 y5 y6 y7 y8 y9 te sV vr) (fun _=>True) _ [.slice B0 y0.length d0,.slice B1 y1.length d1,.slice B2 y2.length d2,.slice B3 y3.length d3,.string y4,.int .i64 y5,.slice B6 y6.length d6,.slice B7 y7.length d7,.slice B8 y8.length d8,.bool y9,.int .i64 te,.int .i64 sV,.int .i64 vr] (Zi.out.1.on (U.trans L8.out.de bl)) (Y.cA.de bl M8.out.val)).mono ?_;rintro e w9 ⟨rfl,qz⟩;rw[HVA.out];have L9:=I (L8.out.on qz);have M9:=I (M8.out.on qz);obtain⟨rl1,rf1,abQ,abR,abS,abT,abU,abV⟩:=L9.out.rb;obtain⟨vl1,vf1,abW,abX,abY,abZ,ab1,ab2⟩:=L9.out.vb;obtain⟨xl1,xf1,ab3,ab4,ab5,ab6,ab7,ab8⟩:=X8.out.on qz;clear qz)
  refine cZ fun wq hwq=>?_
  have DM:U w9 wq:=by rw[<-hwq];exact bl
  have L:=I (L9.out.on DM)
  have M:=I (M9.out.on DM)
  clear hwq DM L8 M8 X8 L9 M9 d18 rl1 rf1 abQ abR abS abT abU abV vl1 vf1 abW abX abY abZ ab1 ab2 xl1 xf1 ab3 ab4 ab5 ab6 ab7 ab8
  clear lP l4 gM gN gH gO gP gQ gR gS gT gU fu fv fw Sz SA Cx Cy Cz CA CB CC vl0 vf0 Og Oh Oi Oj Ol Om
  clear yM Mm On Oo Oq Ot Ou Ov Ow Ox Oy Oz Eh Ei Ej
  clear xl0 xf0 ahw ahx ahy ahz ahA ahB
  clear w8
  clear w9
  go_upto_region 14 with (first
   | (go_at_call 12;refine (zS A n cap _ HCM.out.1 HCM.out.2 (fun h=>by obtain⟨b2,o2,e,-⟩:=(HB.out w.heap.size (Nat.le_refl _) HN.out).2 h;exact⟨b2,o2,e⟩)).mono ?_;rintro e w10 ⟨⟨At,ab9,rfl,hbt⟩,rfl⟩;have HBT:=I hbt;clear hbt)
   | (go_at_call 11;refine (og At (n - 1) ab9 _ (by have:=HN.out;omega) (fun c h=>HBT.out _ c (LN.on (HB.out c (aw (U.size (U.trans L.out.de bl)) h) HN.out) (ic.dH (U.trans L.out.de bl))))).mono ?_;rintro e IG ⟨t2,vs2,⟨ok,on,oi,ot,ol,oh⟩,he,oZ,-,-,-,ho,Kc⟩;replace he:e=.returned (.tuple #[.agg vs2.toArray,.agg #[.int .i64 ok,.int .i64 on,.int .i64 oi,.string ot,.int .i64 ol,.int .i64 oh]]):=he;have HO:=I ho;obtain⟨G0,m0,q0,G1,m1,q1,G2,m2,q2,G3,m3,q3,g4,g5,G6,m6,q6,G7,m7,q7,G8,m8,q8,g9,g10,g11,g12,rfl⟩:=yh oZ;subst he;have L11:=I (L.out.on (U.trans bl Kc));have M11:=I (M.out.on (U.trans bl Kc));clear oZ ho Kc))
  refine cZ fun w12 Bq=>?_
  have Kd:U IG w12:=by rw[<-Bq];exact bl
  have OC:=I (L11.out.on Kd)
  have M12:=I (M11.out.on Kd)
  have Zj:=I (show V6 w12 (IG.heap.size+1) ok on oi ot ol oh from by rw[<-Bq];have h:=V6.new (IG.alloc (.cells #[.slice G0 m0 q0,.slice G1 m1 q1,.slice G2 m2 q2,.slice G3 m3 q3,.string g4,.int .i64 g5,.slice G6 m6 q6,.slice G7 m7 q7,.slice G8 m8 q8,.bool g9,.int .i64 g10,.int .i64 g11,.int .i64 g12] 30)) 34 (k:=ok) (n:=on) (i:=oi) (t:=ot) (lo:=ol) (hi:=oh);rw[World.size_alloc]at h;exact h)
  clear Bq Kd L M L11 M11 HBT
  obtain⟨bq,DM⟩:∃x,IG.heap.size+1=x:=⟨_,rfl⟩
  obtain⟨bq0,SD⟩:∃x,IG.heap.size=x:=⟨_,rfl⟩
  rw[DM]at Zj
  simp only[DM]
  simp only[SD]
  clear DM SD IG
  obtain⟨lP,l4,gM,gN,gH,gO,gP,gQ,gR,gS,gT,gU,fu,fv,fw⟩:=OC.out.box
  obtain⟨Sz,SA,Cx,Cy,Cz,CA,CB,CC⟩:=OC.out.rb
  obtain⟨ol0,of0,Ws,Wt,Wu,Wv,Ww,Wx⟩:=Zj.out
  obtain⟨q1,Dh⟩:∃q,cC.pn ⟨ok,on,oi,ot,ol,oh⟩ ⟨rk,rn,ri,rt,rl,rh⟩=q:=⟨_,rfl⟩
  have sH:=fun w=>(nu ok on oi ot ol oh rk rn ri rt rl rh w).trans (by rw[Dh])
  have HQ:=I Dh
  clear Dh
  cases q1
  case true =>
   exact Ll
  by_cases GK:ok<13
  case pos =>
   exact ahF
  have d13:decide (ok<13)=false:=ax GK
  by_cases h16:16<ok
  case pos =>
   exact ahG
  have d16:decide (16<ok)=false:=ax h16
  have dr:decide (16<rk)=true:=ay (by have:=HK.out;omega)
  exact Ll
 ·
  have d18:(rk != 18)=true:=by simpa using hk
  obtain⟨rfl,rfl,rfl,rfl,rfl,rfl⟩:=cC.mk.inj (HXV.out hk)
  have sH:=fun w=>(Wb xk xn xi xt xl xh xk xn xi xt xl xh w).trans (by rw[cC.xV])
  go_upto_region 13 with (go_at_call 10;refine (jn (O.mk y0 y1 y2 y3 y4 y5 y6 y7 y8 y9 te sV vr) (fun _=>True) _ [.slice B0 y0.length d0,.slice B1 y1.length d1,.slice B2 y2.length d2,.slice B3 y3.length d3,.string y4,.int .i64 y5,.slice B6 y6.length d6,.slice B7 y7.length d7,.slice B8 y8.length d8,.bool y9,.int .i64 te,.int .i64 sV,.int .i64 vr] (Zi.out.1.on (U.trans L8.out.de bl)) (Y.cA.de bl M8.out.val)).mono ?_;rintro e w9 ⟨rfl,qz⟩;rw[HVA.out];have L9:=I (L8.out.on qz);have M9:=I (M8.out.on qz);obtain⟨rl1,rf1,abQ,abR,abS,abT,abU,abV⟩:=L9.out.rb;obtain⟨vl1,vf1,abW,abX,abY,abZ,ab1,ab2⟩:=L9.out.vb;obtain⟨xl1,xf1,ab3,ab4,ab5,ab6,ab7,ab8⟩:=X8.out.on qz;clear qz)
  refine cZ fun wq hwq=>?_
  have DM:U w9 wq:=by rw[<-hwq];exact bl
  have L:=I (L9.out.on DM)
  have M:=I (M9.out.on DM)
  clear hwq DM L8 M8 X8 L9 M9 d18 sH hk rl1 rf1 abQ abR abS abT abU abV vl1 vf1 abW abX abY abZ ab1 ab2 xl1 xf1 ab3 ab4 ab5 ab6 ab7 ab8
  clear lP l4 gM gN gH gO gP gQ gR gS gT gU fu fv fw Sz SA Cx Cy Cz CA CB CC vl0 vf0 Og Oh Oi Oj Ol Om
  clear yM Mm On Oo Oq Ot Ou Ov Ow Ox Oy Oz Eh Ei Ej
  clear xl0 xf0 ahw ahx ahy ahz ahA ahB
  clear w8
  clear w9
  go_upto_region 14 with (first
   | (go_at_call 12;refine (zS A n cap _ HCM.out.1 HCM.out.2 (fun h=>by obtain⟨b2,o2,e,-⟩:=(HB.out w.heap.size (Nat.le_refl _) HN.out).2 h;exact⟨b2,o2,e⟩)).mono ?_;rintro e w10 ⟨⟨At,ab9,rfl,hbt⟩,rfl⟩;have HBT:=I hbt;clear hbt)
   | (go_at_call 11;refine (og At (n - 1) ab9 _ (by have:=HN.out;omega) (fun c h=>HBT.out _ c (LN.on (HB.out c (aw (U.size (U.trans L.out.de bl)) h) HN.out) (ic.dH (U.trans L.out.de bl))))).mono ?_;rintro e IG ⟨t2,vs2,⟨ok,on,oi,ot,ol,oh⟩,he,oZ,-,-,-,ho,Kc⟩;replace he:e=.returned (.tuple #[.agg vs2.toArray,.agg #[.int .i64 ok,.int .i64 on,.int .i64 oi,.string ot,.int .i64 ol,.int .i64 oh]]):=he;have HO:=I ho;obtain⟨G0,m0,q0,G1,m1,q1,G2,m2,q2,G3,m3,q3,g4,g5,G6,m6,q6,G7,m7,q7,G8,m8,q8,g9,g10,g11,g12,rfl⟩:=yh oZ;subst he;have L11:=I (L.out.on (U.trans bl Kc));have M11:=I (M.out.on (U.trans bl Kc));clear oZ ho Kc))
  refine cZ fun w12 Bq=>?_
  have Kd:U IG w12:=by rw[<-Bq];exact bl
  have OC:=I (L11.out.on Kd)
  have M12:=I (M11.out.on Kd)
  have Zj:=I (show V6 w12 (IG.heap.size+1) ok on oi ot ol oh from by rw[<-Bq];have h:=V6.new (IG.alloc (.cells #[.slice G0 m0 q0,.slice G1 m1 q1,.slice G2 m2 q2,.slice G3 m3 q3,.string g4,.int .i64 g5,.slice G6 m6 q6,.slice G7 m7 q7,.slice G8 m8 q8,.bool g9,.int .i64 g10,.int .i64 g11,.int .i64 g12] 30)) 34 (k:=ok) (n:=on) (i:=oi) (t:=ot) (lo:=ol) (hi:=oh);rw[World.size_alloc]at h;exact h)
  clear Bq Kd L M L11 M11 HBT
  obtain⟨bq,DM⟩:∃x,IG.heap.size+1=x:=⟨_,rfl⟩
  obtain⟨bq0,SD⟩:∃x,IG.heap.size=x:=⟨_,rfl⟩
  rw[DM]at Zj
  simp only[DM]
  simp only[SD]
  clear DM SD IG
  obtain⟨lP,l4,gM,gN,gH,gO,gP,gQ,gR,gS,gT,gU,fu,fv,fw⟩:=OC.out.box
  obtain⟨Sz,SA,Cx,Cy,Cz,CA,CB,CC⟩:=OC.out.rb
  obtain⟨ol0,of0,Ws,Wt,Wu,Wv,Ww,Wx⟩:=Zj.out
  obtain⟨q1,Dh⟩:∃q,cC.pn ⟨ok,on,oi,ot,ol,oh⟩ ⟨rk,rn,ri,rt,rl,rh⟩=q:=⟨_,rfl⟩
  have sH:=fun w=>(nu ok on oi ot ol oh rk rn ri rt rl rh w).trans (by rw[Dh])
  have HQ:=I Dh
  clear Dh
  cases q1
  case true =>
   exact Ll
  by_cases GK:ok<13
  case pos =>
   exact ahF
  have d13:decide (ok<13)=false:=ax GK
  by_cases h16:16<ok
  case pos =>
   exact ahG
  have d16:decide (16<ok)=false:=ax h16
  by_cases ahH:16<rk
  case pos =>
   have dr:decide (16<rk)=true:=ay ahH
   exact Ll
  have dr:decide (16<rk)=false:=ax ahH
  obtain⟨iv,ye⟩:∃q,yO (O.mk x0 x1 x2 x3 x4 x5 x6 x7 x8 x9 F G Z) ⟨ok,on,oi,ot,ol,oh⟩=q:=⟨_,rfl⟩
  have Wy:=I ye
  clear ye
  cases iv
  case false =>
   go_wp2_with (go_at_call 13;refine (iS (O.mk x0 x1 x2 x3 x4 x5 x6 x7 x8 x9 F G Z) ⟨ok,on,oi,ot,ol,oh⟩ (fun _=>True) _ [.slice A0 x0.length c0,.slice A1 x1.length c1,.slice A2 x2.length c2,.slice A3 x3.length c3,.string x4,.int .i64 x5,.slice A6 x6.length c6,.slice A7 x7.length c7,.slice A8 x8.length c8,.bool x9,.int .i64 F,.int .i64 G,.int .i64 Z] (Y.cA.de bl OC.out.val) HO.out).mono ?_;rintro e w13 ⟨rfl,F5⟩;rw[Wy.out];have L13:=I (OC.out.on (U.trans bl F5));have M13:=I (M12.out.on (U.trans bl F5));have O13:=I (Zj.out.on (U.trans bl F5));clear F5;obtain⟨IJ,Uk,Dk,Dl,Dm,Dn,Dp,Dq,Dr,Dt,Du,Dv,vO,vP,vQ⟩:=L13.out.box;obtain⟨ol1,of1,ahJ,ahK,ahL,ahM,ahN,ahO⟩:=O13.out)
   all_goals
    go_returns
    exact⟨by first | rfl | simp | simp[*],L13.out.de.trans bl⟩
  have acb:=HW.out.1.other Wy.out (show 13<=ok by omega) (show ok<=16 by omega) (show rk<=16 by omega) (fun e=>by have h:=HQ.out;rw[e,cC.xV]at h;exact absurd h aI)
  obtain⟨⟨⟨ak,an,ai,at0,al,ah⟩,ac⟩,haa⟩:∃x,lh (O.mk x0 x1 x2 x3 x4 x5 x6 x7 x8 x9 F G Z) ⟨ok,on,oi,ot,ol,oh⟩=x:=⟨_,rfl⟩
  rw[haa]at acb
  have HAA:=I haa
  have HOT:=I acb
  clear haa acb
  go_upto_region 17 with (first
   | (go_at_call 13;refine (iS (O.mk x0 x1 x2 x3 x4 x5 x6 x7 x8 x9 F G Z) ⟨ok,on,oi,ot,ol,oh⟩ (fun _=>True) _ [.slice A0 x0.length c0,.slice A1 x1.length c1,.slice A2 x2.length c2,.slice A3 x3.length c3,.string x4,.int .i64 x5,.slice A6 x6.length c6,.slice A7 x7.length c7,.slice A8 x8.length c8,.bool x9,.int .i64 F,.int .i64 G,.int .i64 Z] (Y.cA.de bl OC.out.val) HO.out).mono ?_;rintro e w13 ⟨rfl,F5⟩;rw[Wy.out];have L13:=I (OC.out.on (U.trans bl F5));have M13:=I (M12.out.on (U.trans bl F5));have O13:=I (Zj.out.on (U.trans bl F5));clear F5;obtain⟨IJ,Uk,Dk,Dl,Dm,Dn,Dp,Dq,Dr,Dt,Du,Dv,vO,vP,vQ⟩:=L13.out.box;obtain⟨ol1,of1,ahJ,ahK,ahL,ahM,ahN,ahO⟩:=O13.out)
   | (go_at_call 14;refine (FL (O.mk x0 x1 x2 x3 x4 x5 x6 x7 x8 x9 F G Z) ⟨ok,on,oi,ot,ol,oh⟩ (fun _=>True) _ [.slice A0 x0.length c0,.slice A1 x1.length c1,.slice A2 x2.length c2,.slice A3 x3.length c3,.string x4,.int .i64 x5,.slice A6 x6.length c6,.slice A7 x7.length c7,.slice A8 x8.length c8,.bool x9,.int .i64 F,.int .i64 G,.int .i64 Z] (Y.cA.de bl L13.out.val) HO.out).mono ?_;rintro e w14 ⟨he,Wz⟩;rw[HAA.out]at he;replace he:e=.returned (.tuple #[.agg #[.int .i64 ak,.int .i64 an,.int .i64 ai,.string at0,.int .i64 al,.int .i64 ah],.int .i64 ac]):=he;subst he;have L14:=I (L13.out.on (U.trans bl Wz));have M14:=I (M13.out.on (U.trans bl Wz));have O14:=I (O13.out.on (U.trans bl Wz));clear Wz))
  refine cZ fun w15 acd=>?_
  have WA:U w14 w15:=by rw[<-acd];exact bl
  have L15:=I (L14.out.on WA)
  have M15:=I (M14.out.on WA)
  have O15:=I (O14.out.on WA)
  have A15:=I (show V6 w15 w14.heap.size ak an ai at0 al ah from by rw[<-acd];exact V6.new w14 _)
  clear acd WA OC M12 Zj L13 M13 O13 L14 M14 O14 d13 d16 dr sH
  clear lP l4 gM gN gH gO gP gQ gR gS gT gU fu fv fw Sz SA Cx Cy Cz CA CB CC ol0 of0 Ws Wt Wu Wv Ww Wx IJ Uk Dk Dl Dm Dn Dp Dq Dr Dt Du Dv vO vP vQ ol1 of1 ahJ ahK ahL ahM ahN ahO
  obtain⟨ba,nL⟩:∃x,w14.heap.size=x:=⟨_,rfl⟩
  rw[nL]at A15
  simp only[nL]
  clear nL w14
  obtain⟨yM,Mm,On,Oo,Oq,Ot,Ou,Ov,Ow,Ox,Oy,Oz,Eh,Ei,Ej⟩:=M15.out.box
  obtain⟨ol0,of0,Ws,Wt,Wu,Wv,Ww,Wx⟩:=O15.out
  go_upto_region 18 with (go_at_call 9;refine (yr (O.mk y0 y1 y2 y3 y4 y5 y6 y7 y8 y9 te sV vr) ⟨ok,on,oi,ot,ol,oh⟩ (fun _=>True) _ [.slice B0 y0.length d0,.slice B1 y1.length d1,.slice B2 y2.length d2,.slice B3 y3.length d3,.string y4,.int .i64 y5,.slice B6 y6.length d6,.slice B7 y7.length d7,.slice B8 y8.length d8,.bool y9,.int .i64 te,.int .i64 sV,.int .i64 vr] (Zi.out.1.on (U.trans L15.out.de bl)) (Y.cA.de bl M15.out.val) HO.out).mono ?_;rintro e w16 ⟨he,hb16⟩;rw[HOT.out]at he;replace he:e=.returned (.tuple #[.agg #[.int .i64 ak,.int .i64 an,.int .i64 ai,.string at0,.int .i64 al,.int .i64 ah],.int .i64 ac]):=he;subst he;have L16:=I (L15.out.on (U.trans bl hb16));have A16:=I (A15.out.on (U.trans bl hb16));clear hb16)
  refine cZ fun w17 ace=>?_
  have acf:U w16 w17:=by rw[<-ace];exact bl
  have L17:=I (L16.out.on acf)
  have A17:=I (A16.out.on acf)
  have B17:=I (show V6 w17 w16.heap.size ak an ai at0 al ah from by rw[<-ace];exact V6.new w16 _)
  clear ace acf L15 M15 O15 A15 L16 A16
  clear yM Mm On Oo Oq Ot Ou Ov Ow Ox Oy Oz Eh Ei Ej
  clear ol0 of0 Ws Wt Wu Wv Ww Wx
  obtain⟨bz,sS⟩:∃x,w16.heap.size=x:=⟨_,rfl⟩
  rw[sS]at B17
  simp only[sS]
  clear sS w16
  obtain⟨al0,af0,aro,arp,arq,ars,art,aru⟩:=A17.out
  obtain⟨zl0,zf0,arv,arw,arx,ary,arz,arA⟩:=B17.out
  have sH:=fun w=>(nu ak an ai at0 al ah ak an ai at0 al ah w).trans (by rw[cC.xV])
  have dac:(ac==ac)=true:=aJ
  go_wp2_with (fail)
  all_goals
   go_returns
   exact⟨by first | rfl | simp | simp[*],L17.out.de.trans bl⟩
end Go.Proofs.YtjngkknbpfgdcaaGreatDoor
