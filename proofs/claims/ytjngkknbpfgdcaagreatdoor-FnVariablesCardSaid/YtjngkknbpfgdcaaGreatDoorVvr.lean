import Derived.Test.YtjngkknbpfgdcaaGreatDoorVva
import Derived.Shelf.Slices.Turned
import Derived.Shelf.Strconv.Itoa3
import Derived.Shelf.Strings.FieldsAny
import Derived.Shelf.Strings.FieldsFuncGrows
import Derived.Shelf.Strings.SplitShaped
set_option linter.unusedVariables false
set_option linter.unusedSimpArgs false
set_option maxRecDepth 100000
set_option maxHeartbeats 8000000
namespace Go.Proofs.YtjngkknbpfgdcaaGreatDoor
theorem jF {p:Prop} (h:p:=by first | (simp[* ];done) | (simp[go_sem, * ];done)):p:=h
theorem rk0 {p:Prop} (h:p:=by
  simp only[gZ,Act.put,aa,ab,ae,af,ag,aj]
  refine (ct (i:=0) (i2:=1) (o:=_) rfl ?s0 (ct (i:=1) (i2:=2) (o:=_) rfl ?s1 (ct (i:=2) (i2:=3) (o:=_) rfl ?s2 (ct (i:=3) (i2:=4) (o:=_) rfl ?s3 (ct (i:=4) (i2:=5) (o:=_) rfl ?s4 (ct (i:=5) (i2:=6) (o:=_) rfl ?s5 (ct (i:=6) (i2:=7) (o:=_) rfl ?s6 (ct (i:=7) (i2:=8) (o:=_) rfl ?s7 (ct (i:=8) (i2:=9) (o:=_) rfl ?s8 (ct (i:=9) (i2:=10) (o:=_) rfl ?s9 (ct (i:=10) (i2:=11) (o:=_) rfl ?s10 (ct (i:=11) (i2:=12) (o:=_) rfl ?s11 (ct (i:=12) (i2:=13) (o:=_) rfl ?s12 (fW aI))))))))))))))
  case s0 =>
   intro uf wa s hs ha cl hJ K hK
   obtain⟨cQ,cI,cG,cN,cR,eQ,ef,dC,eh,dU,eU,eR,dB,eu⟩:=hJ
   simp only[Act.put,aa,ab,ae,af,ag,aj]at hK |-
   go_simp
   exact hK.out _ _ ⟨cQ,fun _=>rfl,cG,cN,cR,eQ,ef,dC,eh,dU,eU,eR,dB,eu⟩
  case s1 =>
   intro uf wa s hs ha cl hJ K hK
   obtain⟨cQ,cI,cG,cN,cR,eQ,ef,dC,eh,dU,eU,eR,dB,eu⟩:=hJ
   have nR:=cI (ha 0 aG)
   simp only[Act.put,aa,ab,ae,af,ag,aj]at hK |-
   rw[nR]at hK |-
   go_simp
   exact hK.out _ _ ⟨cQ,cI,fun _=>rfl,cN,cR,eQ,ef,dC,eh,dU,eU,eR,dB,eu⟩
  case s2 =>
   intro uf wa s hs ha cl hJ K hK
   obtain⟨cQ,cI,cG,cN,cR,eQ,ef,dC,eh,dU,eU,eR,dB,eu⟩:=hJ
   have qs:=cG (ha 1 aG)
   simp only[Act.put,aa,ab,ae,af,ag,aj]at hK |-
   rw[qs]at hK |-
   go_simp
   exact hK.out _ _ ⟨cQ,cI,cG,fun _=>rfl,cR,eQ,ef,dC,eh,dU,eU,eR,dB,eu⟩
  case s3 =>
   intro uf wa s hs ha cl hJ K hK
   obtain⟨cQ,cI,cG,cN,cR,eQ,ef,dC,eh,dU,eU,eR,dB,eu⟩:=hJ
   have sN:=cN (ha 2 aG)
   simp only[Act.put,aa,ab,ae,af,ag,aj]at hK |-
   rw[sN]at hK |-
   have q1:=(cQ.box q hq _).trans mo
   go_simp
   exact hK.out _ _ ⟨cQ,cI,cG,cN,fun _=>rfl,eQ,ef,dC,eh,dU,eU,eR,dB,eu⟩
  case s4 =>
   intro uf wa s hs ha cl hJ K hK
   obtain⟨cQ,cI,cG,cN,cR,eQ,ef,dC,eh,dU,eU,eR,dB,eu⟩:=hJ
   simp only[Act.put,aa,ab,ae,af,ag,aj]at hK |-
   go_simp
   exact hK.out _ _ ⟨cQ,cI,cG,cN,cR,fun _=>rfl,ef,dC,eh,dU,eU,eR,dB,eu⟩
  case s5 =>
   intro uf wa s hs ha cl hJ K hK
   obtain⟨cQ,cI,cG,cN,cR,eQ,ef,dC,eh,dU,eU,eR,dB,eu⟩:=hJ
   have Km:=eQ (ha 4 aG)
   simp only[Act.put,aa,ab,ae,af,ag,aj]at hK |-
   rw[Km]at hK |-
   have q1:=(cQ.box r4 R4.out.lt _).trans R4.out.c1
   go_simp
   exact hK.out _ _ ⟨cQ,cI,cG,cN,cR,eQ,fun _=>rfl,dC,eh,dU,eU,eR,dB,eu⟩
  case s6 =>
   intro uf wa s hs ha cl hJ K hK
   obtain⟨cQ,cI,cG,cN,cR,eQ,ef,dC,eh,dU,eU,eR,dB,eu⟩:=hJ
   have uj:=cR (ha 3 aG)
   have Fb:=ef (ha 5 aG)
   simp only[Act.put,aa,ab,ae,af,ag,aj]at hK |-
   rw[uj]at hK |-
   rw[Fb]at hK |-
   go_simp
   exact hK.out _ _ ⟨cQ,cI,cG,cN,cR,eQ,ef,fun _=>rfl,eh,dU,eU,eR,dB,eu⟩
  case s7 =>
   intro uf wa s hs ha cl hJ K hK
   obtain⟨cQ,cI,cG,cN,cR,eQ,ef,dC,eh,dU,eU,eR,dB,eu⟩:=hJ
   have yH:=dC (ha 6 aG)
   simp only[Act.put,aa,ab,ae,af,ag,aj]at hK |-
   rw[yH]at hK |-
   go_simp
   exact hK.out _ _ ⟨cQ,cI,cG,cN,cR,eQ,ef,dC,fun _=>rfl,dU,eU,eR,dB,eu⟩
  case s8 =>
   intro uf wa s hs ha cl hJ K hK
   obtain⟨cQ,cI,cG,cN,cR,eQ,ef,dC,eh,dU,eU,eR,dB,eu⟩:=hJ
   have F9:=eh (ha 7 aG)
   simp only[Act.put,aa,ab,ae,af,ag,aj]at hK |-
   rw[F9]at hK |-
   have q1:=(cQ.box g hg _).trans AV
   go_simp
   exact hK.out _ _ ⟨cQ,cI,cG,cN,cR,eQ,ef,dC,eh,fun _=>rfl,eU,eR,dB,eu⟩
  case s9 =>
   intro uf wa s hs ha cl hJ K hK
   obtain⟨cQ,cI,cG,cN,cR,eQ,ef,dC,eh,dU,eU,eR,dB,eu⟩:=hJ
   simp only[Act.put,aa,ab,ae,af,ag,aj]at hK |-
   go_simp
   exact hK.out _ _ ⟨cQ,cI,cG,cN,cR,eQ,ef,dC,eh,dU,fun _=>rfl,eR,dB,eu⟩
  case s10 =>
   intro uf wa s hs ha cl hJ K hK
   obtain⟨cQ,cI,cG,cN,cR,eQ,ef,dC,eh,dU,eU,eR,dB,eu⟩:=hJ
   have Kn:=eU (ha 9 aG)
   simp only[Act.put,aa,ab,ae,af,ag,aj]at hK |-
   rw[Kn]at hK |-
   have q1:=(cQ.box r4 R4.out.lt _).trans R4.out.c2
   go_simp
   exact hK.out _ _ ⟨cQ,cI,cG,cN,cR,eQ,ef,dC,eh,dU,eU,fun _=>rfl,dB,eu⟩
  case s11 =>
   intro uf wa s hs ha cl hJ K hK
   obtain⟨cQ,cI,cG,cN,cR,eQ,ef,dC,eh,dU,eU,eR,dB,eu⟩:=hJ
   simp only[Act.put,aa,ab,ae,af,ag,aj]at hK |-
   have q0:=(cQ.box r5 R5.out.lt 0).trans R5.out.c0
   have q1:=(cQ.box r5 R5.out.lt 1).trans R5.out.c1
   have q2:=(cQ.box r5 R5.out.lt 2).trans R5.out.c2
   have q3:=(cQ.box r5 R5.out.lt 3).trans R5.out.c3
   have q4:=(cQ.box r5 R5.out.lt 4).trans R5.out.c4
   have q5:=(cQ.box r5 R5.out.lt 5).trans R5.out.c5
   go_simp
   exact hK.out _ _ ⟨cQ,cI,cG,cN,cR,eQ,ef,dC,eh,dU,eU,eR,fun _=>rfl,eu⟩
  case s12 =>
   intro uf wa s hs ha cl hJ K hK
   obtain⟨cQ,cI,cG,cN,cR,eQ,ef,dC,eh,dU,eU,eR,dB,eu⟩:=hJ
   have CG:=dU (ha 8 aG)
   have CD:=eR (ha 10 aG)
   simp only[Act.put,aa,ab,ae,af,ag,aj]at hK |-
   rw[CG]at hK |-
   rw[CD]at hK |-
   go_simp
   exact hK.out _ _ ⟨cQ,cI,cG,cN,cR,eQ,ef,dC,eh,dU,eU,eR,dB,fun _=>rfl⟩):p:=h
theorem rk1 {p:Prop} (h:p:=by
  go_enter Tryz.func41,Tryz.ntmps41
  have eF:=True.intro
  repeat (any_goals ((first | clear eF | go_quiet (fail));(try go_wp2_with (first | (go_at_call 27;(with_reducible refine (ee (O.mk x0 x1 x2 x3 x4 x5 x6 x7 x8 x9 F G Z) ⟨19,cD,cE,cB,cF,cO⟩ S q _ (cv.de bl HS.out) ⟨eN,fi,eO,Bi.out,gD,gE⟩).mono ?_);rintro e yP ⟨rfl,er⟩;rw[kG.out];(have nH:=er.sz;obtain⟨iU,iV,iW,iX⟩:=er.lay (w.heap.size);obtain⟨iY,iZ,ja,jb⟩:=er.lay (q);obtain⟨rr,ru,rv,ry⟩:=er.lay (b1))) | (go_at_call 27;(with_reducible refine (ee (O.mk x0 x1 x2 x3 x4 x5 x6 x7 x8 x9 F G Z) ⟨19,dw,dx,dy,dz,dA⟩ S q _ (cv.de bl HS.out) ⟨kv,kz,kA,Ed.out,kD,kE⟩).mono ?_);rintro e Ug ⟨rfl,jI⟩;rw[oJ.out];(have Di:=jI.sz;obtain⟨rz,rA,rB,rC⟩:=jI.lay (w.heap.size);obtain⟨rD,rE,rF,rG⟩:=jI.lay (q);obtain⟨zh,zi,zj,zk⟩:=jI.lay (b1))) | (go_at_call 27;(with_reducible refine (ee (O.mk x0 x1 x2 x3 x4 x5 x6 x7 x8 x9 F G Z) ⟨1,gh,iI,iJ,iK,iL⟩ S q _ (cv.de bl HS.out) ⟨Jv,Jw,Jx,GT3.out,Jy,Jz⟩).mono ?_);rintro e wi3 ⟨rfl,Gd⟩;rw[Lr.out];(have anb:=Gd.sz;obtain⟨ac1,ac2,ac3,ac4⟩:=Gd.lay (w.heap.size);obtain⟨ac5,ac6,ac7,ac8⟩:=Gd.lay (q);obtain⟨ac9,ada,adb,ade⟩:=Gd.lay (b1)))))))
  all_goals
   go_returns
   exact⟨by rw[RR.out];first | done | rfl,bl⟩):p:=h
theorem KJ {p:Prop} (h:p:=by
  clear hw
  go_enter Tryz.func27,Tryz.ntmps27
  have eF:=True.intro
  repeat (any_goals ((first | clear eF | go_quiet (fail));(try go_wp2_with (first | (go_at_call 83;refine (jo _ _ hv).mono ?_;rintro e w1 ⟨rfl,dE⟩;(have jZ:=dE.sz;obtain⟨fA,fJ,fI,fP⟩:=dE.lay (w.heap.size);obtain⟨fX,fY,gi,gj⟩:=dE.lay (q));rw[HW.out])))))
  all_goals
   go_returns
   exact⟨by rw[RR.out];first | done | rfl,bl⟩):p:=h
theorem Eb {p:Prop} (h:p:=by
  have HH:=I hh
  clear hh
  go_enter Tryz.func27,Tryz.ntmps27
  have eF:=True.intro
  repeat (any_goals ((first | clear eF | go_quiet (fail));(try go_wp2_with (first | (go_at_call 83;refine (jo _ _ hv).mono ?_;rintro e w1 ⟨rfl,dE⟩;(have jZ:=dE.sz;obtain⟨fA,fJ,fI,fP⟩:=dE.lay (w.heap.size);obtain⟨fX,fY,gi,gj⟩:=dE.lay (q));rw[HW.out]) | (go_at_call 39;refine (qW (O.mk x0 x1 x2 x3 x4 x5 x6 x7 x8 x9 F G Z) _ _ S q _ (cv.de bl js.out)).mono ?_;rintro e w2 ⟨rfl,gC⟩;(have xX:=gC.sz;obtain⟨vF,vG,vH,vK⟩:=gC.lay (w.heap.size);obtain⟨D6,D7,D8,Ea⟩:=gC.lay (q));rw[HH.out])))))
  all_goals
   go_returns
   exact⟨by rw[RR.out];first | done | rfl,bl⟩):p:=h
theorem sM {p:Prop} (h:p:=by
  go_enter Tryz.func41,Tryz.ntmps41
  go_wp2_with (fail)
  repeat (any_goals (go_quiet (fail);(try go_wp2_with (fail))))
  all_goals
   go_returns
   exact⟨by rw[RR.out];first | done | rfl,bl⟩):p:=h
theorem rk5 {p:Prop} (h:p:=by
  have je:decide ((keys.length:Int)<=40)=true:=ay aF
  have jf:decide (40<(keys.length:Int))=false:=ax aF
  have yx:((its.length:Int)==(keys.length:Int)+1)=true:=aK
  have sL:((its.length:Int)==1+(keys.length:Int))=true:=aK
  have CK:((its.length:Int)==wrap64 (1+(keys.length:Int)))=true:=by rw[ze aF aF];exact ay kI
  have oL:=I ju
  have mQ:=I ib
  have kO:=I eS
  clear dn fH ju ib kI eS
  go_enter Tryz.func41,Tryz.ntmps41
  have eF:=True.intro
  repeat (any_goals ((first | clear eF | go_quiet (fail));(try go_wp2_with (first | (go_at_call 96;(with_reducible refine (pf keys S' _ _ _ (Row.de bl rR.out)).mono ?_);rintro e wdk ⟨rfl,qt⟩;rw[oL.out];(have TV:=qt.sz;obtain⟨CL,CM,CN,CO⟩:=qt.lay (w.heap.size);obtain⟨CP,CQ,CR,CS⟩:=qt.lay (q))) | (go_at_call 40;(with_reducible refine (gY (O.mk x0 x1 x2 x3 x4 x5 x6 x7 x8 x9 F G Z) keys S S' q _ _ _ (cv.de bl HS.out) (Row.de bl rR.out)).mono ?_);rintro e wak ⟨rfl,qj⟩;rw[mQ.out];(have Rx:=qj.sz;obtain⟨Cd,Ce,Cf,Cg⟩:=qj.lay (w.heap.size);obtain⟨Ch,Ci,Cj,Ck⟩:=qj.lay (q))) | (go_at_call 40;(with_reducible refine (gY (O.mk x0 x1 x2 x3 x4 x5 x6 x7 x8 x9 F G Z) its S S' q _ _ _ (cv.de bl HS.out) (Row.de bl lL.out)).mono ?_);rintro e Rw ⟨rfl,jt⟩;rw[kO.out];(have Cc:=jt.sz;obtain⟨qb,qc,qd,qe⟩:=jt.lay (w.heap.size);obtain⟨qf,qg,qh,qi⟩:=jt.lay (q)))))))
  all_goals
   go_returns
   exact⟨by rw[RR.out];first | done | rfl,bl⟩):p:=h
theorem rk6 {p:Prop} (h:p:=by
  obtain⟨m,rfl,m1,hm,dX⟩:=hrel
  have gy:m<s.size->IntKind.i64.wrap ((m:Int)+1)=(m:Int)+1:=fun _=>by rw[IntKind.wrap_i64];omega
  by_cases hc:m<s.size/\ft s m=32
  ·
   obtain⟨h1,h2⟩:=hc
   have hd:decide ((m:Int)<(s.size:Int))=true:=aH
   have hB:=lY s m h1
   rw[h2]at hB
   have hE:=I (aaM h1 h2)
   go_wp2_with (fail)
   exact⟨⟨m+1,rfl,h1,I (hE.out.trans hm.out),dX⟩,by simp only[intOf];omega⟩
  ·
   have anc:=I hc
   have hI:Hid (qU s=m):=by rw[<-hm.out];exact aeT hc
   clear hc hm
   by_cases h1:m<s.size
   have hd:decide ((m:Int)<(s.size:Int))=true:=aH
   have hB:=I (lY s m h1)
   have h2:¬s[m].toNat=32:=by rw[hB.out];exact fun e=>anc.out ⟨h1,e⟩
   go_wp2_with (fail)
   rotate_left
   have hd:decide ((m:Int)<(s.size:Int))=false:=aH
   go_wp2_with (fail)
   all_goals
    go_loopw [5] (fun v wr=>∃z:Nat,v=.int .i64 z/\z<=s.size/\m<=z/\Hid (tr s m z=tN s)/\U w wr) (fun v _=>(intOf v).toNat)
    case atStart=>exact⟨s.size,rfl,by omega,by omega,by unfold tN;rw[hI.out];rfl,bl⟩
    case round =>
     clear gy
     obtain⟨z,rfl,z1,z2,hz,dX⟩:=hrel
     have gy:m<z->IntKind.i64.wrap ((z:Int) - 1)=(z:Int) - 1:=fun _=>by rw[IntKind.wrap_i64];omega
     by_cases hc:m<z/\ft s (z - 1)=32
     ·
      obtain⟨g1,g2⟩:=hc
      have GC:decide ((m:Int)<(z:Int))=true:=aH
      have jP:z - 1<s.size:=aF
      have hB2:=lY s (z - 1) jP
      rw[g2]at hB2
      have hE:=I (aaN g1 g2)
      have i1:0<=(z:Int) - 1:=aF
      have i2:(z:Int) - 1<s.size:=aF
      go_wp2_with (fail)
      clear gy
      exact⟨⟨z - 1,by congr 1;omega,by omega,by omega,I (hE.out.trans hz.out),dX⟩,by simp only[intOf];omega⟩
     ·
      have hZ:Hid (tN s=z):=by rw[<-hz.out];exact aeV hc
      have ain:=I hc
      clear hc hz
      by_cases g1:m<z
      ·
       (try (exfalso;omega))
       all_goals
        have h1:m<s.size:=aF
        have hB:=I (lY s m h1)
        have GC:decide ((m:Int)<(z:Int))=true:=aH
        have jP:z - 1<s.size:=aF
        have hB2:=I (lY s (z - 1) jP)
        have g2:¬s[z - 1].toNat=32:=by rw[hB2.out];exact fun e=>ain.out ⟨g1,e⟩
        have i1:0<=(z:Int) - 1:=aF
        have i2:(z:Int) - 1<s.size:=aF
        have Un:qU s<tN s:=by rw[hI.out,hZ.out];exact g1
        rcases (show ft s m=45\/ft s m=43\/(¬ft s m=45/\¬ft s m=43) by omega)with rZ | rZ | rZ
        ·
         obtain⟨A1,A2'⟩:=Ja Un (by rw[hI.out];exact rZ)
         have A2:=I A2'
         clear A2'
         rw[hI.out]at A1
         have hM:s[m].toNat=45:=hB.out.trans rZ
         have HA:=I A1
         clear A1
         by_cases k1:z<(m+1)+1
         ·
          have hF:=I (uA (s:=s) (by rw[HA.out,hZ.out];exact k1))
          go_wp2_with (fail)
          all_goals
           go_returns
           rw[hF.out]
           exact⟨rfl,bl⟩
         ·
          by_cases k2:(m+1)+12<z
          ·
           have hF:=I (Bv (s:=s) (by rw[HA.out,hZ.out];exact k2))
           go_wp2_with (fail)
           all_goals
            go_returns
            rw[hF.out]
            exact⟨rfl,bl⟩
          ·
           go_wp2_with (fail)
           go_loopw [4,7] (fun av nv wr=>∃(a:Nat) (v:Int),av=.int .i64 a/\nv=.int .i64 v/\a<=z/\(m+1)<=a/\Hid (dv s z a v=dv s z (m+1) 0)/\VB v (a - (m+1))/\U w wr) (fun av _ _=>z - (intOf av).toNat)
           case atStart=>exact⟨m+1,0,rfl,rfl,by omega,by omega,rfl,by rw[Nat.sub_self];exact VB.zero,bl⟩
           case round =>
            clear gy
            obtain⟨a,v,rfl,rfl,a1,a2,hv,hb,dX⟩:=hrel
            obtain⟨v1,v2⟩:=hb.le aF
            by_cases q1:a<z
            ·
             have hd3:decide ((a:Int)<(z:Int))=true:=aH
             have TW:a<s.size:=aF
             have Ls:=I (lY s a TW)
             by_cases q2:48<=ft s a/\ft s a<=57
             ·
              have hE3:=I (I9 (v:=v) q1 q2)
              have gC:=hb.step q2.1 q2.2
              have l1:48<=s[a].toNat:=by rw[Ls.out];exact q2.1
              have l2:s[a].toNat<=57:=by rw[Ls.out];exact q2.2
              have w3:IntKind.u8.wrap ((s[a].toNat:Int) - 48)=(s[a].toNat:Int) - 48:=bJ
              obtain⟨q3,q4⟩:=q2
              go_wp2_with (fail)
              refine⟨⟨a+1,10*v+ft s a - 48,rfl,by congr 1;rw[Ls.out];(try omega),by omega,by omega,I (hE3.out.trans hv.out),by rw[show a+1 - (m+1)=a - (m+1)+1 by omega];exact gC,dX⟩,by simp only[intOf];omega⟩
             ·
              have hF:=I (Fg (s:=s) bM)
              rcases (show s[a].toNat<48\/57<s[a].toNat by rw[Ls.out];omega)with l1 | l1
              all_goals
               go_wp2_with (fail)
               all_goals
                go_returns
                rw[hF.out]
                exact⟨rfl,bl⟩
            ·
             have hd3:decide ((a:Int)<(z:Int))=false:=aH
             have hF:=I (Bw (s:=s) (v:=v) (by rw[hZ.out,HA.out];exact k1) (by rw[hZ.out,HA.out];exact k2) bO)
             go_wp2_with (fail)
             all_goals
              go_returns
              rw[hF.out,A2.out]
              exact⟨rfl,bl⟩
        ·
         obtain⟨A1,A2'⟩:=LV Un (by rw[hI.out];exact rZ)
         have A2:=I A2'
         clear A2'
         rw[hI.out]at A1
         have hM:s[m].toNat=43:=hB.out.trans rZ
         have HA:=I A1
         clear A1
         by_cases k1:z<(m+1)+1
         ·
          have hF:=I (uA (s:=s) (by rw[HA.out,hZ.out];exact k1))
          go_wp2_with (fail)
          all_goals
           go_returns
           rw[hF.out]
           exact⟨rfl,bl⟩
         ·
          by_cases k2:(m+1)+12<z
          ·
           have hF:=I (Bv (s:=s) (by rw[HA.out,hZ.out];exact k2))
           go_wp2_with (fail)
           all_goals
            go_returns
            rw[hF.out]
            exact⟨rfl,bl⟩
          ·
           go_wp2_with (fail)
           go_loopw [4,7] (fun av nv wr=>∃(a:Nat) (v:Int),av=.int .i64 a/\nv=.int .i64 v/\a<=z/\(m+1)<=a/\Hid (dv s z a v=dv s z (m+1) 0)/\VB v (a - (m+1))/\U w wr) (fun av _ _=>z - (intOf av).toNat)
           case atStart=>exact⟨m+1,0,rfl,rfl,by omega,by omega,rfl,by rw[Nat.sub_self];exact VB.zero,bl⟩
           case round =>
            clear gy
            obtain⟨a,v,rfl,rfl,a1,a2,hv,hb,dX⟩:=hrel
            obtain⟨v1,v2⟩:=hb.le aF
            by_cases q1:a<z
            ·
             have hd3:decide ((a:Int)<(z:Int))=true:=aH
             have TW:a<s.size:=aF
             have Ls:=I (lY s a TW)
             by_cases q2:48<=ft s a/\ft s a<=57
             ·
              have hE3:=I (I9 (v:=v) q1 q2)
              have gC:=hb.step q2.1 q2.2
              have l1:48<=s[a].toNat:=by rw[Ls.out];exact q2.1
              have l2:s[a].toNat<=57:=by rw[Ls.out];exact q2.2
              have w3:IntKind.u8.wrap ((s[a].toNat:Int) - 48)=(s[a].toNat:Int) - 48:=bJ
              obtain⟨q3,q4⟩:=q2
              go_wp2_with (fail)
              refine⟨⟨a+1,10*v+ft s a - 48,rfl,by congr 1;rw[Ls.out];(try omega),by omega,by omega,I (hE3.out.trans hv.out),by rw[show a+1 - (m+1)=a - (m+1)+1 by omega];exact gC,dX⟩,by simp only[intOf];omega⟩
             ·
              have hF:=I (Fg (s:=s) bM)
              rcases (show s[a].toNat<48\/57<s[a].toNat by rw[Ls.out];omega)with l1 | l1
              all_goals
               go_wp2_with (fail)
               all_goals
                go_returns
                rw[hF.out]
                exact⟨rfl,bl⟩
            ·
             have hd3:decide ((a:Int)<(z:Int))=false:=aH
             have hF:=I (Bw (s:=s) (v:=v) (by rw[hZ.out,HA.out];exact k1) (by rw[hZ.out,HA.out];exact k2) bO)
             go_wp2_with (fail)
             all_goals
              go_returns
              rw[hF.out,A2.out]
              exact⟨rfl,bl⟩
        ·
         obtain⟨A1,A2'⟩:=Jb (by rw[hI.out];exact rZ.1) (by rw[hI.out];exact rZ.2)
         have A2:=I A2'
         clear A2'
         rw[hI.out]at A1
         have hM1:¬s[m].toNat=45:=fun e=>rZ.1 (hB.out.symm.trans e)
         have hM2:¬s[m].toNat=43:=fun e=>rZ.2 (hB.out.symm.trans e)
         have hM3:((s[m].toNat:Int)==45)=false:=aH
         have hM4:((s[m].toNat:Int)==43)=false:=aH
         have HA:=I A1
         clear A1
         by_cases k1:z<(m)+1
         ·
          have hF:=I (uA (s:=s) (by rw[HA.out,hZ.out];exact k1))
          go_wp2_with (fail)
          all_goals
           go_returns
           rw[hF.out]
           exact⟨rfl,bl⟩
         ·
          by_cases k2:(m)+12<z
          ·
           have hF:=I (Bv (s:=s) (by rw[HA.out,hZ.out];exact k2))
           go_wp2_with (fail)
           all_goals
            go_returns
            rw[hF.out]
            exact⟨rfl,bl⟩
          ·
           go_wp2_with (fail)
           go_loopw [4,7] (fun av nv wr=>∃(a:Nat) (v:Int),av=.int .i64 a/\nv=.int .i64 v/\a<=z/\(m)<=a/\Hid (dv s z a v=dv s z (m) 0)/\VB v (a - (m))/\U w wr) (fun av _ _=>z - (intOf av).toNat)
           case atStart=>exact⟨m,0,rfl,rfl,by omega,by omega,rfl,by rw[Nat.sub_self];exact VB.zero,bl⟩
           case round =>
            clear gy
            obtain⟨a,v,rfl,rfl,a1,a2,hv,hb,dX⟩:=hrel
            obtain⟨v1,v2⟩:=hb.le aF
            by_cases q1:a<z
            ·
             have hd3:decide ((a:Int)<(z:Int))=true:=aH
             have TW:a<s.size:=aF
             have Ls:=I (lY s a TW)
             by_cases q2:48<=ft s a/\ft s a<=57
             ·
              have hE3:=I (I9 (v:=v) q1 q2)
              have gC:=hb.step q2.1 q2.2
              have l1:48<=s[a].toNat:=by rw[Ls.out];exact q2.1
              have l2:s[a].toNat<=57:=by rw[Ls.out];exact q2.2
              have w3:IntKind.u8.wrap ((s[a].toNat:Int) - 48)=(s[a].toNat:Int) - 48:=bJ
              obtain⟨q3,q4⟩:=q2
              go_wp2_with (fail)
              refine⟨⟨a+1,10*v+ft s a - 48,rfl,by congr 1;rw[Ls.out];(try omega),by omega,by omega,I (hE3.out.trans hv.out),by rw[show a+1 - (m)=a - (m)+1 by omega];exact gC,dX⟩,by simp only[intOf];omega⟩
             ·
              have hF:=I (Fg (s:=s) bM)
              rcases (show s[a].toNat<48\/57<s[a].toNat by rw[Ls.out];omega)with l1 | l1
              all_goals
               go_wp2_with (fail)
               all_goals
                go_returns
                rw[hF.out]
                exact⟨rfl,bl⟩
            ·
             have hd3:decide ((a:Int)<(z:Int))=false:=aH
             have hF:=I (Bw (s:=s) (v:=v) (by rw[hZ.out,HA.out];exact k1) (by rw[hZ.out,HA.out];exact k2) bO)
             go_wp2_with (fail)
             all_goals
              go_returns
              rw[hF.out,A2.out]
              exact⟨rfl,bl⟩
      ·
       have GC:decide ((m:Int)<(z:Int))=false:=aH
       have hF:=I (uA (s:=s) (by rw[(LU (by rw[hI.out,hZ.out];exact g1)).1,hI.out,hZ.out];omega))
       go_wp2_with (fail)
       all_goals
        go_returns
        rw[hF.out]
        exact⟨rfl,bl⟩):p:=h
theorem rk7 {p:Prop} (h:p:=by
  go_enter Tryz.func41,Tryz.ntmps41
  have eF:=True.intro
  repeat (any_goals ((first | clear eF | go_quiet (fail));(try go_wp2_with (first | (go_at_call 40;(with_reducible refine (gY (O.mk x0 x1 x2 x3 x4 x5 x6 x7 x8 x9 F G Z) its S S' q _ _ _ (cv.de bl HS.out) (Row.de bl lL.out)).mono ?_);rintro e Rw ⟨rfl,jt⟩;rw[kO.out];(have Cc:=jt.sz;obtain⟨qb,qc,qd,qe⟩:=jt.lay (w.heap.size);obtain⟨qf,qg,qh,qi⟩:=jt.lay (q)))))))
  all_goals
   go_returns
   exact⟨by rw[RR.out];first | done | rfl,bl⟩):p:=h
theorem tz {p:Prop} (h:p:=by
  go_enter Tryz.func105,Tryz.ntmps105
  go_wp2_with (fail)
  repeat (any_goals (go_quiet (fail);(try go_wp2_with (fail))))
  all_goals
   go_returns
   exact⟨by rw[RR.out];first | done | rfl,bl⟩):p:=h
theorem rk9 {p:Prop} (h:p:=by
  go_enter Tryz.func41,Tryz.ntmps41
  have eF:=True.intro
  repeat (any_goals ((first | clear eF | go_quiet (fail));(try go_wp2_with (first | (go_at_call 96;(with_reducible refine (pf keys S' _ _ _ (Row.de bl rR.out)).mono ?_);rintro e wdk ⟨rfl,qt⟩;rw[oL.out];(have TV:=qt.sz;obtain⟨CL,CM,CN,CO⟩:=qt.lay (w.heap.size);obtain⟨CP,CQ,CR,CS⟩:=qt.lay (q))) | (go_at_call 40;(with_reducible refine (gY (O.mk x0 x1 x2 x3 x4 x5 x6 x7 x8 x9 F G Z) keys S S' q _ _ _ (cv.de bl HS.out) (Row.de bl rR.out)).mono ?_);rintro e wak ⟨rfl,qj⟩;rw[mQ.out];(have Rx:=qj.sz;obtain⟨Cd,Ce,Cf,Cg⟩:=qj.lay (w.heap.size);obtain⟨Ch,Ci,Cj,Ck⟩:=qj.lay (q)))))))
  all_goals
   go_returns
   exact⟨by rw[RR.out];first | done | rfl,bl⟩):p:=h
theorem adf {p:Prop} (h:p:=by
  go_enter Tryz.func41,Tryz.ntmps41
  have eF:=True.intro
  repeat (any_goals ((first | clear eF | go_quiet (fail));(try go_wp2_with (first | (go_at_call 27;(with_reducible refine (ee (O.mk x0 x1 x2 x3 x4 x5 x6 x7 x8 x9 F G Z) ⟨19,cD,cE,cB,cF,cO⟩ S q _ (cv.de bl HS.out) ⟨eN,fi,eO,Bi.out,gD,gE⟩).mono ?_);rintro e yP ⟨rfl,er⟩;rw[kG.out];(have nH:=er.sz;obtain⟨iU,iV,iW,iX⟩:=er.lay (w.heap.size);obtain⟨iY,iZ,ja,jb⟩:=er.lay (q);obtain⟨rr,ru,rv,ry⟩:=er.lay (b1))) | (go_at_call 27;(with_reducible refine (ee (O.mk x0 x1 x2 x3 x4 x5 x6 x7 x8 x9 F G Z) ⟨19,dw,dx,dy,dz,dA⟩ S q _ (cv.de bl HS.out) ⟨kv,kz,kA,Ed.out,kD,kE⟩).mono ?_);rintro e Ug ⟨rfl,jI⟩;rw[oJ.out];(have Di:=jI.sz;obtain⟨rz,rA,rB,rC⟩:=jI.lay (w.heap.size);obtain⟨rD,rE,rF,rG⟩:=jI.lay (q);obtain⟨zh,zi,zj,zk⟩:=jI.lay (b1)))))))
  all_goals
   go_returns
   exact⟨by rw[RR.out];first | done | rfl,bl⟩):p:=h
theorem pq {p:Prop} (h:p:=by
  simp only[cC.val]
  unfold maxLen at ht
  go_enter Tryz.func107,Tryz.ntmps107
  go_wp2
  all_goals
   go_returns
   go_light
   refine⟨?_,bl⟩
   simp only[Array.getD_eq_getD_getElem?,List.getElem?_toArray,List.getElem?_cons_succ,List.getElem?_cons_zero,Option.getD_some]
   have hzz:=nV t
   first | (simp_all [dD];done) | (simp_all [dD];omega) | (unfold dD;grind)):p:=h
theorem pv {p:Prop} (h:p:=by
  simp only[cC.val]
  unfold maxLen at ht
  go_enter Tryz.func83,Tryz.ntmps83
  go_wp2
  all_goals
   go_returns
   go_light
   refine⟨?_,bl⟩
   simp only[Array.getD_eq_getD_getElem?,List.getElem?_toArray,List.getElem?_cons_succ,List.getElem?_cons_zero,Option.getD_some]
   have hzz:=nV t
   first | (simp_all [dD];done) | (simp_all [dD];omega) | (unfold dD;grind)):p:=h
theorem ahU {p:Prop} (h:p:=by
  simp only[gZ,Act.put,aa,ab,ae,af,ag,aj]
  refine (ct (i:=0) (i2:=1) (o:=_) rfl ?s0 (ct (i:=1) (i2:=2) (o:=_) rfl ?s1 (ct (i:=2) (i2:=3) (o:=_) rfl ?s2 (ct (i:=3) (i2:=4) (o:=_) rfl ?s3 (ct (i:=4) (i2:=5) (o:=_) rfl ?s4 (ct (i:=5) (i2:=6) (o:=_) rfl ?s5 (ct (i:=6) (i2:=7) (o:=_) rfl ?s6 (ct (i:=7) (i2:=8) (o:=_) rfl ?s7 (ct (i:=8) (i2:=9) (o:=_) rfl ?s8 (ct (i:=9) (i2:=10) (o:=_) rfl ?s9 (ct (i:=10) (i2:=11) (o:=_) rfl ?s10 (ct (i:=11) (i2:=12) (o:=_) rfl ?s11 (ct (i:=12) (i2:=13) (o:=_) rfl ?s12 (fW aI))))))))))))))
  case s0 =>
   intro uf wa s hs ha cl hJ K hK
   obtain⟨cQ,cI,cG,cN,cR,eQ,ef,dC,eh,dU,eU,eR,dB,eu⟩:=hJ
   simp only[Act.put,aa,ab,ae,af,ag,aj]at hK |-
   go_simp
   exact hK.out _ _ ⟨cQ,fun _=>rfl,cG,cN,cR,eQ,ef,dC,eh,dU,eU,eR,dB,eu⟩
  case s1 =>
   intro uf wa s hs ha cl hJ K hK
   obtain⟨cQ,cI,cG,cN,cR,eQ,ef,dC,eh,dU,eU,eR,dB,eu⟩:=hJ
   have nR:=cI (ha 0 aG)
   simp only[Act.put,aa,ab,ae,af,ag,aj]at hK |-
   rw[nR]at hK |-
   go_simp
   exact hK.out _ _ ⟨cQ,cI,fun _=>rfl,cN,cR,eQ,ef,dC,eh,dU,eU,eR,dB,eu⟩
  case s2 =>
   intro uf wa s hs ha cl hJ K hK
   obtain⟨cQ,cI,cG,cN,cR,eQ,ef,dC,eh,dU,eU,eR,dB,eu⟩:=hJ
   have qs:=cG (ha 1 aG)
   simp only[Act.put,aa,ab,ae,af,ag,aj]at hK |-
   rw[qs]at hK |-
   go_simp
   exact hK.out _ _ ⟨cQ,cI,cG,fun _=>rfl,cR,eQ,ef,dC,eh,dU,eU,eR,dB,eu⟩
  case s3 =>
   intro uf wa s hs ha cl hJ K hK
   obtain⟨cQ,cI,cG,cN,cR,eQ,ef,dC,eh,dU,eU,eR,dB,eu⟩:=hJ
   have sN:=cN (ha 2 aG)
   simp only[Act.put,aa,ab,ae,af,ag,aj]at hK |-
   rw[sN]at hK |-
   have q1:=(cQ.box q P2 _).trans mo
   go_simp
   exact hK.out _ _ ⟨cQ,cI,cG,cN,fun _=>rfl,eQ,ef,dC,eh,dU,eU,eR,dB,eu⟩
  case s4 =>
   intro uf wa s hs ha cl hJ K hK
   obtain⟨cQ,cI,cG,cN,cR,eQ,ef,dC,eh,dU,eU,eR,dB,eu⟩:=hJ
   simp only[Act.put,aa,ab,ae,af,ag,aj]at hK |-
   go_simp
   exact hK.out _ _ ⟨cQ,cI,cG,cN,cR,fun _=>rfl,ef,dC,eh,dU,eU,eR,dB,eu⟩
  case s5 =>
   intro uf wa s hs ha cl hJ K hK
   obtain⟨cQ,cI,cG,cN,cR,eQ,ef,dC,eh,dU,eU,eR,dB,eu⟩:=hJ
   have Km:=eQ (ha 4 aG)
   simp only[Act.put,aa,ab,ae,af,ag,aj]at hK |-
   rw[Km]at hK |-
   have q1:=(cQ.box r4 R4b.out.lt _).trans R4b.out.c1
   go_simp
   exact hK.out _ _ ⟨cQ,cI,cG,cN,cR,eQ,fun _=>rfl,dC,eh,dU,eU,eR,dB,eu⟩
  case s6 =>
   intro uf wa s hs ha cl hJ K hK
   obtain⟨cQ,cI,cG,cN,cR,eQ,ef,dC,eh,dU,eU,eR,dB,eu⟩:=hJ
   have uj:=cR (ha 3 aG)
   have Fb:=ef (ha 5 aG)
   simp only[Act.put,aa,ab,ae,af,ag,aj]at hK |-
   rw[uj]at hK |-
   rw[Fb]at hK |-
   go_simp
   exact hK.out _ _ ⟨cQ,cI,cG,cN,cR,eQ,ef,fun _=>rfl,eh,dU,eU,eR,dB,eu⟩
  case s7 =>
   intro uf wa s hs ha cl hJ K hK
   obtain⟨cQ,cI,cG,cN,cR,eQ,ef,dC,eh,dU,eU,eR,dB,eu⟩:=hJ
   have yH:=dC (ha 6 aG)
   simp only[Act.put,aa,ab,ae,af,ag,aj]at hK |-
   rw[yH]at hK |-
   go_simp
   exact hK.out _ _ ⟨cQ,cI,cG,cN,cR,eQ,ef,dC,fun _=>rfl,dU,eU,eR,dB,eu⟩
  case s8 =>
   intro uf wa s hs ha cl hJ K hK
   obtain⟨cQ,cI,cG,cN,cR,eQ,ef,dC,eh,dU,eU,eR,dB,eu⟩:=hJ
   have F9:=eh (ha 7 aG)
   simp only[Act.put,aa,ab,ae,af,ag,aj]at hK |-
   rw[F9]at hK |-
   have q1:=(cQ.box g hg _).trans AV
   go_simp
   exact hK.out _ _ ⟨cQ,cI,cG,cN,cR,eQ,ef,dC,eh,fun _=>rfl,eU,eR,dB,eu⟩
  case s9 =>
   intro uf wa s hs ha cl hJ K hK
   obtain⟨cQ,cI,cG,cN,cR,eQ,ef,dC,eh,dU,eU,eR,dB,eu⟩:=hJ
   simp only[Act.put,aa,ab,ae,af,ag,aj]at hK |-
   go_simp
   exact hK.out _ _ ⟨cQ,cI,cG,cN,cR,eQ,ef,dC,eh,dU,fun _=>rfl,eR,dB,eu⟩
  case s10 =>
   intro uf wa s hs ha cl hJ K hK
   obtain⟨cQ,cI,cG,cN,cR,eQ,ef,dC,eh,dU,eU,eR,dB,eu⟩:=hJ
   have Kn:=eU (ha 9 aG)
   simp only[Act.put,aa,ab,ae,af,ag,aj]at hK |-
   rw[Kn]at hK |-
   have q1:=(cQ.box r4 R4b.out.lt _).trans R4b.out.c2
   go_simp
   exact hK.out _ _ ⟨cQ,cI,cG,cN,cR,eQ,ef,dC,eh,dU,eU,fun _=>rfl,dB,eu⟩
  case s11 =>
   intro uf wa s hs ha cl hJ K hK
   obtain⟨cQ,cI,cG,cN,cR,eQ,ef,dC,eh,dU,eU,eR,dB,eu⟩:=hJ
   simp only[Act.put,aa,ab,ae,af,ag,aj]at hK |-
   have q0:=(cQ.box r5 qC.out.lt 0).trans qC.out.c0
   have q1:=(cQ.box r5 qC.out.lt 1).trans qC.out.c1
   have q2:=(cQ.box r5 qC.out.lt 2).trans qC.out.c2
   have q3:=(cQ.box r5 qC.out.lt 3).trans qC.out.c3
   have q4:=(cQ.box r5 qC.out.lt 4).trans qC.out.c4
   have q5:=(cQ.box r5 qC.out.lt 5).trans qC.out.c5
   go_simp
   exact hK.out _ _ ⟨cQ,cI,cG,cN,cR,eQ,ef,dC,eh,dU,eU,eR,fun _=>rfl,eu⟩
  case s12 =>
   intro uf wa s hs ha cl hJ K hK
   obtain⟨cQ,cI,cG,cN,cR,eQ,ef,dC,eh,dU,eU,eR,dB,eu⟩:=hJ
   have CG:=dU (ha 8 aG)
   have CD:=eR (ha 10 aG)
   simp only[Act.put,aa,ab,ae,af,ag,aj]at hK |-
   rw[CG]at hK |-
   rw[CD]at hK |-
   go_simp
   exact hK.out _ _ ⟨cQ,cI,cG,cN,cR,eQ,ef,dC,eh,dU,eU,eR,dB,fun _=>rfl⟩):p:=h
theorem ahR {p:Prop} (h:p:=by
  simp only[gZ,Act.put,aa,ab,ae,af,ag,aj]
  refine (ct (i:=0) (i2:=1) (o:=_) rfl ?s0 (ct (i:=1) (i2:=2) (o:=_) rfl ?s1 (ct (i:=2) (i2:=3) (o:=_) rfl ?s2 (ct (i:=3) (i2:=4) (o:=_) rfl ?s3 (ct (i:=4) (i2:=5) (o:=_) rfl ?s4 (ct (i:=5) (i2:=6) (o:=_) rfl ?s5 (ct (i:=6) (i2:=7) (o:=_) rfl ?s6 (ct (i:=7) (i2:=8) (o:=_) rfl ?s7 (ct (i:=8) (i2:=9) (o:=_) rfl ?s8 (ct (i:=9) (i2:=10) (o:=_) rfl ?s9 (ct (i:=10) (i2:=11) (o:=_) rfl ?s10 (ct (i:=11) (i2:=12) (o:=_) rfl ?s11 (fW aI)))))))))))))
  case s0 =>
   intro uf wa s hs ha cl hJ K hK
   obtain⟨cQ,eU,eR,cI,cG,cN,cR,eQ,ef,dC,eh,dU,dt⟩:=hJ
   simp only[Act.put,aa,ab,ae,af,ag,aj]at hK |-
   go_simp
   exact hK.out _ _ ⟨cQ,fun _=>rfl,eR,cI,cG,cN,cR,eQ,ef,dC,eh,dU,dt⟩
  case s1 =>
   intro uf wa s hs ha cl hJ K hK
   obtain⟨cQ,eU,eR,cI,cG,cN,cR,eQ,ef,dC,eh,dU,dt⟩:=hJ
   have Kn:=eU (ha 0 aG)
   simp only[Act.put,aa,ab,ae,af,ag,aj]at hK |-
   rw[Kn]at hK |-
   have q1:=(cQ.box r4 R4.out.lt _).trans R4.out.c2
   go_simp
   exact hK.out _ _ ⟨cQ,eU,fun _=>rfl,cI,cG,cN,cR,eQ,ef,dC,eh,dU,dt⟩
  case s2 =>
   intro uf wa s hs ha cl hJ K hK
   obtain⟨cQ,eU,eR,cI,cG,cN,cR,eQ,ef,dC,eh,dU,dt⟩:=hJ
   simp only[Act.put,aa,ab,ae,af,ag,aj]at hK |-
   go_simp
   exact hK.out _ _ ⟨cQ,eU,eR,fun _=>rfl,cG,cN,cR,eQ,ef,dC,eh,dU,dt⟩
  case s3 =>
   intro uf wa s hs ha cl hJ K hK
   obtain⟨cQ,eU,eR,cI,cG,cN,cR,eQ,ef,dC,eh,dU,dt⟩:=hJ
   have nR:=cI (ha 2 aG)
   simp only[Act.put,aa,ab,ae,af,ag,aj]at hK |-
   rw[nR]at hK |-
   go_simp
   exact hK.out _ _ ⟨cQ,eU,eR,cI,fun _=>rfl,cN,cR,eQ,ef,dC,eh,dU,dt⟩
  case s4 =>
   intro uf wa s hs ha cl hJ K hK
   obtain⟨cQ,eU,eR,cI,cG,cN,cR,eQ,ef,dC,eh,dU,dt⟩:=hJ
   have qs:=cG (ha 3 aG)
   simp only[Act.put,aa,ab,ae,af,ag,aj]at hK |-
   rw[qs]at hK |-
   go_simp
   exact hK.out _ _ ⟨cQ,eU,eR,cI,cG,fun _=>rfl,cR,eQ,ef,dC,eh,dU,dt⟩
  case s5 =>
   intro uf wa s hs ha cl hJ K hK
   obtain⟨cQ,eU,eR,cI,cG,cN,cR,eQ,ef,dC,eh,dU,dt⟩:=hJ
   have sN:=cN (ha 4 aG)
   simp only[Act.put,aa,ab,ae,af,ag,aj]at hK |-
   rw[sN]at hK |-
   have q1:=(cQ.box q hq _).trans mo
   go_simp
   exact hK.out _ _ ⟨cQ,eU,eR,cI,cG,cN,fun _=>rfl,eQ,ef,dC,eh,dU,dt⟩
  case s6 =>
   intro uf wa s hs ha cl hJ K hK
   obtain⟨cQ,eU,eR,cI,cG,cN,cR,eQ,ef,dC,eh,dU,dt⟩:=hJ
   simp only[Act.put,aa,ab,ae,af,ag,aj]at hK |-
   go_simp
   exact hK.out _ _ ⟨cQ,eU,eR,cI,cG,cN,cR,fun _=>rfl,ef,dC,eh,dU,dt⟩
  case s7 =>
   intro uf wa s hs ha cl hJ K hK
   obtain⟨cQ,eU,eR,cI,cG,cN,cR,eQ,ef,dC,eh,dU,dt⟩:=hJ
   have Km:=eQ (ha 6 aG)
   simp only[Act.put,aa,ab,ae,af,ag,aj]at hK |-
   rw[Km]at hK |-
   have q1:=(cQ.box r4 R4.out.lt _).trans R4.out.c1
   go_simp
   exact hK.out _ _ ⟨cQ,eU,eR,cI,cG,cN,cR,eQ,fun _=>rfl,dC,eh,dU,dt⟩
  case s8 =>
   intro uf wa s hs ha cl hJ K hK
   obtain⟨cQ,eU,eR,cI,cG,cN,cR,eQ,ef,dC,eh,dU,dt⟩:=hJ
   have uj:=cR (ha 5 aG)
   have Fb:=ef (ha 7 aG)
   simp only[Act.put,aa,ab,ae,af,ag,aj]at hK |-
   rw[uj]at hK |-
   rw[Fb]at hK |-
   go_simp
   exact hK.out _ _ ⟨cQ,eU,eR,cI,cG,cN,cR,eQ,ef,fun _=>rfl,eh,dU,dt⟩
  case s9 =>
   intro uf wa s hs ha cl hJ K hK
   obtain⟨cQ,eU,eR,cI,cG,cN,cR,eQ,ef,dC,eh,dU,dt⟩:=hJ
   have yH:=dC (ha 8 aG)
   simp only[Act.put,aa,ab,ae,af,ag,aj]at hK |-
   rw[yH]at hK |-
   go_simp
   exact hK.out _ _ ⟨cQ,eU,eR,cI,cG,cN,cR,eQ,ef,dC,fun _=>rfl,dU,dt⟩
  case s10 =>
   intro uf wa s hs ha cl hJ K hK
   obtain⟨cQ,eU,eR,cI,cG,cN,cR,eQ,ef,dC,eh,dU,dt⟩:=hJ
   have F9:=eh (ha 9 aG)
   simp only[Act.put,aa,ab,ae,af,ag,aj]at hK |-
   rw[F9]at hK |-
   have q1:=(cQ.box g hg _).trans AV
   go_simp
   exact hK.out _ _ ⟨cQ,eU,eR,cI,cG,cN,cR,eQ,ef,dC,eh,fun _=>rfl,dt⟩
  case s11 =>
   intro uf wa s hs ha cl hJ K hK
   obtain⟨cQ,eU,eR,cI,cG,cN,cR,eQ,ef,dC,eh,dU,dt⟩:=hJ
   have CG:=dU (ha 10 aG)
   simp only[Act.put,aa,ab,ae,af,ag,aj]at hK |-
   rw[CG]at hK |-
   go_simp
   exact hK.out _ _ ⟨cQ,eU,eR,cI,cG,cN,cR,eQ,ef,dC,eh,dU,fun _=>rfl⟩):p:=h
theorem ag4 {p:Prop} (h:p:=by
  clear Hr
  go_enter Tryz.func105,Tryz.ntmps105
  (go_wp2_with (fail))
  repeat (any_goals (go_quiet (fail);(try (go_wp2_with (fail)))))
  refine wp_region_held_drew (S:=fun w'=>w'.cell? ⟨w.heap.size,0,none⟩=some (.int .i64 9)/\w'.cell? ⟨w.heap.size,3,none⟩=some (.slice (some ⟨b1,o1,none⟩) 2 ci)/\w'.cell? ⟨b1,o1,none⟩=some (.int .i64 2)/\w'.cell? ⟨b1,o1+1,none⟩=some (.int .i64 u1)/\w'.cell? ⟨b1,o1+2,none⟩=some (.int .i64 u2)/\w'.cell? ⟨b1,o1+3,none⟩=some (.string u3)/\w'.cell? ⟨b1,o1+4,none⟩=some (.int .i64 u4)/\w'.cell? ⟨b1,o1+5,none⟩=some (.int .i64 u5)/\w'.cell? ⟨b1,o1+6,none⟩=some (.int .i64 1)/\w'.cell? ⟨b1,o1+7,none⟩=some (.int .i64 v1)/\w'.cell? ⟨b1,o1+8,none⟩=some (.int .i64 v2)/\w'.cell? ⟨b1,o1+9,none⟩=some (.string v3)/\w'.cell? ⟨b1,o1+10,none⟩=some (.int .i64 v4)/\w'.cell? ⟨b1,o1+11,none⟩=some (.int .i64 v5)) aG ?_ (fun iR=>?_)
  ·
   exact⟨jF,jF,(U.box (W:=w) bl b1 dS _).trans fD,(U.box (W:=w) bl b1 dS _).trans fE,(U.box (W:=w) bl b1 dS _).trans fG,(U.box (W:=w) bl b1 dS _).trans fK,(U.box (W:=w) bl b1 dS _).trans fN,(U.box (W:=w) bl b1 dS _).trans jy,(U.box (W:=w) bl b1 dS _).trans jS,(U.box (W:=w) bl b1 dS _).trans jT,(U.box (W:=w) bl b1 dS _).trans jU,(U.box (W:=w) bl b1 dS _).trans jV,(U.box (W:=w) bl b1 dS _).trans jW,(U.box (W:=w) bl b1 dS _).trans j1⟩
  refine ev 0 ?_
  refine ev 1 ?_
  refine ev 2 ?_
  refine ev 3 ?_
  refine ev 4 ?_
  refine ev 5 ?_
  refine ev 6 ?_
  refine ev 7 ?_
  refine ev 8 ?_
  refine ev 9 ?_
  refine ev 10 ?_
  refine ev 11 ?_
  refine ev 12 ?_
  refine ev 13 ?_
  refine ev 14 ?_
  refine ev 15 ?_
  refine ev 16 ?_
  refine ev 17 ?_
  refine ev 18 ?_
  refine ev 19 ?_
  refine ev 20 ?_
  refine ev 21 ?_
  refine ev 22 ?_
  refine ev 23 ?_
  refine ev 24 ?_
  refine ev 25 ?_
  refine wpAnyH_ready (rs:=[26]) aG aJ ?_
  refine AllReadyH.cons (o:=_) rfl (fun K hK=>?_) AllReadyH.nil
  go_simp
  clear iR
  (go_at_call 45;(with_reducible refine (gq (O.mk x0 x1 x2 x3 x4 x5 x6 x7 x8 x9 F G Z) ⟨2,u1,u2,u3,u4,u5⟩ S q _ (cv.de bl HS.out) ⟨eN,fi,eO,Bi.out,gD,gE⟩).mono ?_);rintro e yP ⟨rfl,er⟩;rw[kG.out];(have nH:=er.sz;obtain⟨iU,iV,iW,iX⟩:=er.lay (w.heap.size);obtain⟨iY,iZ,ja,jb⟩:=er.lay (q);obtain⟨rr,ru,rv,ry⟩:=er.lay (b1)))
  refine hK.out _ _ ?_ (fun iR=>?_)
  ·
   exact⟨jF,jF,(U.box (W:=w) bl b1 dS _).trans fD,(U.box (W:=w) bl b1 dS _).trans fE,(U.box (W:=w) bl b1 dS _).trans fG,(U.box (W:=w) bl b1 dS _).trans fK,(U.box (W:=w) bl b1 dS _).trans fN,(U.box (W:=w) bl b1 dS _).trans jy,(U.box (W:=w) bl b1 dS _).trans jS,(U.box (W:=w) bl b1 dS _).trans jT,(U.box (W:=w) bl b1 dS _).trans jU,(U.box (W:=w) bl b1 dS _).trans jV,(U.box (W:=w) bl b1 dS _).trans jW,(U.box (W:=w) bl b1 dS _).trans j1⟩
  clear hK K
  (try simp only[Act.put,aa,ab,ae,af,ag,aj])
  refine ev 27 ?_
  refine ev 28 ?_
  refine ev 29 ?_
  refine ev 30 ?_
  refine ev 31 ?_
  refine ev 32 ?_
  refine ev 33 ?_
  refine wpAnyH_ready (rs:=[34]) aG aJ ?_
  refine AllReadyH.cons (o:=_) rfl (fun K hK=>?_) AllReadyH.nil
  go_simp
  clear iR
  (go_at_call 45;(with_reducible refine (gq (O.mk x0 x1 x2 x3 x4 x5 x6 x7 x8 x9 F G Z) ⟨1,v1,v2,v3,v4,v5⟩ S q _ (cv.de bl HS.out) ⟨kv,kz,kA,Ed.out,kD,kE⟩).mono ?_);rintro e Ug ⟨rfl,jI⟩;rw[oJ.out];(have Di:=jI.sz;obtain⟨rz,rA,rB,rC⟩:=jI.lay (w.heap.size);obtain⟨rD,rE,rF,rG⟩:=jI.lay (q);obtain⟨zh,zi,zj,zk⟩:=jI.lay (b1)))
  refine hK.out _ _ ?_ (fun iR=>?_)
  ·
   exact⟨jF,jF,(U.box (W:=w) bl b1 dS _).trans fD,(U.box (W:=w) bl b1 dS _).trans fE,(U.box (W:=w) bl b1 dS _).trans fG,(U.box (W:=w) bl b1 dS _).trans fK,(U.box (W:=w) bl b1 dS _).trans fN,(U.box (W:=w) bl b1 dS _).trans jy,(U.box (W:=w) bl b1 dS _).trans jS,(U.box (W:=w) bl b1 dS _).trans jT,(U.box (W:=w) bl b1 dS _).trans jU,(U.box (W:=w) bl b1 dS _).trans jV,(U.box (W:=w) bl b1 dS _).trans jW,(U.box (W:=w) bl b1 dS _).trans j1⟩
  clear hK K
  (try simp only[Act.put,aa,ab,ae,af,ag,aj])
  refine ev 35 ?_
  refine ev 36 ?_
  refine ev 37 ?_
  refine ev 38 ?_
  refine ev 39 ?_
  refine ev 40 ?_
  refine ev 41 ?_
  refine ev 42 ?_
  refine ev 43 ?_
  refine ev 44 ?_
  refine ev 45 ?_
  refine ev 46 ?_
  refine ev 47 ?_
  refine ev 48 ?_
  refine wpAnyH_ready (rs:=[49]) aG aJ ?_
  refine AllReadyH.cons (o:=_) rfl (fun K hK=>?_) AllReadyH.nil
  go_simp
  clear iR
  (go_at_call 101;refine (pk _ _ _ _).mono ?_;rintro e w9 ⟨rfl,rfl⟩;rw[YI.out])
  refine hK.out _ _ ?_ (fun iR=>?_)
  ·
   exact⟨jF,jF,(U.box (W:=w) bl b1 dS _).trans fD,(U.box (W:=w) bl b1 dS _).trans fE,(U.box (W:=w) bl b1 dS _).trans fG,(U.box (W:=w) bl b1 dS _).trans fK,(U.box (W:=w) bl b1 dS _).trans fN,(U.box (W:=w) bl b1 dS _).trans jy,(U.box (W:=w) bl b1 dS _).trans jS,(U.box (W:=w) bl b1 dS _).trans jT,(U.box (W:=w) bl b1 dS _).trans jU,(U.box (W:=w) bl b1 dS _).trans jV,(U.box (W:=w) bl b1 dS _).trans jW,(U.box (W:=w) bl b1 dS _).trans j1⟩
  clear hK K
  (try simp only[Act.put,aa,ab,ae,af,ag,aj])
  refine ev 50 ?_
  refine ev 51 ?_
  refine wpAnyH_done aG ?_ _
  all_goals (try (go_wp2_with (fail)))
  all_goals
   go_returns
   exact⟨by rw[RR.out];first | done | rfl,bl⟩):p:=h
theorem ahX {p:Prop} (h:p:=by
  simp only[gZ,Act.put,aa,ab,ae,af,ag,aj]
  refine (ct (i:=0) (i2:=1) (o:=_) rfl ?s0 (ct (i:=1) (i2:=2) (o:=_) rfl ?s1 (ct (i:=2) (i2:=3) (o:=_) rfl ?s2 (ct (i:=3) (i2:=4) (o:=_) rfl ?s3 (ct (i:=4) (i2:=5) (o:=_) rfl ?s4 (ct (i:=5) (i2:=6) (o:=_) rfl ?s5 (ct (i:=6) (i2:=7) (o:=_) rfl ?s6 (ct (i:=7) (i2:=8) (o:=_) rfl ?s7 (ct (i:=8) (i2:=9) (o:=_) rfl ?s8 (fW aI))))))))))
  case s0 =>
   intro uf wa s hs ha cl hJ K hK
   obtain⟨cQ,cI,cG,cN,cR,eQ,ef,dC,jN,qD⟩:=hJ
   simp only[Act.put,aa,ab,ae,af,ag,aj]at hK |-
   go_simp
   exact hK.out _ _ ⟨cQ,fun _=>rfl,cG,cN,cR,eQ,ef,dC,jN,qD⟩
  case s1 =>
   intro uf wa s hs ha cl hJ K hK
   obtain⟨cQ,cI,cG,cN,cR,eQ,ef,dC,jN,qD⟩:=hJ
   have nR:=cI (ha 0 aG)
   simp only[Act.put,aa,ab,ae,af,ag,aj]at hK |-
   rw[nR]at hK |-
   go_simp
   exact hK.out _ _ ⟨cQ,cI,fun _=>rfl,cN,cR,eQ,ef,dC,jN,qD⟩
  case s2 =>
   intro uf wa s hs ha cl hJ K hK
   obtain⟨cQ,cI,cG,cN,cR,eQ,ef,dC,jN,qD⟩:=hJ
   have qs:=cG (ha 1 aG)
   simp only[Act.put,aa,ab,ae,af,ag,aj]at hK |-
   rw[qs]at hK |-
   go_simp
   exact hK.out _ _ ⟨cQ,cI,cG,fun _=>rfl,cR,eQ,ef,dC,jN,qD⟩
  case s3 =>
   intro uf wa s hs ha cl hJ K hK
   obtain⟨cQ,cI,cG,cN,cR,eQ,ef,dC,jN,qD⟩:=hJ
   have sN:=cN (ha 2 aG)
   simp only[Act.put,aa,ab,ae,af,ag,aj]at hK |-
   rw[sN]at hK |-
   have q1:=(cQ.box q hq _).trans mo
   go_simp
   exact hK.out _ _ ⟨cQ,cI,cG,cN,fun _=>rfl,eQ,ef,dC,jN,qD⟩
  case s4 =>
   intro uf wa s hs ha cl hJ K hK
   obtain⟨cQ,cI,cG,cN,cR,eQ,ef,dC,jN,qD⟩:=hJ
   simp only[Act.put,aa,ab,ae,af,ag,aj]at hK |-
   go_simp
   exact hK.out _ _ ⟨cQ,cI,cG,cN,cR,fun _=>rfl,ef,dC,jN,qD⟩
  case s5 =>
   intro uf wa s hs ha cl hJ K hK
   obtain⟨cQ,cI,cG,cN,cR,eQ,ef,dC,jN,qD⟩:=hJ
   have Km:=eQ (ha 4 aG)
   simp only[Act.put,aa,ab,ae,af,ag,aj]at hK |-
   rw[Km]at hK |-
   have q1:=(cQ.box r4 R4.out.lt _).trans R4.out.c1
   go_simp
   exact hK.out _ _ ⟨cQ,cI,cG,cN,cR,eQ,fun _=>rfl,dC,jN,qD⟩
  case s6 =>
   intro uf wa s hs ha cl hJ K hK
   obtain⟨cQ,cI,cG,cN,cR,eQ,ef,dC,jN,qD⟩:=hJ
   have uj:=cR (ha 3 aG)
   have Fb:=ef (ha 5 aG)
   simp only[Act.put,aa,ab,ae,af,ag,aj]at hK |-
   rw[uj]at hK |-
   rw[Fb]at hK |-
   go_simp
   exact hK.out _ _ ⟨cQ,cI,cG,cN,cR,eQ,ef,fun _=>rfl,jN,qD⟩
  case s7 =>
   intro uf wa s hs ha cl hJ K hK
   obtain⟨cQ,cI,cG,cN,cR,eQ,ef,dC,jN,qD⟩:=hJ
   have yH:=dC (ha 6 aG)
   simp only[Act.put,aa,ab,ae,af,ag,aj]at hK |-
   rw[yH]at hK |-
   have q0:=(cQ.box b1 gy _).trans fD
   have q1:=(cQ.box b1 gy _).trans fE
   have q2:=(cQ.box b1 gy _).trans fG
   have q3:=(cQ.box b1 gy _).trans fK
   have q4:=(cQ.box b1 gy _).trans fN
   go_simp
   exact hK.out _ _ ⟨cQ,cI,cG,cN,cR,eQ,ef,dC,fun _=>rfl,qD⟩
  case s8 =>
   intro uf wa s hs ha cl hJ K hK
   obtain⟨cQ,cI,cG,cN,cR,eQ,ef,dC,jN,qD⟩:=hJ
   simp only[Act.put,aa,ab,ae,af,ag,aj]at hK |-
   have hz:=U.size cQ
   have jl:U wa (wa.alloc (.cells #[.int .i64 0,.int .i64 0,.int .i64 0,.slice none 0 0,.slice none 0 0] 81)):=bl
   go_simp
   exact hK.out _ _ ⟨cQ.trans jl,cI,cG,cN,cR,eQ,ef,dC,jN,fun _=>⟨wa.heap.size,rfl,hz,OB.new _ _⟩⟩):p:=h
theorem adg {p:Prop} (h:p:=by
  go_enter Tryz.func41,Tryz.ntmps41
  have eF:=True.intro
  repeat (any_goals ((first | clear eF | go_quiet (fail));(try go_wp2_with (first | (go_at_call 27;(with_reducible refine (ee (O.mk x0 x1 x2 x3 x4 x5 x6 x7 x8 x9 F G Z) ⟨19,cD,cE,cB,cF,cO⟩ S q _ (cv.de bl HS.out) ⟨eN,fi,eO,Bi.out,gD,gE⟩).mono ?_);rintro e yP ⟨rfl,er⟩;rw[kG.out];(have nH:=er.sz;obtain⟨iU,iV,iW,iX⟩:=er.lay (w.heap.size);obtain⟨iY,iZ,ja,jb⟩:=er.lay (q);obtain⟨rr,ru,rv,ry⟩:=er.lay (b1)))))))
  all_goals
   go_returns
   exact⟨by rw[RR.out];first | done | rfl,bl⟩):p:=h
theorem air {p:Prop} (h:p:=by
  have je:decide ((keys.length:Int)<=40)=true:=ay aF
  have jf:decide (40<(keys.length:Int))=false:=ax aF
  have yx:((its.length:Int)==(keys.length:Int)+1)=true:=aK
  have sL:((its.length:Int)==1+(keys.length:Int))=true:=aK
  have CK:((its.length:Int)==wrap64 (1+(keys.length:Int)))=true:=by rw[ze aF aF];exact ay kI
  have oL:=I ju
  have kO:=I eS
  clear dn fH ju kI eS
  go_enter Tryz.func41,Tryz.ntmps41
  have eF:=True.intro
  repeat (any_goals ((first | clear eF | go_quiet (fail));(try go_wp2_with (first | (go_at_call 96;(with_reducible refine (pf keys S' _ _ _ (Row.de bl rR.out)).mono ?_);rintro e wdk ⟨rfl,qt⟩;rw[oL.out];(have TV:=qt.sz;obtain⟨CL,CM,CN,CO⟩:=qt.lay (w.heap.size);obtain⟨CP,CQ,CR,CS⟩:=qt.lay (q))) | (go_at_call 40;(with_reducible refine (gY (O.mk x0 x1 x2 x3 x4 x5 x6 x7 x8 x9 F G Z) its S S' q _ _ _ (cv.de bl HS.out) (Row.de bl lL.out)).mono ?_);rintro e Rw ⟨rfl,jt⟩;rw[kO.out];(have Cc:=jt.sz;obtain⟨qb,qc,qd,qe⟩:=jt.lay (w.heap.size);obtain⟨qf,qg,qh,qi⟩:=jt.lay (q)))))))
  all_goals
   go_returns
   exact⟨by rw[RR.out];first | done | rfl,bl⟩):p:=h
theorem WK {p:Prop} (h:p:=by
  have Hv:=I mR
  clear dn cU mR
  go_enter Tryz.func41,Tryz.ntmps41
  have eF:=True.intro
  repeat (any_goals ((first | clear eF | go_quiet (fail));(try go_wp2_with (first | (go_at_call 40;(with_reducible refine (FX.out _ (cv.de bl HS.out) (Row.de bl lL.out)).mono ?_);rintro e Rw ⟨rfl,jt⟩;rw[Hv.out];(have Cc:=jt.sz;obtain⟨qb,qc,qd,qe⟩:=jt.lay (w.heap.size);obtain⟨qf,qg,qh,qi⟩:=jt.lay (q);obtain⟨Co,Cp,Cq,Cr⟩:=jt.lay (b1)))))))
  all_goals
   go_returns
   exact⟨by rw[RR.out];first | done | rfl,bl⟩):p:=h
theorem ahQ {p:Prop} (h:p:=by
  simp only[gZ,Act.put,aa,ab,ae,af,ag,aj]
  refine (ct (i:=0) (i2:=1) (o:=_) rfl ?s0 (ct (i:=1) (i2:=2) (o:=_) rfl ?s1 (ct (i:=2) (i2:=3) (o:=_) rfl ?s2 (ct (i:=3) (i2:=4) (o:=_) rfl ?s3 (ct (i:=4) (i2:=5) (o:=_) rfl ?s4 (ct (i:=5) (i2:=6) (o:=_) rfl ?s5 (ct (i:=6) (i2:=7) (o:=_) rfl ?s6 (ct (i:=7) (i2:=8) (o:=_) rfl ?s7 (fW aI)))))))))
  case s0 =>
   intro uf wa s hs ha cl hJ K hK
   obtain⟨cQ,cI,cG,cN,dU,eU,eR,dB,eu⟩:=hJ
   simp only[Act.put,aa,ab,ae,af,ag,aj]at hK |-
   go_simp
   exact hK.out _ _ ⟨cQ,fun _=>rfl,cG,cN,dU,eU,eR,dB,eu⟩
  case s1 =>
   intro uf wa s hs ha cl hJ K hK
   obtain⟨cQ,cI,cG,cN,dU,eU,eR,dB,eu⟩:=hJ
   have nR:=cI (ha 0 aG)
   simp only[Act.put,aa,ab,ae,af,ag,aj]at hK |-
   rw[nR]at hK |-
   go_simp
   exact hK.out _ _ ⟨cQ,cI,fun _=>rfl,cN,dU,eU,eR,dB,eu⟩
  case s2 =>
   intro uf wa s hs ha cl hJ K hK
   obtain⟨cQ,cI,cG,cN,dU,eU,eR,dB,eu⟩:=hJ
   have qs:=cG (ha 1 aG)
   simp only[Act.put,aa,ab,ae,af,ag,aj]at hK |-
   rw[qs]at hK |-
   go_simp
   exact hK.out _ _ ⟨cQ,cI,cG,fun _=>rfl,dU,eU,eR,dB,eu⟩
  case s3 =>
   intro uf wa s hs ha cl hJ K hK
   obtain⟨cQ,cI,cG,cN,dU,eU,eR,dB,eu⟩:=hJ
   have sN:=cN (ha 2 aG)
   simp only[Act.put,aa,ab,ae,af,ag,aj]at hK |-
   rw[sN]at hK |-
   have q1:=(cQ.box q hq _).trans ahP
   go_simp
   exact hK.out _ _ ⟨cQ,cI,cG,cN,fun _=>rfl,eU,eR,dB,eu⟩
  case s4 =>
   intro uf wa s hs ha cl hJ K hK
   obtain⟨cQ,cI,cG,cN,dU,eU,eR,dB,eu⟩:=hJ
   simp only[Act.put,aa,ab,ae,af,ag,aj]at hK |-
   go_simp
   exact hK.out _ _ ⟨cQ,cI,cG,cN,dU,fun _=>rfl,eR,dB,eu⟩
  case s5 =>
   intro uf wa s hs ha cl hJ K hK
   obtain⟨cQ,cI,cG,cN,dU,eU,eR,dB,eu⟩:=hJ
   have Kn:=eU (ha 4 aG)
   simp only[Act.put,aa,ab,ae,af,ag,aj]at hK |-
   rw[Kn]at hK |-
   have q1:=(cQ.box r4 R4.out.lt _).trans R4.out.c2
   go_simp
   exact hK.out _ _ ⟨cQ,cI,cG,cN,dU,eU,fun _=>rfl,dB,eu⟩
  case s6 =>
   intro uf wa s hs ha cl hJ K hK
   obtain⟨cQ,cI,cG,cN,dU,eU,eR,dB,eu⟩:=hJ
   simp only[Act.put,aa,ab,ae,af,ag,aj]at hK |-
   have q0:=(cQ.box r5 R5.out.lt 0).trans R5.out.c0
   have q1:=(cQ.box r5 R5.out.lt 1).trans R5.out.c1
   have q2:=(cQ.box r5 R5.out.lt 2).trans R5.out.c2
   have q3:=(cQ.box r5 R5.out.lt 3).trans R5.out.c3
   have q4:=(cQ.box r5 R5.out.lt 4).trans R5.out.c4
   have q5:=(cQ.box r5 R5.out.lt 5).trans R5.out.c5
   go_simp
   exact hK.out _ _ ⟨cQ,cI,cG,cN,dU,eU,eR,fun _=>rfl,eu⟩
  case s7 =>
   intro uf wa s hs ha cl hJ K hK
   obtain⟨cQ,cI,cG,cN,dU,eU,eR,dB,eu⟩:=hJ
   have CG:=dU (ha 3 aG)
   have CD:=eR (ha 5 aG)
   simp only[Act.put,aa,ab,ae,af,ag,aj]at hK |-
   rw[CG]at hK |-
   rw[CD]at hK |-
   go_simp
   exact hK.out _ _ ⟨cQ,cI,cG,cN,dU,eU,eR,dB,fun _=>rfl⟩):p:=h
theorem pM {p:Prop} (h:p:=by
  clear h
  go_enter Tryz.func97,Tryz.ntmps97
  go_wp2_with (fail)
  repeat (any_goals (go_quiet (fail);(try go_wp2_with (fail))))
  all_goals
   go_returns
   exact⟨gA RR.out.symm,bl⟩):p:=h
theorem ag6 {p:Prop} (h:p:=by
  go_enter Tryz.func41,Tryz.ntmps41
  (go_wp2_with (fail))
  repeat (any_goals (go_quiet (fail);(try (go_wp2_with (fail)))))
  refine wp_region_held_drew (S:=fun w'=>w'.cell? ⟨w.heap.size,0,none⟩=some (.int .i64 9)/\w'.cell? ⟨w.heap.size,3,none⟩=some (.slice (some ⟨b1,o1,none⟩) 2 ci)/\w'.cell? ⟨b1,o1,none⟩=some (.int .i64 2)/\w'.cell? ⟨b1,o1+1,none⟩=some (.int .i64 u1)/\w'.cell? ⟨b1,o1+2,none⟩=some (.int .i64 u2)/\w'.cell? ⟨b1,o1+3,none⟩=some (.string u3)/\w'.cell? ⟨b1,o1+4,none⟩=some (.int .i64 u4)/\w'.cell? ⟨b1,o1+5,none⟩=some (.int .i64 u5)/\w'.cell? ⟨b1,o1+6,none⟩=some (.int .i64 1)/\w'.cell? ⟨b1,o1+7,none⟩=some (.int .i64 v1)/\w'.cell? ⟨b1,o1+8,none⟩=some (.int .i64 v2)/\w'.cell? ⟨b1,o1+9,none⟩=some (.string v3)/\w'.cell? ⟨b1,o1+10,none⟩=some (.int .i64 v4)/\w'.cell? ⟨b1,o1+11,none⟩=some (.int .i64 v5)) aG ?_ (fun iR=>?_)
  ·
   exact⟨jF,jF,(U.box (W:=w) bl b1 dS _).trans fD,(U.box (W:=w) bl b1 dS _).trans fE,(U.box (W:=w) bl b1 dS _).trans fG,(U.box (W:=w) bl b1 dS _).trans fK,(U.box (W:=w) bl b1 dS _).trans fN,(U.box (W:=w) bl b1 dS _).trans jy,(U.box (W:=w) bl b1 dS _).trans jS,(U.box (W:=w) bl b1 dS _).trans jT,(U.box (W:=w) bl b1 dS _).trans jU,(U.box (W:=w) bl b1 dS _).trans jV,(U.box (W:=w) bl b1 dS _).trans jW,(U.box (W:=w) bl b1 dS _).trans j1⟩
  refine ev 0 ?_
  refine ev 1 ?_
  refine ev 2 ?_
  refine ev 3 ?_
  refine ev 4 ?_
  refine ev 5 ?_
  refine ev 6 ?_
  refine ev 7 ?_
  refine ev 8 ?_
  refine ev 9 ?_
  refine ev 10 ?_
  refine ev 11 ?_
  refine ev 12 ?_
  refine ev 13 ?_
  refine ev 14 ?_
  refine ev 15 ?_
  refine ev 16 ?_
  refine ev 17 ?_
  refine ev 18 ?_
  refine ev 19 ?_
  refine ev 20 ?_
  refine ev 21 ?_
  refine ev 22 ?_
  refine ev 23 ?_
  refine wpAnyH_ready (rs:=[24]) aG aJ ?_
  refine AllReadyH.cons (o:=_) rfl (fun K hK=>?_) AllReadyH.nil
  go_simp
  clear iR
  (go_at_call 40;(with_reducible refine (FX.out _ (cv.de bl HS.out) (Row.de bl lL.out)).mono ?_);rintro e Rw ⟨rfl,jt⟩;rw[Hv.out];(have Cc:=jt.sz;obtain⟨qb,qc,qd,qe⟩:=jt.lay (w.heap.size);obtain⟨qf,qg,qh,qi⟩:=jt.lay (q);obtain⟨Co,Cp,Cq,Cr⟩:=jt.lay (b1)))
  refine hK.out _ _ ?_ (fun iR=>?_)
  ·
   exact⟨jF,jF,(U.box (W:=w) bl b1 dS _).trans fD,(U.box (W:=w) bl b1 dS _).trans fE,(U.box (W:=w) bl b1 dS _).trans fG,(U.box (W:=w) bl b1 dS _).trans fK,(U.box (W:=w) bl b1 dS _).trans fN,(U.box (W:=w) bl b1 dS _).trans jy,(U.box (W:=w) bl b1 dS _).trans jS,(U.box (W:=w) bl b1 dS _).trans jT,(U.box (W:=w) bl b1 dS _).trans jU,(U.box (W:=w) bl b1 dS _).trans jV,(U.box (W:=w) bl b1 dS _).trans jW,(U.box (W:=w) bl b1 dS _).trans j1⟩
  clear hK K
  (try simp only[Act.put,aa,ab,ae,af,ag,aj])
  refine ev 25 ?_
  refine ev 26 ?_
  refine ev 27 ?_
  refine ev 28 ?_
  refine ev 29 ?_
  refine ev 30 ?_
  refine ev 31 ?_
  refine ev 32 ?_
  refine ev 33 ?_
  refine ev 34 ?_
  refine ev 35 ?_
  refine ev 36 ?_
  refine ev 37 ?_
  refine ev 38 ?_
  refine ev 39 ?_
  refine ev 40 ?_
  refine ev 41 ?_
  refine ev 42 ?_
  refine ev 43 ?_
  refine ev 44 ?_
  refine ev 45 ?_
  refine ev 46 ?_
  refine ev 47 ?_
  refine ev 48 ?_
  refine ev 49 ?_
  refine wpAnyH_done aG ?_ _
  all_goals (cases bt <;> cases bk)
  all_goals (try (go_wp2_with (fail)))
  all_goals
   go_returns
   exact⟨by rw[RR.out];first | done | rfl,bl⟩):p:=h
theorem ais {p:Prop} (h:p:=by
  have kO:=I eS
  clear uh ma FV eS cU
  go_enter Tryz.func41,Tryz.ntmps41
  go_wp2_with (fail)
  repeat (any_goals (go_quiet (fail);(try go_wp2_with (fail))))
  go_region_held3 (fun w'=>w'.cell? ⟨w.heap.size,0,none⟩=some (.int .i64 5)/\w'.cell? ⟨w.heap.size,1,none⟩=some (.int .i64 (m:Int))/\w'.cell? ⟨w.heap.size,3,none⟩=some (.slice Ai its.length ci)/\w'.cell? ⟨w.heap.size,4,none⟩=some (.slice Ak keys.length ck)/\w'.cell? ⟨q,1,none⟩=some (.slice (some ⟨b4,o4,none⟩) x1.length c1)/\w'.cell? ⟨b4,o4+m*3+1,none⟩=some (.slice abC fV.length abD)) (go_keep) (first | (go_at_call 40;(with_reducible refine (gY (O.mk x0 x1 x2 x3 x4 x5 x6 x7 x8 x9 F G Z) its S S' q _ _ _ (cv.de bl HS.out) (Row.de bl lL.out)).mono ?_);rintro e Rw ⟨rfl,jt⟩;rw[kO.out];(have Cc:=jt.sz;obtain⟨qb,qc,qd,qe⟩:=jt.lay (w.heap.size);obtain⟨qf,qg,qh,qi⟩:=jt.lay (q);obtain⟨Co,Cp,Cq,Cr⟩:=jt.lay (b4))))
  all_goals
   (try go_wp2_with (fail))
  all_goals
   go_returns
   exact⟨by rw[RR.out];first | done | rfl,bl⟩):p:=h
theorem Oc {p:Prop} (h:p:=by
  go_enter Tryz.func10,Tryz.ntmps10
  have eF:=True.intro
  repeat (any_goals ((first | clear eF | go_quiet (fail));(try go_wp2_with (first | (go_at_call 37;refine (nB x0 S _ _ _ (Row.de bl xU.out) (HT.out.on bl)).mono ?_;rintro e w8 ⟨rfl,zA⟩;rw[HN.out];(have hz8:=zA.sz;obtain⟨K8,K9,Lc,Ld⟩:=zA.lay (w.heap.size))) | (go_at_call 38;refine (so x1 S _ _ _ (Row.de bl qv.out) (HT.out.on bl)).mono ?_;rintro e w9 ⟨rfl,qz⟩;rw[HRE.out];(have tu:=qz.sz;obtain⟨ag8,ag9,aha,ahb⟩:=qz.lay (w.heap.size)))))))
  all_goals
   go_returns
   exact⟨gA RR.out.symm,bl⟩):p:=h
theorem abp {p:Prop} (h:p:=by
  go_enter Tryz.func36,Tryz.ntmps36
  go_wp2_with (fail)
  repeat (any_goals (go_quiet (fail);(try go_wp2_with (fail))))
  go_region_held3 (fun w'=>w'.cell? ⟨w.heap.size,1,none⟩=some (.int .i64 (m:Int))/\w'.cell? ⟨w.heap.size,2,none⟩=some (.int .i64 (j:Int))/\w'.cell? ⟨q,2,none⟩=some (.slice (some ⟨b1,o1,none⟩) x2.length c2)/\w'.cell? ⟨b1,o1+m*5+3,none⟩=some (.slice (some ⟨b2,o2,none⟩) cB.length iz)/\w'.cell? ⟨b2,o2+j*6,none⟩=some (.int .i64 da)/\w'.cell? ⟨b2,o2+j*6+1,none⟩=some (.int .i64 dw)/\w'.cell? ⟨b2,o2+j*6+2,none⟩=some (.int .i64 dx)/\w'.cell? ⟨b2,o2+j*6+3,none⟩=some (.string dy)/\w'.cell? ⟨b2,o2+j*6+4,none⟩=some (.int .i64 dz)/\w'.cell? ⟨b2,o2+j*6+5,none⟩=some (.int .i64 dA)) (first | exact⟨jF,jF,(U.box (W:=w) bl q hq _).trans e2,(U.box (W:=w) bl b1 dS _).trans fK,(U.box (W:=w) bl b2 mu _).trans jS,(U.box (W:=w) bl b2 mu _).trans jT,(U.box (W:=w) bl b2 mu _).trans jU,(U.box (W:=w) bl b2 mu _).trans jV,(U.box (W:=w) bl b2 mu _).trans jW,(U.box (W:=w) bl b2 mu _).trans j1⟩) (fail)
  go_wp2_with (fail)
  repeat (any_goals (go_quiet (fail);(try go_wp2_with (fail))))
  all_goals
   refine bodyPost_ret (v:=.tuple #[.agg #[.int .i64 da,.int .i64 dw,.int .i64 dx,.string dy,.int .i64 dz,.int .i64 dA],.int .i64 0]) (by simp[results,Tryz.results36,go_sem] <;> rfl) rfl ⟨?_,bl⟩
   rw[RR.out];first | done | rfl):p:=h
theorem adh {p:Prop} (h:p:=by
  go_enter Tryz.func41,Tryz.ntmps41
  have eF:=True.intro
  repeat (any_goals ((first | clear eF | go_quiet (fail));(try go_wp2_with (first | (go_at_call 96;(with_reducible refine (pf keys S' _ _ _ (Row.de bl rR.out)).mono ?_);rintro e wdk ⟨rfl,qt⟩;rw[oL.out];(have TV:=qt.sz;obtain⟨CL,CM,CN,CO⟩:=qt.lay (w.heap.size);obtain⟨CP,CQ,CR,CS⟩:=qt.lay (q)))))))
  all_goals
   go_returns
   exact⟨by rw[RR.out];first | done | rfl,bl⟩):p:=h
theorem abB {p:Prop} (h:p:=by
  go_enter Tryz.func105,Tryz.ntmps105
  have eF:=True.intro
  repeat (any_goals ((first | clear eF | go_quiet (fail));(try go_wp2_with (first | (go_at_call 106;(with_reducible refine (kj (O.mk x0 x1 x2 x3 x4 x5 x6 x7 x8 x9 F G Z) its S S' q _ _ _ (cv.de bl HS.out) (Row.de bl lL.out)).mono ?_);rintro e Rw ⟨rfl,jt⟩;rw[kO.out];(have Cc:=jt.sz;obtain⟨qb,qc,qd,qe⟩:=jt.lay (w.heap.size);obtain⟨qf,qg,qh,qi⟩:=jt.lay (q)))))))
  all_goals
   go_returns
   exact⟨by rw[RR.out];first | done | rfl,bl⟩):p:=h
theorem F1 {p:Prop} (h:p:=by
  go_enter Tryz.func44,Tryz.ntmps44
  have eF:=True.intro
  repeat (any_goals ((first | clear eF | go_quiet (fail));(try go_wp2_with (go_at_call 101;refine (pk _ _ _ _).mono ?_;rintro e w9 ⟨rfl,rfl⟩))))
  all_goals
   go_returns
   exact⟨by rw[RR.out];first | done | rfl,bl⟩):p:=h
theorem ag2 {p:Prop} (h:p:=by
  have cW:((keys.length:Int)==0)=true:=aK
  have cX:((keys.length:Int) != 0)=false:=aL
  have jw:decide (1<=tag)=true:=ay aF
  have km:decide (tag<1)=false:=ax aF
  have kn:decide (0<tag)=true:=ay aF
  have Cm:decide (0<=gh)=true:=ay aF
  have kG:=I fR
  have oJ:=I iT
  have Lr:=I tc
  clear cU FW fR iT tc
  go_enter Tryz.func105,Tryz.ntmps105
  (go_wp2_with (fail))
  go_quiet (fail)
  go_upto_region 20 with (fail)
  simp only[List.append]
  (go_wp2_with (first | (go_at_call 45;(with_reducible refine (gq (O.mk x0 x1 x2 x3 x4 x5 x6 x7 x8 x9 F G Z) ⟨19,cD,cE,cB,cF,cO⟩ S q _ (cv.de bl HS.out) ⟨eN,fi,eO,Bi.out,gD,gE⟩).mono ?_);rintro e yP ⟨rfl,er⟩;rw[kG.out];(have nH:=er.sz;obtain⟨iU,iV,iW,iX⟩:=er.lay (w.heap.size);obtain⟨iY,iZ,ja,jb⟩:=er.lay (q);obtain⟨rr,ru,rv,ry⟩:=er.lay (b1))) | (go_at_call 45;(with_reducible refine (gq (O.mk x0 x1 x2 x3 x4 x5 x6 x7 x8 x9 F G Z) ⟨19,dw,dx,dy,dz,dA⟩ S q _ (cv.de bl HS.out) ⟨kv,kz,kA,Ed.out,kD,kE⟩).mono ?_);rintro e Ug ⟨rfl,jI⟩;rw[oJ.out];(have Di:=jI.sz;obtain⟨rz,rA,rB,rC⟩:=jI.lay (w.heap.size);obtain⟨rD,rE,rF,rG⟩:=jI.lay (q);obtain⟨zh,zi,zj,zk⟩:=jI.lay (b1))) | (go_at_call 45;(with_reducible refine (gq (O.mk x0 x1 x2 x3 x4 x5 x6 x7 x8 x9 F G Z) ⟨1,gh,iI,iJ,iK,iL⟩ S q _ (cv.de bl HS.out) ⟨Jv,Jw,Jx,GT3.out,Jy,Jz⟩).mono ?_);rintro e wi3 ⟨rfl,Gd⟩;rw[Lr.out];(have anb:=Gd.sz;obtain⟨ac1,ac2,ac3,ac4⟩:=Gd.lay (w.heap.size);obtain⟨ac5,ac6,ac7,ac8⟩:=Gd.lay (q);obtain⟨ac9,ada,adb,ade⟩:=Gd.lay (b1)))))
  all_goals
   go_returns
   exact⟨by rw[RR.out];first | done | rfl,bl⟩):p:=h
theorem PQ {p:Prop} (h:p:=by
  go_enter Tryz.func86,Tryz.ntmps86
  go_wp2_with (first | (go_at_call 121;refine (yj n _ hn (ht.on (U.alloc (U.refl w) _))).mono ?_;rintro e w1 ⟨rfl,dE⟩;have jZ:=dE.sz;obtain⟨fA,fJ,fI,fP⟩:=dE.lay (w.heap.size);(try simp only[cC.val])) | (go_at_call 122;refine (yW lo hi _).mono ?_;rintro e w2 ⟨rfl,gC⟩;have xX:=gC.sz;obtain⟨vF,vG,vH,vK⟩:=gC.lay (w.heap.size);(try simp only[cC.val])))
  all_goals
   go_returns
   exact⟨rfl,bl⟩):p:=h
theorem NG {p:Prop} (h:p:=by
  clear iC
  go_enter Tryz.func97,Tryz.ntmps97
  go_wp2_with (fail)
  repeat (any_goals (go_quiet (fail);(try go_wp2_with (fail))))
  go_loopw [80] (fun v wr=>v=.int .i64 0/\U w wr) (fun _ _=>0)
  case atStart=>exact⟨rfl,bl⟩
  case round =>
   obtain⟨rfl,dX⟩:=hrel
   go_wp2_with (fail)
   repeat (any_goals (go_quiet (fail);(try go_wp2_with (fail))))
   all_goals
    go_returns
    exact⟨gA HP.out.symm,bl⟩):p:=h
theorem PO {p:Prop} (h:p:=by
  go_enter Tryz.func91,Tryz.ntmps91
  go_wp2_with (first | (go_at_call 124;refine (yi n _ hn).mono ?_;rintro e w1 ⟨rfl,dE⟩;have jZ:=dE.sz;obtain⟨fA,fJ,fI,fP⟩:=dE.lay (w.heap.size);(try simp only[cC.val])) | (go_at_call 125;refine (yX lo hi _).mono ?_;rintro e w2 ⟨rfl,gC⟩;have xX:=gC.sz;obtain⟨vF,vG,vH,vK⟩:=gC.lay (w.heap.size);(try simp only[cC.val])))
  all_goals
   go_returns
   exact⟨rfl,bl⟩):p:=h
theorem agY {p:Prop} (h:p:=by
  have dQ:(tag==0)=true:=aK
  have dR:(tag != 0)=false:=aL
  have je:decide ((keys.length:Int)<=40)=true:=ay aF
  have jf:decide (40<(keys.length:Int))=false:=ax aF
  have yx:((its.length:Int)==(keys.length:Int)+1)=true:=aK
  have sL:((its.length:Int)==1+(keys.length:Int))=true:=aK
  have kO:=I eS
  have mQ:=I ib
  have oL:=I ju
  clear dn kI eS ib ju
  go_enter Tryz.func105,Tryz.ntmps105
  have eF:=True.intro
  repeat (any_goals ((first | clear eF | go_quiet (fail));(try go_wp2_with (first | (go_at_call 106;(with_reducible refine (kj (O.mk x0 x1 x2 x3 x4 x5 x6 x7 x8 x9 F G Z) its S S' q _ _ _ (cv.de bl HS.out) (Row.de bl lL.out)).mono ?_);rintro e Rw ⟨rfl,jt⟩;rw[kO.out];(have Cc:=jt.sz;obtain⟨qb,qc,qd,qe⟩:=jt.lay (w.heap.size);obtain⟨qf,qg,qh,qi⟩:=jt.lay (q))) | (go_at_call 106;(with_reducible refine (kj (O.mk x0 x1 x2 x3 x4 x5 x6 x7 x8 x9 F G Z) keys S S' q _ _ _ (cv.de bl HS.out) (Row.de bl rR.out)).mono ?_);rintro e wak ⟨rfl,qj⟩;rw[mQ.out];(have Rx:=qj.sz;obtain⟨Cd,Ce,Cf,Cg⟩:=qj.lay (w.heap.size);obtain⟨Ch,Ci,Cj,Ck⟩:=qj.lay (q))) | (go_at_call 141;(with_reducible refine (yv keys S' _ _ _ (Row.de bl rR.out)).mono ?_);rintro e wdk ⟨rfl,qt⟩;rw[oL.out];(have TV:=qt.sz;obtain⟨CL,CM,CN,CO⟩:=qt.lay (w.heap.size);obtain⟨CP,CQ,CR,CS⟩:=qt.lay (q)))))))
  all_goals
   go_returns
   exact⟨by rw[RR.out];first | done | rfl,bl⟩):p:=h
theorem ait {p:Prop} (h:p:=by
  have TX:=I zJ
  clear cU zJ
  go_enter Tryz.func41,Tryz.ntmps41
  have eF:=True.intro
  repeat (any_goals ((first | clear eF | go_quiet (fail));(try go_wp2_with (first | (go_at_call 97;refine (Hk (O.mk x0 x1 x2 x3 x4 x5 x6 x7 x8 x9 F G Z) tag its S S' q _ _ _ (cv.de bl HS.out) (Row.de bl lL.out)).mono ?_;rintro e wp ⟨rfl,hbp⟩;rw[TX.out];(have hzp:=hbp.sz;obtain⟨aiu,aiv,aiw,aix⟩:=hbp.lay (w.heap.size);obtain⟨aiy,aiz,aiA,aiB⟩:=hbp.lay (q)))))))
  all_goals
   go_returns
   exact⟨by rw[RR.out];first | done | rfl,bl⟩):p:=h
theorem ag0 {p:Prop} (h:p:=by
  have cW:((keys.length:Int)==0)=true:=aK
  have cX:((keys.length:Int) != 0)=false:=aL
  have Cl:decide (0<=tag)=true:=ay aF
  have jw:decide (tag<(x1.length:Int))=true:=ay aF
  have Ry:((its.length:Int)==(fV.length:Int))=true:=aK
  clear hx
  subst hm
  have kO:=I eS
  clear cU uh ma FV eS
  go_enter Tryz.func105,Tryz.ntmps105
  go_wp2_with (fail)
  repeat (any_goals (go_quiet (fail);(try go_wp2_with (fail))))
  go_region_held3 (fun w'=>w'.cell? ⟨w.heap.size,0,none⟩=some (.int .i64 5)/\w'.cell? ⟨w.heap.size,1,none⟩=some (.int .i64 (m:Int))/\w'.cell? ⟨w.heap.size,3,none⟩=some (.slice Ai its.length ci)/\w'.cell? ⟨w.heap.size,4,none⟩=some (.slice Ak keys.length ck)/\w'.cell? ⟨q,1,none⟩=some (.slice (some ⟨b4,o4,none⟩) x1.length c1)/\w'.cell? ⟨b4,o4+m*3+1,none⟩=some (.slice abC fV.length abD)) (go_keep) (first | (go_at_call 106;(with_reducible refine (kj (O.mk x0 x1 x2 x3 x4 x5 x6 x7 x8 x9 F G Z) its S S' q _ _ _ (cv.de bl HS.out) (Row.de bl lL.out)).mono ?_);rintro e Rw ⟨rfl,jt⟩;rw[kO.out];(have Cc:=jt.sz;obtain⟨qb,qc,qd,qe⟩:=jt.lay (w.heap.size);obtain⟨qf,qg,qh,qi⟩:=jt.lay (q);obtain⟨Co,Cp,Cq,Cr⟩:=jt.lay (b4))))
  all_goals
   (try go_wp2_with (fail))
  all_goals
   go_returns
   exact⟨by rw[RR.out];first | done | rfl,bl⟩):p:=h
theorem afP {p:Prop} (h:p:=by
  go_enter Tryz.func46,Tryz.ntmps46
  go_wp2_with (fail)
  repeat (any_goals (go_quiet (fail);(try go_wp2_with (fail))))
  go_region_held3 (fun w'=>w'.cell? ⟨w.heap.size,1,none⟩=some (.int .i64 (m:Int))/\w'.cell? ⟨w.heap.size,2,none⟩=some (.int .i64 (j:Int))/\w'.cell? ⟨q,2,none⟩=some (.slice (some ⟨b1,o1,none⟩) x2.length c2)/\w'.cell? ⟨b1,o1+m*5+3,none⟩=some (.slice (some ⟨b2,o2,none⟩) cB.length iz)/\w'.cell? ⟨b2,o2+j*6,none⟩=some (.int .i64 da)/\w'.cell? ⟨b2,o2+j*6+1,none⟩=some (.int .i64 dw)/\w'.cell? ⟨b2,o2+j*6+2,none⟩=some (.int .i64 dx)/\w'.cell? ⟨b2,o2+j*6+3,none⟩=some (.string dy)/\w'.cell? ⟨b2,o2+j*6+4,none⟩=some (.int .i64 dz)/\w'.cell? ⟨b2,o2+j*6+5,none⟩=some (.int .i64 dA)) (first | exact⟨jF,jF,(U.box (W:=w) bl q hq _).trans e2,(U.box (W:=w) bl b1 dS _).trans fK,(U.box (W:=w) bl b2 mu _).trans jS,(U.box (W:=w) bl b2 mu _).trans jT,(U.box (W:=w) bl b2 mu _).trans jU,(U.box (W:=w) bl b2 mu _).trans jV,(U.box (W:=w) bl b2 mu _).trans jW,(U.box (W:=w) bl b2 mu _).trans j1⟩) (fail)
  go_wp2_with (fail)
  repeat (any_goals (go_quiet (fail);(try go_wp2_with (fail))))
  all_goals
   refine bodyPost_ret (v:=.tuple #[.agg #[.int .i64 da,.int .i64 dw,.int .i64 dx,.string dy,.int .i64 dz,.int .i64 dA],.int .i64 0]) (by simp[results,Tryz.results46,go_sem] <;> rfl) rfl ⟨?_,bl⟩
   rw[RR.out];first | done | rfl):p:=h
theorem ag3 {p:Prop} (h:p:=by
  have dQ:(tag==0)=true:=aK
  have dR:(tag != 0)=false:=aL
  have cW:((keys.length:Int)==0)=true:=aK
  have cX:((keys.length:Int) != 0)=false:=aL
  have kG:=I fR
  have oJ:=I iT
  clear dn cU fR iT
  go_enter Tryz.func105,Tryz.ntmps105
  have eF:=True.intro
  repeat (any_goals ((first | clear eF | go_quiet (fail));(try go_wp2_with (first | (go_at_call 45;(with_reducible refine (gq (O.mk x0 x1 x2 x3 x4 x5 x6 x7 x8 x9 F G Z) ⟨5,cD,cE,cB,cF,cO⟩ S q _ (cv.de bl HS.out) ⟨eN,fi,eO,Bi.out,gD,gE⟩).mono ?_);rintro e yP ⟨rfl,er⟩;rw[kG.out];(have nH:=er.sz;obtain⟨iU,iV,iW,iX⟩:=er.lay (w.heap.size);obtain⟨iY,iZ,ja,jb⟩:=er.lay (q);obtain⟨rr,ru,rv,ry⟩:=er.lay (b1))) | (go_at_call 31;(with_reducible refine (kK (O.mk x0 x1 x2 x3 x4 x5 x6 x7 x8 x9 F G Z) ⟨da,dw,dx,dy,dz,dA⟩ S q _ (cv.de bl HS.out) ⟨kv,kz,kA,Ed.out,kD,kE⟩).mono ?_);rintro e Ug ⟨rfl,jI⟩;rw[oJ.out];(have Di:=jI.sz;obtain⟨rz,rA,rB,rC⟩:=jI.lay (w.heap.size);obtain⟨rD,rE,rF,rG⟩:=jI.lay (q);obtain⟨zh,zi,zj,zk⟩:=jI.lay (b1)))))))
  all_goals
   go_returns
   exact⟨by rw[RR.out];first | done | rfl,bl⟩):p:=h
theorem aby {p:Prop} (h:p:=by
  have HQ:=I (fun (wx:World) (hx:U w wx)=>(by have:=oI (O.mk x0 x1 x2 x3 x4 x5 x6 x7 x8 x9 F G Z) (m:Int) 1 S q wx (cv.de hx js.out);rw[HH.out]at this;exact this))
  go_enter Tryz.func27,Tryz.ntmps27
  go_wp2_with (first | (go_at_call 83;refine (jo _ _ hv).mono ?_;rintro e w1 ⟨rfl,dE⟩;(have jZ:=dE.sz;obtain⟨fA,fJ,fI,fP⟩:=dE.lay (w.heap.size);obtain⟨fX,fY,gi,gj⟩:=dE.lay (q);obtain⟨my,mz,mA,mB⟩:=dE.lay (b1));rw[HW.out])) 
  go_quiet ((go_at_call 39;refine Calls.quiet_of (HQ.out _ bl)))
  go_wp2_with (fail)
  repeat (any_goals (go_quiet (fail);(try go_wp2_with (fail))))
  all_goals
   go_returns
   exact⟨by rw[RR.out];first | done | rfl,bl⟩):p:=h
theorem abz {p:Prop} (h:p:=by
  have HQ:=I (fun (wx:World) (hx:U w wx)=>(by have:=oI (O.mk x0 x1 x2 x3 x4 x5 x6 x7 x8 x9 F G Z) (m:Int) 5 S q wx (cv.de hx js.out);rw[HH.out]at this;exact this))
  go_enter Tryz.func27,Tryz.ntmps27
  go_wp2_with (first | (go_at_call 83;refine (jo _ _ hv).mono ?_;rintro e w1 ⟨rfl,dE⟩;(have jZ:=dE.sz;obtain⟨fA,fJ,fI,fP⟩:=dE.lay (w.heap.size);obtain⟨fX,fY,gi,gj⟩:=dE.lay (q);obtain⟨my,mz,mA,mB⟩:=dE.lay (b1));rw[HW.out])) 
  go_quiet ((go_at_call 39;refine Calls.quiet_of (HQ.out _ bl)))
  go_wp2_with (fail)
  repeat (any_goals (go_quiet (fail);(try go_wp2_with (fail))))
  all_goals
   go_returns
   exact⟨by rw[RR.out];first | done | rfl,bl⟩):p:=h
theorem ang {p:Prop} (h:p:=by
  simp only[gZ,Act.put,aa,ab,ae,af,ag,aj]
  intro uf wa ⟨s,fh,hJ⟩ K hK
  obtain⟨cQ,cI,cG,cN,cR,eQ,ef,dC,eh,dU,eU,eR,dB,eu⟩:=hJ
  have ss:=eu (fh 12 aI)
  have ph:=dB (fh 11 aI)
  clear cI cG cN cR eQ ef dC eh dU eU eR dB eu fh
  rw[ss,ph]at hK |-
  obtain⟨yK,kH⟩:=zm.out wa cQ
  refine wp_store_mid 34 (.tmp 32) (.tmp 31) rfl g3 (o3+j*6) #[.int .i64 vk,.int .i64 vn,.int .i64 vi,.string vt,.int .i64 vl,.int .i64 vh] rfl rfl yK aG aW ?_
  refine hK.out undef _ ?_
  obtain⟨⟨L9,sy⟩,su⟩:=kH (⟨vk,vn,vi,vt,vl,vh⟩:cC) HV.out
  clear hK kH
  obtain⟨wz,mW⟩:∃x,wa.setCells g3 (o3+j*6) (nT (⟨vk,vn,vi,vt,vl,vh⟩:cC))=x:=⟨_,rfl⟩
  rw[mW]at sy su
  rw[show wa.setCells g3 (o3+j*6) (#[Value.int .i64 vk,.int .i64 vn,.int .i64 vi,.string vt,.int .i64 vl,.int .i64 vh]:Array Value).toList=wz from mW]
  have OG:=I sy
  have It:=I su
  clear mW sy su yK ss ph cQ
  go_wp2_with (fail)
  all_goals
   go_returns
   exact⟨by (rw[RR.out] <;> rfl),⟨_,_,by rw[RR.out];exact OG.out.on bl⟩,(mf.dH jg hN).trans (It.out.trans (mf.dH bl (aw (aw hN jg.size) It.out.size)))⟩):p:=h
theorem anh {p:Prop} (h:p:=by
  simp only[gZ,Act.put,aa,ab,ae,af,ag,aj]
  intro uf wa ⟨s,fh,hJ⟩ K hK
  obtain⟨cQ,cI,cG,cN,cR,eQ,ef,dC,eh,dU,eU,eR,dB,eu⟩:=hJ
  have ss:=eu (fh 12 aI)
  have ph:=dB (fh 11 aI)
  clear cI cG cN cR eQ ef dC eh dU eU eR dB eu fh
  rw[ss,ph]at hK |-
  obtain⟨yK,kH⟩:=zm.out wa cQ
  refine wp_store_mid 34 (.tmp 33) (.tmp 32) rfl g3 (o3+j*6) #[.int .i64 vk,.int .i64 vn,.int .i64 vi,.string vt,.int .i64 vl,.int .i64 vh] rfl rfl yK aG aW ?_
  refine hK.out undef _ ?_
  obtain⟨⟨L9,sy⟩,su⟩:=kH (⟨vk,vn,vi,vt,vl,vh⟩:cC) HV.out
  clear hK kH
  obtain⟨wz,mW⟩:∃x,wa.setCells g3 (o3+j*6) (nT (⟨vk,vn,vi,vt,vl,vh⟩:cC))=x:=⟨_,rfl⟩
  rw[mW]at sy su
  rw[show wa.setCells g3 (o3+j*6) (#[Value.int .i64 vk,.int .i64 vn,.int .i64 vi,.string vt,.int .i64 vl,.int .i64 vh]:Array Value).toList=wz from mW]
  have OG:=I sy
  have It:=I su
  clear mW sy su yK ss ph cQ
  go_wp2_with (fail)
  all_goals
   go_returns
   exact⟨by (rw[RR.out] <;> rfl),⟨_,_,by rw[RR.out];exact OG.out.on bl⟩,(mf.dH jg hN).trans (It.out.trans (mf.dH bl (aw (aw hN jg.size) It.out.size)))⟩):p:=h
theorem agZ {p:Prop} (h:p:=by
  have dQ:(tag==0)=true:=aK
  have dR:(tag != 0)=false:=aL
  have je:decide ((keys.length:Int)<=40)=true:=ay aF
  have jf:decide (40<(keys.length:Int))=false:=ax aF
  have vL:((its.length:Int)==0)=true:=aK
  have vM:((its.length:Int) != 0)=false:=aL
  have mQ:=I ib
  have oL:=I ju
  clear dn fH mY ib ju
  go_enter Tryz.func105,Tryz.ntmps105
  have eF:=True.intro
  repeat (any_goals ((first | clear eF | go_quiet (fail));(try go_wp2_with (first | (go_at_call 106;(with_reducible refine (kj (O.mk x0 x1 x2 x3 x4 x5 x6 x7 x8 x9 F G Z) keys S S' q _ _ _ (cv.de bl HS.out) (Row.de bl rR.out)).mono ?_);rintro e wak ⟨rfl,qj⟩;rw[mQ.out];(have Rx:=qj.sz;obtain⟨Cd,Ce,Cf,Cg⟩:=qj.lay (w.heap.size);obtain⟨Ch,Ci,Cj,Ck⟩:=qj.lay (q))) | (go_at_call 141;(with_reducible refine (yv keys S' _ _ _ (Row.de bl rR.out)).mono ?_);rintro e wdk ⟨rfl,qt⟩;rw[oL.out];(have TV:=qt.sz;obtain⟨CL,CM,CN,CO⟩:=qt.lay (w.heap.size);obtain⟨CP,CQ,CR,CS⟩:=qt.lay (q)))))))
  all_goals
   go_returns
   exact⟨by rw[RR.out];first | done | rfl,bl⟩):p:=h
theorem NO {p:Prop} (h:p:=by
  go_enter Tryz.func105,Tryz.ntmps105
  (go_wp2_with (fail))
  go_quiet (fail)
  go_upto_region 20 with (fail)
  simp only[List.append]
  (go_wp2_with (fail))
  all_goals
   go_returns
   exact⟨by rw[RR.out];first | done | rfl,bl⟩):p:=h
theorem abv {p:Prop} (h:p:=by
  go_enter Tryz.func45,Tryz.ntmps45
  have eF:=True.intro
  repeat (any_goals ((first | clear eF | go_quiet (fail));(try go_wp2_with (first | (go_at_call 107;refine (cH _ _ hv).mono ?_;rintro e w1 ⟨rfl,dE⟩;(have jZ:=dE.sz;obtain⟨fA,fJ,fI,fP⟩:=dE.lay (w.heap.size);obtain⟨fX,fY,gi,gj⟩:=dE.lay (q);obtain⟨my,mz,mA,mB⟩:=dE.lay (b1));rw[HW.out]) | (go_at_call 108;refine (dF _ _).mono ?_;rintro e w2 ⟨rfl,rfl⟩;rw[mC])))))
  all_goals
   go_returns
   exact⟨by rw[RR.out];first | done | rfl,bl⟩):p:=h
theorem abw {p:Prop} (h:p:=by
  go_enter Tryz.func45,Tryz.ntmps45
  have eF:=True.intro
  repeat (any_goals ((first | clear eF | go_quiet (fail));(try go_wp2_with (first | (go_at_call 107;refine (cH _ _ hv).mono ?_;rintro e w1 ⟨rfl,dE⟩;(have jZ:=dE.sz;obtain⟨fA,fJ,fI,fP⟩:=dE.lay (w.heap.size);obtain⟨fX,fY,gi,gj⟩:=dE.lay (q);obtain⟨my,mz,mA,mB⟩:=dE.lay (b1));rw[HW.out]) | (go_at_call 108;refine (dF _ _).mono ?_;rintro e w2 ⟨rfl,rfl⟩;rw[mD])))))
  all_goals
   go_returns
   exact⟨by rw[RR.out];first | done | rfl,bl⟩):p:=h
theorem abt {p:Prop} (h:p:=by
  clear hw
  go_enter Tryz.func45,Tryz.ntmps45
  have eF:=True.intro
  repeat (any_goals ((first | clear eF | go_quiet (fail));(try go_wp2_with (first | (go_at_call 107;refine (cH _ _ hv).mono ?_;rintro e w1 ⟨rfl,dE⟩;(have jZ:=dE.sz;obtain⟨fA,fJ,fI,fP⟩:=dE.lay (w.heap.size);obtain⟨fX,fY,gi,gj⟩:=dE.lay (q));rw[HW.out]) | (go_at_call 108;refine (dF _ _).mono ?_;rintro e w2 ⟨rfl,rfl⟩;rw[ue])))))
  all_goals
   go_returns
   exact⟨by rw[RR.out];first | done | rfl,bl⟩):p:=h
theorem abu {p:Prop} (h:p:=by
  clear hw
  go_enter Tryz.func45,Tryz.ntmps45
  have eF:=True.intro
  repeat (any_goals ((first | clear eF | go_quiet (fail));(try go_wp2_with (first | (go_at_call 107;refine (cH _ _ hv).mono ?_;rintro e w1 ⟨rfl,dE⟩;(have jZ:=dE.sz;obtain⟨fA,fJ,fI,fP⟩:=dE.lay (w.heap.size);obtain⟨fX,fY,gi,gj⟩:=dE.lay (q));rw[HW.out]) | (go_at_call 108;refine (dF _ _).mono ?_;rintro e w2 ⟨rfl,rfl⟩;rw[ug])))))
  all_goals
   go_returns
   exact⟨by rw[RR.out];first | done | rfl,bl⟩):p:=h
theorem ags {p:Prop} (h:p:=by
  clear hw
  go_enter Tryz.func45,Tryz.ntmps45
  have eF:=True.intro
  repeat (any_goals ((first | clear eF | go_quiet (fail));(try go_wp2_with (first | (go_at_call 107;refine (cH _ _ hv).mono ?_;rintro e w1 ⟨rfl,dE⟩;(have jZ:=dE.sz;obtain⟨fA,fJ,fI,fP⟩:=dE.lay (w.heap.size);obtain⟨fX,fY,gi,gj⟩:=dE.lay (q));rw[HW.out]) | (go_at_call 108;refine (dF _ _).mono ?_;rintro e w2 ⟨rfl,rfl⟩;rw[FM])))))
  all_goals
   go_returns
   exact⟨by rw[RR.out];first | done | rfl,bl⟩):p:=h
theorem abq {p:Prop} (h:p:=by
  clear hw
  go_enter Tryz.func45,Tryz.ntmps45
  have eF:=True.intro
  repeat (any_goals ((first | clear eF | go_quiet (fail));(try go_wp2_with (first | (go_at_call 107;refine (cH _ _ hv).mono ?_;rintro e w1 ⟨rfl,dE⟩;(have jZ:=dE.sz;obtain⟨fA,fJ,fI,fP⟩:=dE.lay (w.heap.size);obtain⟨fX,fY,gi,gj⟩:=dE.lay (q));rw[HW.out]) | (go_at_call 108;refine (dF _ _).mono ?_;rintro e w2 ⟨rfl,rfl⟩;rw[ys])))))
  all_goals
   go_returns
   exact⟨by rw[RR.out];first | done | rfl,bl⟩):p:=h
theorem abr {p:Prop} (h:p:=by
  clear hw
  go_enter Tryz.func45,Tryz.ntmps45
  have eF:=True.intro
  repeat (any_goals ((first | clear eF | go_quiet (fail));(try go_wp2_with (first | (go_at_call 107;refine (cH _ _ hv).mono ?_;rintro e w1 ⟨rfl,dE⟩;(have jZ:=dE.sz;obtain⟨fA,fJ,fI,fP⟩:=dE.lay (w.heap.size);obtain⟨fX,fY,gi,gj⟩:=dE.lay (q));rw[HW.out]) | (go_at_call 108;refine (dF _ _).mono ?_;rintro e w2 ⟨rfl,rfl⟩;rw[yt])))))
  all_goals
   go_returns
   exact⟨by rw[RR.out];first | done | rfl,bl⟩):p:=h
theorem agq {p:Prop} (h:p:=by
  go_enter Tryz.func14,Tryz.ntmps14
  have eF:=True.intro
  repeat (any_goals ((first | clear eF | go_quiet (fail));(try go_wp2_with (first | (go_at_call 13;refine (iS (O.mk x0 x1 x2 x3 x4 x5 x6 x7 x8 x9 F G Z) ⟨k0,n0,i0,t0,qA,jh⟩ S _ _ (Y.cA.de bl HV.out) HX.out).mono ?_;rintro e w1 ⟨rfl,dE⟩;rw[HB.out];(have jZ:=dE.sz;obtain⟨fA,fJ,fI,fP⟩:=dE.lay (w.heap.size);obtain⟨fX,fY,gi,gj⟩:=dE.lay (w.heap.size+1);obtain⟨my,mz,mA,mB⟩:=dE.lay (w.heap.size+1+1));have Z1:=Z6.on Z6.new dE;(try simp only[World.size_alloc]at Z1))))))
  all_goals
   refine po (Z6.on Z1 bl) fun wz d0 d1 d2 d3 d4 d5 sS=>?_
   refine bodyPost_ret (v:=.tuple #[.agg #[.int .i64 0,.int .i64 0,.int .i64 0,.string ByteArray.empty,.int .i64 0,.int .i64 0],.int .i64 111]) (by simp[results,Tryz.results14,go_sem,d0,d1,d2,d3,d4,d5] <;> rfl) rfl ⟨?_,sS _ bl aF⟩
   rw[RR.out];first | done | rfl):p:=h
theorem agW {p:Prop} (h:p:=by
  clear hl
  go_enter Tryz.func142,Tryz.ntmps142
  have eF:=True.intro
  repeat (any_goals ((first | clear eF | go_quiet (fail));(try go_wp2_with (go_at_call 80;refine (yw tag _).mono ?_;rintro e w1 ⟨AK,cK,rfl,hRK,dE⟩;(try simp only[ar]);clear hRK;(have jZ:=dE.sz;obtain⟨fA,fJ,fI,fP⟩:=dE.lay (w.heap.size);obtain⟨fX,fY,gi,gj⟩:=dE.lay (q))))))
  all_goals
   go_returns
   exact⟨by rw[RR.out];first | done | rfl,bl⟩):p:=h
theorem agn {p:Prop} (h:p:=by
  have HI:=I hi
  clear hb hi
  go_enter Tryz.func35,Tryz.ntmps35
  have eF:=True.intro
  repeat (any_goals ((first | clear eF | go_quiet (fail));(try go_wp2_with (first | (go_at_call 10;refine (jn (O.mk x0 x1 x2 x3 x4 x5 x6 x7 x8 x9 F G Z) S _ _ (HT.out.on bl) (Y.cA.de bl HV.out)).mono ?_;rintro e w1 ⟨rfl,dE⟩;rw[HB.out];(have jZ:=dE.sz;obtain⟨fA,fJ,fI,fP⟩:=dE.lay (w.heap.size);obtain⟨fX,fY,gi,gj⟩:=dE.lay (w.heap.size+1))) | (go_at_call 27;refine (ee (O.mk x0 x1 x2 x3 x4 x5 x6 x7 x8 x9 F G Z) ⟨k0,n0,i0,t0,qA,jh⟩ S w.heap.size _ (cv.de bl FK.out) HX.out).mono ?_;rintro e w2 ⟨rfl,gC⟩;rw[HI.out])))))
  all_goals
   go_returns
   exact⟨by rw[RR.out];first | done | rfl,bl⟩):p:=h
theorem agm {p:Prop} (h:p:=by
  have HI:=I hi
  clear hb hi
  go_enter Tryz.func13,Tryz.ntmps13
  have eF:=True.intro
  repeat (any_goals ((first | clear eF | go_quiet (fail));(try go_wp2_with (first | (go_at_call 44;refine (vE (O.mk x0 x1 x2 x3 x4 x5 x6 x7 x8 x9 F G Z) S _ _ (Y.cA.de bl HV.out)).mono ?_;rintro e w1 ⟨rfl,dE⟩;rw[HB.out];(have jZ:=dE.sz;obtain⟨fA,fJ,fI,fP⟩:=dE.lay (w.heap.size);obtain⟨fX,fY,gi,gj⟩:=dE.lay (w.heap.size+1))) | (go_at_call 45;refine (gq (O.mk x0 x1 x2 x3 x4 x5 x6 x7 x8 x9 F G Z) ⟨k0,n0,i0,t0,qA,jh⟩ S w.heap.size _ (cv.de bl FK.out) HX.out).mono ?_;rintro e w2 ⟨rfl,gC⟩;rw[HI.out])))))
  all_goals
   go_returns
   exact⟨by rw[RR.out];first | done | rfl,bl⟩):p:=h
theorem ag1 {p:Prop} (h:p:=by
  have cW:((keys.length:Int)==0)=true:=aK
  have cX:((keys.length:Int) != 0)=false:=aL
  have TX:=I zJ
  clear cU zJ
  go_enter Tryz.func105,Tryz.ntmps105
  have eF:=True.intro
  repeat (any_goals ((first | clear eF | go_quiet (fail));(try go_wp2_with (first | (go_at_call 142;refine (Hi (O.mk x0 x1 x2 x3 x4 x5 x6 x7 x8 x9 F G Z) 7 tag J its keys S S' q _ _ _ _ _ (cv.de bl HS.out) (Row.de bl lL.out)).mono ?_;rintro e wp ⟨rfl,hbp⟩;rw[TX.out];(have hzp:=hbp.sz;obtain⟨aiu,aiv,aiw,aix⟩:=hbp.lay (w.heap.size);obtain⟨aiy,aiz,aiA,aiB⟩:=hbp.lay (q)))))))
  all_goals
   go_returns
   exact⟨by rw[RR.out];first | done | rfl,bl⟩):p:=h
theorem Wc {p:Prop} (h:p:=by
  go_enter Tryz.func39,Tryz.ntmps39
  go_wp2_with (fail)
  repeat (any_goals (go_quiet (fail);(try go_wp2_with (fail))))
  all_goals
   go_returns
   first | exact⟨by rw[RR.out];first | done | rfl,_,rfl⟩ | exact⟨by rw[RR.out];first | done | rfl,0,rfl⟩):p:=h
theorem agl {p:Prop} (h:p:=by
  obtain⟨x0,x1,x2,x3,x4,x5,x6,x7,x8,x9,F,G,Z⟩:=s
  have js:=I hs
  obtain⟨A0,c0,A1,c1,A2,c2,A3,c3,A6,c6,A7,c7,A8,c8,hq,e0,e1,e2,e3,e4,e5,e6,e7,e8,e9,iE,jc,jd,fj,fm,fa,fb,ew,eL,eK,eV,eX,eY,fp,fq,fc,ff,g4,g5,g10,g11,g12,-,-,-,-,-,-,-⟩:=cv.j8 hs
  clear hs
  have ga:¬q=w.heap.size:=aF
  go_enter Tryz.func36,Tryz.ntmps36
  go_wp2_with (fail)
  repeat (any_goals (go_quiet (fail);(try go_wp2_with (fail))))
  all_goals
  exact bodyPost_ret (v:=.tuple #[zeroV.val,.int .i64 111]) (by simp[results,Tryz.results36,go_sem] <;> rfl) rfl ⟨rfl,bl⟩):p:=h
theorem aeX {p:Prop} (h:p:=by
  go_enter Tryz.func87,Tryz.ntmps87
  go_wp2_with (first | (go_at_call 86;refine (pI ⟨k,n,i,t,lo,hi⟩ _ hv (j6.on (U.alloc (U.refl w) _))).mono ?_;rintro e w1 ⟨rfl,dE⟩;have jZ:=dE.sz;obtain⟨fA,fJ,fI,fP⟩:=dE.lay (w.heap.size);(try simp only[cC.val]));(try simp only[HB.out]) | (go_at_call 123;refine (GF (tw ⟨k,n,i,t,lo,hi⟩) _ hT).mono ?_;rintro e w2 ⟨rfl,gC⟩;have xX:=gC.sz;obtain⟨vF,vG,vH,vK⟩:=gC.lay (w.heap.size);(try simp only[cC.val])))
  all_goals
   go_returns
   rw[R0.out,R1.out]
   exact⟨rfl,bl⟩):p:=h
theorem ad6 {p:Prop} (h:p:=by
  rcases hb with hb | hb
  ·
   rcases yT b hb with e | e
   ·
    exact Or.inl (Or.inl e)
   ·
    refine Or.inr ⟨by omega,fun f hf hc=>?_⟩
    have:=(HH.out.gv.own f (by rcases List.mem_append.1 hf with hf | hf;exact List.mem_append.2 (Or.inl hf);exact List.mem_append.2 (Or.inr (List.mem_cons_of_mem _ hf)))).lt b hc
    omega
  ·
   rcases List.mem_append.1 hb with hb | hb
   ·
    exact Or.inl (Or.inr hb)
   ·
    exact Or.inr ⟨(HM.out b hb).1,fun f hf=>(HM.out b hb).2.2 f (by rcases List.mem_append.1 hf with hf | hf;exact List.mem_append.2 (Or.inl hf);exact List.mem_append.2 (Or.inr (List.mem_cons_of_mem _ hf)))⟩):p:=h
theorem agG {p:Prop} (h:p:=by
  go_enter Tryz.func45,Tryz.ntmps45
  have eF:=True.intro
  repeat (any_goals ((first | clear eF | go_quiet (fail));(try go_wp2_with (first | (go_at_call 107;refine (cH _ _ hv).mono ?_;rintro e w1 ⟨rfl,dE⟩;(have jZ:=dE.sz;obtain⟨fA,fJ,fI,fP⟩:=dE.lay (w.heap.size);obtain⟨fX,fY,gi,gj⟩:=dE.lay (q);obtain⟨my,mz,mA,mB⟩:=dE.lay (b1));rw[HW.out]) | (go_at_call 108;refine (dF _ _).mono ?_;rintro e w2 ⟨rfl,rfl⟩;rw[oD])))))
  all_goals
   go_returns
   exact⟨by rw[RR.out];first | done | rfl,bl⟩):p:=h
theorem agI {p:Prop} (h:p:=by
  go_enter Tryz.func45,Tryz.ntmps45
  have eF:=True.intro
  repeat (any_goals ((first | clear eF | go_quiet (fail));(try go_wp2_with (first | (go_at_call 107;refine (cH _ _ hv).mono ?_;rintro e w1 ⟨rfl,dE⟩;(have jZ:=dE.sz;obtain⟨fA,fJ,fI,fP⟩:=dE.lay (w.heap.size);obtain⟨fX,fY,gi,gj⟩:=dE.lay (q);obtain⟨my,mz,mA,mB⟩:=dE.lay (b1));rw[HW.out]) | (go_at_call 108;refine (dF _ _).mono ?_;rintro e w2 ⟨rfl,rfl⟩;rw[oE])))))
  all_goals
   go_returns
   exact⟨by rw[RR.out];first | done | rfl,bl⟩):p:=h
theorem agL {p:Prop} (h:p:=by
  go_enter Tryz.func45,Tryz.ntmps45
  have eF:=True.intro
  repeat (any_goals ((first | clear eF | go_quiet (fail));(try go_wp2_with (first | (go_at_call 107;refine (cH _ _ hv).mono ?_;rintro e w1 ⟨rfl,dE⟩;(have jZ:=dE.sz;obtain⟨fA,fJ,fI,fP⟩:=dE.lay (w.heap.size);obtain⟨fX,fY,gi,gj⟩:=dE.lay (q);obtain⟨my,mz,mA,mB⟩:=dE.lay (b1));rw[HW.out]) | (go_at_call 108;refine (dF _ _).mono ?_;rintro e w2 ⟨rfl,rfl⟩;rw[oF])))))
  all_goals
   go_returns
   exact⟨by rw[RR.out];first | done | rfl,bl⟩):p:=h
theorem agO {p:Prop} (h:p:=by
  go_enter Tryz.func45,Tryz.ntmps45
  have eF:=True.intro
  repeat (any_goals ((first | clear eF | go_quiet (fail));(try go_wp2_with (first | (go_at_call 107;refine (cH _ _ hv).mono ?_;rintro e w1 ⟨rfl,dE⟩;(have jZ:=dE.sz;obtain⟨fA,fJ,fI,fP⟩:=dE.lay (w.heap.size);obtain⟨fX,fY,gi,gj⟩:=dE.lay (q);obtain⟨my,mz,mA,mB⟩:=dE.lay (b1));rw[HW.out]) | (go_at_call 108;refine (dF _ _).mono ?_;rintro e w2 ⟨rfl,rfl⟩;rw[lg])))))
  all_goals
   go_returns
   exact⟨by rw[RR.out];first | done | rfl,bl⟩):p:=h
theorem agQ {p:Prop} (h:p:=by
  go_enter Tryz.func45,Tryz.ntmps45
  have eF:=True.intro
  repeat (any_goals ((first | clear eF | go_quiet (fail));(try go_wp2_with (first | (go_at_call 107;refine (cH _ _ hv).mono ?_;rintro e w1 ⟨rfl,dE⟩;(have jZ:=dE.sz;obtain⟨fA,fJ,fI,fP⟩:=dE.lay (w.heap.size);obtain⟨fX,fY,gi,gj⟩:=dE.lay (q);obtain⟨my,mz,mA,mB⟩:=dE.lay (b1));rw[HW.out]) | (go_at_call 108;refine (dF _ _).mono ?_;rintro e w2 ⟨rfl,rfl⟩;rw[oG])))))
  all_goals
   go_returns
   exact⟨by rw[RR.out];first | done | rfl,bl⟩):p:=h
theorem agS {p:Prop} (h:p:=by
  go_enter Tryz.func45,Tryz.ntmps45
  have eF:=True.intro
  repeat (any_goals ((first | clear eF | go_quiet (fail));(try go_wp2_with (first | (go_at_call 107;refine (cH _ _ hv).mono ?_;rintro e w1 ⟨rfl,dE⟩;(have jZ:=dE.sz;obtain⟨fA,fJ,fI,fP⟩:=dE.lay (w.heap.size);obtain⟨fX,fY,gi,gj⟩:=dE.lay (q);obtain⟨my,mz,mA,mB⟩:=dE.lay (b1));rw[HW.out]) | (go_at_call 108;refine (dF _ _).mono ?_;rintro e w2 ⟨rfl,rfl⟩;rw[oH])))))
  all_goals
   go_returns
   exact⟨by rw[RR.out];first | done | rfl,bl⟩):p:=h
theorem agy {p:Prop} (h:p:=by
  go_enter Tryz.func45,Tryz.ntmps45
  have eF:=True.intro
  repeat (any_goals ((first | clear eF | go_quiet (fail));(try go_wp2_with (first | (go_at_call 107;refine (cH _ _ hv).mono ?_;rintro e w1 ⟨rfl,dE⟩;(have jZ:=dE.sz;obtain⟨fA,fJ,fI,fP⟩:=dE.lay (w.heap.size);obtain⟨fX,fY,gi,gj⟩:=dE.lay (q);obtain⟨my,mz,mA,mB⟩:=dE.lay (b1));rw[HW.out]) | (go_at_call 108;refine (dF _ _).mono ?_;rintro e w2 ⟨rfl,rfl⟩;rw[qI])))))
  all_goals
   go_returns
   exact⟨by rw[RR.out];first | done | rfl,bl⟩):p:=h
theorem agA {p:Prop} (h:p:=by
  go_enter Tryz.func45,Tryz.ntmps45
  have eF:=True.intro
  repeat (any_goals ((first | clear eF | go_quiet (fail));(try go_wp2_with (first | (go_at_call 107;refine (cH _ _ hv).mono ?_;rintro e w1 ⟨rfl,dE⟩;(have jZ:=dE.sz;obtain⟨fA,fJ,fI,fP⟩:=dE.lay (w.heap.size);obtain⟨fX,fY,gi,gj⟩:=dE.lay (q);obtain⟨my,mz,mA,mB⟩:=dE.lay (b1));rw[HW.out]) | (go_at_call 108;refine (dF _ _).mono ?_;rintro e w2 ⟨rfl,rfl⟩;rw[mM])))))
  all_goals
   go_returns
   exact⟨by rw[RR.out];first | done | rfl,bl⟩):p:=h
theorem agC {p:Prop} (h:p:=by
  go_enter Tryz.func45,Tryz.ntmps45
  have eF:=True.intro
  repeat (any_goals ((first | clear eF | go_quiet (fail));(try go_wp2_with (first | (go_at_call 107;refine (cH _ _ hv).mono ?_;rintro e w1 ⟨rfl,dE⟩;(have jZ:=dE.sz;obtain⟨fA,fJ,fI,fP⟩:=dE.lay (w.heap.size);obtain⟨fX,fY,gi,gj⟩:=dE.lay (q);obtain⟨my,mz,mA,mB⟩:=dE.lay (b1));rw[HW.out]) | (go_at_call 108;refine (dF _ _).mono ?_;rintro e w2 ⟨rfl,rfl⟩;rw[qJ])))))
  all_goals
   go_returns
   exact⟨by rw[RR.out];first | done | rfl,bl⟩):p:=h
theorem agE {p:Prop} (h:p:=by
  go_enter Tryz.func45,Tryz.ntmps45
  have eF:=True.intro
  repeat (any_goals ((first | clear eF | go_quiet (fail));(try go_wp2_with (first | (go_at_call 107;refine (cH _ _ hv).mono ?_;rintro e w1 ⟨rfl,dE⟩;(have jZ:=dE.sz;obtain⟨fA,fJ,fI,fP⟩:=dE.lay (w.heap.size);obtain⟨fX,fY,gi,gj⟩:=dE.lay (q);obtain⟨my,mz,mA,mB⟩:=dE.lay (b1));rw[HW.out]) | (go_at_call 108;refine (dF _ _).mono ?_;rintro e w2 ⟨rfl,rfl⟩;rw[qL])))))
  all_goals
   go_returns
   exact⟨by rw[RR.out];first | done | rfl,bl⟩):p:=h
theorem aeW {p:Prop} (h:p:=by
  go_enter Tryz.func92,Tryz.ntmps92
  go_wp2_with (first | (go_at_call 91;refine (pH ⟨k,n,i,t,lo,hi⟩ _ hv).mono ?_;rintro e w1 ⟨rfl,dE⟩;have jZ:=dE.sz;obtain⟨fA,fJ,fI,fP⟩:=dE.lay (w.heap.size);(try simp only[cC.val]));(try simp only[HB.out]) | (go_at_call 126;refine (GG (tw ⟨k,n,i,t,lo,hi⟩) _ hT).mono ?_;rintro e w2 ⟨rfl,gC⟩;have xX:=gC.sz;obtain⟨vF,vG,vH,vK⟩:=gC.lay (w.heap.size);(try simp only[cC.val])))
  all_goals
   go_returns
   rw[R0.out,R1.out]
   exact⟨rfl,bl⟩):p:=h
theorem agw {p:Prop} (h:p:=by
  clear hw
  go_enter Tryz.func45,Tryz.ntmps45
  have eF:=True.intro
  repeat (any_goals ((first | clear eF | go_quiet (fail));(try go_wp2_with (first | (go_at_call 107;refine (cH _ _ hv).mono ?_;rintro e w1 ⟨rfl,dE⟩;(have jZ:=dE.sz;obtain⟨fA,fJ,fI,fP⟩:=dE.lay (w.heap.size);obtain⟨fX,fY,gi,gj⟩:=dE.lay (q));rw[HW.out]) | (go_at_call 108;refine (dF _ _).mono ?_;rintro e w2 ⟨rfl,rfl⟩;rw[BV])))))
  all_goals
   go_returns
   exact⟨by rw[RR.out];first | done | rfl,bl⟩):p:=h
theorem agt {p:Prop} (h:p:=by
  clear hw
  go_enter Tryz.func45,Tryz.ntmps45
  have eF:=True.intro
  repeat (any_goals ((first | clear eF | go_quiet (fail));(try go_wp2_with (first | (go_at_call 107;refine (cH _ _ hv).mono ?_;rintro e w1 ⟨rfl,dE⟩;(have jZ:=dE.sz;obtain⟨fA,fJ,fI,fP⟩:=dE.lay (w.heap.size);obtain⟨fX,fY,gi,gj⟩:=dE.lay (q));rw[HW.out]) | (go_at_call 108;refine (dF _ _).mono ?_;rintro e w2 ⟨rfl,rfl⟩;rw[FN])))))
  all_goals
   go_returns
   exact⟨by rw[RR.out];first | done | rfl,bl⟩):p:=h
theorem agu {p:Prop} (h:p:=by
  clear hw
  go_enter Tryz.func45,Tryz.ntmps45
  have eF:=True.intro
  repeat (any_goals ((first | clear eF | go_quiet (fail));(try go_wp2_with (first | (go_at_call 107;refine (cH _ _ hv).mono ?_;rintro e w1 ⟨rfl,dE⟩;(have jZ:=dE.sz;obtain⟨fA,fJ,fI,fP⟩:=dE.lay (w.heap.size);obtain⟨fX,fY,gi,gj⟩:=dE.lay (q));rw[HW.out]) | (go_at_call 108;refine (dF _ _).mono ?_;rintro e w2 ⟨rfl,rfl⟩;rw[FO])))))
  all_goals
   go_returns
   exact⟨by rw[RR.out];first | done | rfl,bl⟩):p:=h
theorem agv {p:Prop} (h:p:=by
  clear hw
  go_enter Tryz.func45,Tryz.ntmps45
  have eF:=True.intro
  repeat (any_goals ((first | clear eF | go_quiet (fail));(try go_wp2_with (first | (go_at_call 107;refine (cH _ _ hv).mono ?_;rintro e w1 ⟨rfl,dE⟩;(have jZ:=dE.sz;obtain⟨fA,fJ,fI,fP⟩:=dE.lay (w.heap.size);obtain⟨fX,fY,gi,gj⟩:=dE.lay (q));rw[HW.out]) | (go_at_call 108;refine (dF _ _).mono ?_;rintro e w2 ⟨rfl,rfl⟩;rw[FP])))))
  all_goals
   go_returns
   exact⟨by rw[RR.out];first | done | rfl,bl⟩):p:=h
theorem agF {p:Prop} (h:p:=by
  go_enter Tryz.func45,Tryz.ntmps45
  have eF:=True.intro
  repeat (any_goals ((first | clear eF | go_quiet (fail));(try go_wp2_with (first | (go_at_call 107;refine (cH _ _ hv).mono ?_;rintro e w1 ⟨rfl,dE⟩;(have jZ:=dE.sz;obtain⟨fA,fJ,fI,fP⟩:=dE.lay (w.heap.size);obtain⟨fX,fY,gi,gj⟩:=dE.lay (q));rw[HW.out]) | (go_at_call 108;refine (dF _ _).mono ?_;rintro e w2 ⟨rfl,rfl⟩;rw[oD])))))
  all_goals
   go_returns
   exact⟨by rw[RR.out];first | done | rfl,bl⟩):p:=h
theorem agH {p:Prop} (h:p:=by
  go_enter Tryz.func45,Tryz.ntmps45
  have eF:=True.intro
  repeat (any_goals ((first | clear eF | go_quiet (fail));(try go_wp2_with (first | (go_at_call 107;refine (cH _ _ hv).mono ?_;rintro e w1 ⟨rfl,dE⟩;(have jZ:=dE.sz;obtain⟨fA,fJ,fI,fP⟩:=dE.lay (w.heap.size);obtain⟨fX,fY,gi,gj⟩:=dE.lay (q));rw[HW.out]) | (go_at_call 108;refine (dF _ _).mono ?_;rintro e w2 ⟨rfl,rfl⟩;rw[oE])))))
  all_goals
   go_returns
   exact⟨by rw[RR.out];first | done | rfl,bl⟩):p:=h
theorem agJ {p:Prop} (h:p:=by
  go_enter Tryz.func45,Tryz.ntmps45
  have eF:=True.intro
  repeat (any_goals ((first | clear eF | go_quiet (fail));(try go_wp2_with (first | (go_at_call 107;refine (cH _ _ hv).mono ?_;rintro e w1 ⟨rfl,dE⟩;(have jZ:=dE.sz;obtain⟨fA,fJ,fI,fP⟩:=dE.lay (w.heap.size);obtain⟨fX,fY,gi,gj⟩:=dE.lay (q));rw[HW.out]) | (go_at_call 108;refine (dF _ _).mono ?_;rintro e w2 ⟨rfl,rfl⟩;rw[mC])))))
  all_goals
   go_returns
   exact⟨by rw[RR.out];first | done | rfl,bl⟩):p:=h
theorem agK {p:Prop} (h:p:=by
  go_enter Tryz.func45,Tryz.ntmps45
  have eF:=True.intro
  repeat (any_goals ((first | clear eF | go_quiet (fail));(try go_wp2_with (first | (go_at_call 107;refine (cH _ _ hv).mono ?_;rintro e w1 ⟨rfl,dE⟩;(have jZ:=dE.sz;obtain⟨fA,fJ,fI,fP⟩:=dE.lay (w.heap.size);obtain⟨fX,fY,gi,gj⟩:=dE.lay (q));rw[HW.out]) | (go_at_call 108;refine (dF _ _).mono ?_;rintro e w2 ⟨rfl,rfl⟩;rw[oF])))))
  all_goals
   go_returns
   exact⟨by rw[RR.out];first | done | rfl,bl⟩):p:=h
theorem agM {p:Prop} (h:p:=by
  go_enter Tryz.func45,Tryz.ntmps45
  have eF:=True.intro
  repeat (any_goals ((first | clear eF | go_quiet (fail));(try go_wp2_with (first | (go_at_call 107;refine (cH _ _ hv).mono ?_;rintro e w1 ⟨rfl,dE⟩;(have jZ:=dE.sz;obtain⟨fA,fJ,fI,fP⟩:=dE.lay (w.heap.size);obtain⟨fX,fY,gi,gj⟩:=dE.lay (q));rw[HW.out]) | (go_at_call 108;refine (dF _ _).mono ?_;rintro e w2 ⟨rfl,rfl⟩;rw[mD])))))
  all_goals
   go_returns
   exact⟨by rw[RR.out];first | done | rfl,bl⟩):p:=h
theorem agN {p:Prop} (h:p:=by
  go_enter Tryz.func45,Tryz.ntmps45
  have eF:=True.intro
  repeat (any_goals ((first | clear eF | go_quiet (fail));(try go_wp2_with (first | (go_at_call 107;refine (cH _ _ hv).mono ?_;rintro e w1 ⟨rfl,dE⟩;(have jZ:=dE.sz;obtain⟨fA,fJ,fI,fP⟩:=dE.lay (w.heap.size);obtain⟨fX,fY,gi,gj⟩:=dE.lay (q));rw[HW.out]) | (go_at_call 108;refine (dF _ _).mono ?_;rintro e w2 ⟨rfl,rfl⟩;rw[lg])))))
  all_goals
   go_returns
   exact⟨by rw[RR.out];first | done | rfl,bl⟩):p:=h
theorem agP {p:Prop} (h:p:=by
  go_enter Tryz.func45,Tryz.ntmps45
  have eF:=True.intro
  repeat (any_goals ((first | clear eF | go_quiet (fail));(try go_wp2_with (first | (go_at_call 107;refine (cH _ _ hv).mono ?_;rintro e w1 ⟨rfl,dE⟩;(have jZ:=dE.sz;obtain⟨fA,fJ,fI,fP⟩:=dE.lay (w.heap.size);obtain⟨fX,fY,gi,gj⟩:=dE.lay (q));rw[HW.out]) | (go_at_call 108;refine (dF _ _).mono ?_;rintro e w2 ⟨rfl,rfl⟩;rw[oG])))))
  all_goals
   go_returns
   exact⟨by rw[RR.out];first | done | rfl,bl⟩):p:=h
theorem agR {p:Prop} (h:p:=by
  go_enter Tryz.func45,Tryz.ntmps45
  have eF:=True.intro
  repeat (any_goals ((first | clear eF | go_quiet (fail));(try go_wp2_with (first | (go_at_call 107;refine (cH _ _ hv).mono ?_;rintro e w1 ⟨rfl,dE⟩;(have jZ:=dE.sz;obtain⟨fA,fJ,fI,fP⟩:=dE.lay (w.heap.size);obtain⟨fX,fY,gi,gj⟩:=dE.lay (q));rw[HW.out]) | (go_at_call 108;refine (dF _ _).mono ?_;rintro e w2 ⟨rfl,rfl⟩;rw[oH])))))
  all_goals
   go_returns
   exact⟨by rw[RR.out];first | done | rfl,bl⟩):p:=h
theorem agx {p:Prop} (h:p:=by
  go_enter Tryz.func45,Tryz.ntmps45
  have eF:=True.intro
  repeat (any_goals ((first | clear eF | go_quiet (fail));(try go_wp2_with (first | (go_at_call 107;refine (cH _ _ hv).mono ?_;rintro e w1 ⟨rfl,dE⟩;(have jZ:=dE.sz;obtain⟨fA,fJ,fI,fP⟩:=dE.lay (w.heap.size);obtain⟨fX,fY,gi,gj⟩:=dE.lay (q));rw[HW.out]) | (go_at_call 108;refine (dF _ _).mono ?_;rintro e w2 ⟨rfl,rfl⟩;rw[qI])))))
  all_goals
   go_returns
   exact⟨by rw[RR.out];first | done | rfl,bl⟩):p:=h
theorem agz {p:Prop} (h:p:=by
  go_enter Tryz.func45,Tryz.ntmps45
  have eF:=True.intro
  repeat (any_goals ((first | clear eF | go_quiet (fail));(try go_wp2_with (first | (go_at_call 107;refine (cH _ _ hv).mono ?_;rintro e w1 ⟨rfl,dE⟩;(have jZ:=dE.sz;obtain⟨fA,fJ,fI,fP⟩:=dE.lay (w.heap.size);obtain⟨fX,fY,gi,gj⟩:=dE.lay (q));rw[HW.out]) | (go_at_call 108;refine (dF _ _).mono ?_;rintro e w2 ⟨rfl,rfl⟩;rw[mM])))))
  all_goals
   go_returns
   exact⟨by rw[RR.out];first | done | rfl,bl⟩):p:=h
theorem agB {p:Prop} (h:p:=by
  go_enter Tryz.func45,Tryz.ntmps45
  have eF:=True.intro
  repeat (any_goals ((first | clear eF | go_quiet (fail));(try go_wp2_with (first | (go_at_call 107;refine (cH _ _ hv).mono ?_;rintro e w1 ⟨rfl,dE⟩;(have jZ:=dE.sz;obtain⟨fA,fJ,fI,fP⟩:=dE.lay (w.heap.size);obtain⟨fX,fY,gi,gj⟩:=dE.lay (q));rw[HW.out]) | (go_at_call 108;refine (dF _ _).mono ?_;rintro e w2 ⟨rfl,rfl⟩;rw[qJ])))))
  all_goals
   go_returns
   exact⟨by rw[RR.out];first | done | rfl,bl⟩):p:=h
theorem agD {p:Prop} (h:p:=by
  go_enter Tryz.func45,Tryz.ntmps45
  have eF:=True.intro
  repeat (any_goals ((first | clear eF | go_quiet (fail));(try go_wp2_with (first | (go_at_call 107;refine (cH _ _ hv).mono ?_;rintro e w1 ⟨rfl,dE⟩;(have jZ:=dE.sz;obtain⟨fA,fJ,fI,fP⟩:=dE.lay (w.heap.size);obtain⟨fX,fY,gi,gj⟩:=dE.lay (q));rw[HW.out]) | (go_at_call 108;refine (dF _ _).mono ?_;rintro e w2 ⟨rfl,rfl⟩;rw[qL])))))
  all_goals
   go_returns
   exact⟨by rw[RR.out];first | done | rfl,bl⟩):p:=h
theorem SI {p:Prop} (h:p:=by
  go_enter Tryz.func93,Tryz.ntmps93
  go_wp2_with (fail)
  all_goals
   go_returns
   exact⟨by (rw[HE.out.1,HE.out.2] <;> rfl),bl⟩):p:=h
theorem SJ {p:Prop} (h:p:=by
  go_enter Tryz.func88,Tryz.ntmps88
  go_wp2_with (fail)
  all_goals
   go_returns
   exact⟨by (rw[HE.out.1,HE.out.2] <;> rfl),bl⟩):p:=h
theorem ahZ {p:Prop} (h:p:=by
  have d40:decide ((40:Int)<=(keys.length:Int))=true:=aH
  have RR:=I (R2.out aF h40)
  go_wp2_with (fail)
  all_goals
   go_returns
   exact⟨by (rw[RR.out] <;> rfl),⟨_,_,by rw[RR.out];exact W2.out.on bl⟩,mf.dH (U.trans tU bl) hN⟩):p:=h
theorem aeR {p:Prop} (h:p:=by
  have ho:=World.ownsRow_made (base:=w.heap.size+1) (e:=5) (size:=1) (w.alloc (.cells #[.int .i64 lo,.int .i64 hi] 32)) #[] 0 aJ aI rfl
  rw[World.size_alloc]at ho
  exact⟨0,rfl,by omega,ho,by simp,by simp,bl,by simp;omega⟩):p:=h
theorem ahS {p:Prop} (h:p:=by
  have dj:decide ((it.length:Int)<=(j:Int))=true:=aH
  have R1:=R1.out aF
  go_wp2_with (fail)
  all_goals
   go_returns
   exact⟨by (rw[R1] <;> rfl),⟨_,_,by rw[R1];exact W1.out.on bl⟩,mf.dH bl hN⟩):p:=h
theorem ahF {p:Prop} (h:p:=by
  have d13:decide (ok<13)=true:=ay GK
  go_wp2_with (fail)
  all_goals
   go_returns
   exact⟨by first | rfl | simp | simp[*],OC.out.de.trans bl⟩):p:=h
theorem ahG {p:Prop} (h:p:=by
  have d16:decide (16<ok)=true:=ay h16
  go_wp2_with (fail)
  all_goals
   go_returns
   exact⟨by first | rfl | simp | simp[*],OC.out.de.trans bl⟩):p:=h
theorem zd {p:Prop} (h:p:=by
  have HI:=I hi
  clear hi hk
  have eF:=True.intro
  repeat (any_goals ((first | clear eF | go_quiet (fail));(try go_wp2_with (go_at_call 27;(with_reducible refine (ee s ⟨cz,cD,cE,cB,cF,cO⟩ S q _ (cv.de bl HS.out) ⟨eN,fi,eO,fT,gD,gE⟩).mono ?_);rintro e yP ⟨rfl,er⟩;(have nH:=er.sz;obtain⟨iU,iV,iW,iX⟩:=er.lay (q);obtain⟨iY,iZ,ja,jb⟩:=er.lay (b1));rw[HI.out]))))
  go_roundw
  case rel=>exact⟨1,rfl,by omega,fun _=>HC,bl⟩
  case measure=>simp[intOf]):p:=h
theorem AQ {p:Prop} (h:p:=by
  have eF:=True.intro
  repeat (any_goals ((first | clear eF | go_quiet (fail));(try go_wp2_with (go_at_call 27;(with_reducible refine (ee s ⟨da,dw,dx,dy,dz,dA⟩ S q _ (cv.de bl HS.out) ⟨kv,kz,kA,iw,kD,kE⟩).mono ?_);rintro e Ug ⟨rfl,jI⟩;(have Di:=jI.sz;obtain⟨rz,rA,rB,rC⟩:=jI.lay (q);obtain⟨rD,rE,rF,rG⟩:=jI.lay (b1));rw[HI.out]))))
  all_goals
   go_returns
   exact⟨gA RR.out.symm,bl⟩):p:=h
theorem AR {p:Prop} (h:p:=by
  have eF:=True.intro
  repeat (any_goals ((first | clear eF | go_quiet (fail));(try go_wp2_with (go_at_call 27;(with_reducible refine (ee s ⟨cz,cD,cE,cB,cF,cO⟩ S q _ (cv.de bl HS.out) ⟨eN,fi,eO,fT,gD,gE⟩).mono ?_);rintro e yP ⟨rfl,er⟩;(have nH:=er.sz;obtain⟨iU,iV,iW,iX⟩:=er.lay (q);obtain⟨iY,iZ,ja,jb⟩:=er.lay (b1));rw[HI.out]))))
  all_goals
   go_returns
   exact⟨gA RR.out.symm,bl⟩):p:=h
theorem Ss {p:Prop} (h:p:=by
  have eF:=True.intro
  repeat (any_goals ((first | clear eF | go_quiet (fail));(try go_wp2_with (first | (go_at_call 103;refine (nC cz _).mono ?_;rintro e wa ⟨rfl,nL⟩;(try rw[Wj.out]);(have hza:=nL.sz;obtain⟨RF,RH,RI,RJ⟩:=nL.lay (w.heap.size);obtain⟨RM,RN,RO,RP⟩:=nL.lay (wr.heap.size);obtain⟨ahk,ahl,ahm,ahn⟩:=nL.lay (b1))) | (go_at_call 102;refine (qN cD 6 S _ _ _ (Row.de bl mx.out)).mono ?_;rintro e wb ⟨rfl,xT⟩;(try rw[Wk.out]);(try rw[dl]);(try simp only[Bool.and_true,Bool.true_and,Bool.and_false,Bool.false_and]);(have hzb:=xT.sz;obtain⟨RQ,RS,RT,RU⟩:=xT.lay (w.heap.size);obtain⟨RV,RW,RX,RY⟩:=xT.lay (wr.heap.size);obtain⟨aho,ahp,ahq,ahr⟩:=xT.lay (b1))) | (go_at_call 104;refine (zP cD S _ _ _ (Row.de bl mx.out)).mono ?_;rintro e wc ⟨rfl,yf⟩;(try rw[Wl.out]);(have hzc:=yf.sz;obtain⟨RZ,Sa,Sb,Sc⟩:=yf.lay (w.heap.size);obtain⟨Sd,Se,Sf,Sg⟩:=yf.lay (wr.heap.size);obtain⟨ahs,aht,ahu,ahv⟩:=yf.lay (b1)))))))
  all_goals
   go_returns
   exact⟨gA (Wo (s:=(O.mk x0 x1 x2 x3 x4 x5 x6 x7 x8 x9 F G Z)) m h1 xU.out).symm,bl⟩):p:=h
theorem arQ {p:Prop} (h:p:=by
  obtain⟨l,f,c0,c1,c2,c3,c4,c5,c6,c7,c8,c9,xJ,xK,xL⟩:=h
  exact⟨by simpa using l,fun o=>by simp[f],by simp[c0,go_sem],by simp[c1,go_sem],by simp[c2,go_sem],by simp[c3,go_sem],by simp[c4,go_sem],by simp[c5,go_sem],by simp[c6,go_sem],by simp[c7,go_sem],by simp[c8,go_sem],by simp[c9,go_sem],by simp[xJ,go_sem],by simp[xK,go_sem],by simp[xL,go_sem]⟩):p:=h
theorem RD {p:Prop} (h:p:=by
  have eF:=True.intro
  repeat (any_goals ((first | clear eF | go_quiet (fail));(try go_wp2_with (first | (go_at_call 94;refine (nA cz _ (HT.out.on bl)).mono ?_;rintro e wa ⟨rfl,nL⟩;(try rw[Wj.out]);(have hza:=nL.sz;obtain⟨RF,RH,RI,RJ⟩:=nL.lay (wr.heap.size);obtain⟨RM,RN,RO,RP⟩:=nL.lay (b1))) | (go_at_call 37;refine (nB cD S _ _ _ (Row.de bl mx.out) (HT.out.on bl)).mono ?_;rintro e wb ⟨rfl,xT⟩;(try rw[Wk.out]);(have hzb:=xT.sz;obtain⟨RQ,RS,RT,RU⟩:=xT.lay (wr.heap.size);obtain⟨RV,RW,RX,RY⟩:=xT.lay (b1))) | (go_at_call 95;refine (yB cD S _ _ _ (Row.de bl mx.out)).mono ?_;rintro e wc ⟨rfl,yf⟩;(try rw[Wl.out]);(have hzc:=yf.sz;obtain⟨RZ,Sa,Sb,Sc⟩:=yf.lay (wr.heap.size);obtain⟨Sd,Se,Sf,Sg⟩:=yf.lay (b1)))))))
  all_goals
   go_returns
   exact⟨gA (show (l.all mZ&&decide (l.length<=8))=false by rw[show l.all mZ=false from List.all_eq_false.2 ⟨_,List.getElem_mem h1,by rw[xU.out];simp⟩];rfl).symm,bl⟩):p:=h
theorem lj {p:Prop} (h:p:=by
  go_wp2_with (fail)
  repeat (any_goals (go_quiet (fail);(try go_wp2_with (fail))))
  all_goals
   go_returns
   exact⟨gA RR.out.symm,bl⟩):p:=h
theorem Xo {p:Prop} (h:p:=by
  refine hK.out undef _ ?_
  have hB:=jJ r3 [.int .i64 k5,.int .i64 n5,.int .i64 i5,.string t5,.int .i64 l5,.int .i64 h5] 0 wa
  have hF:=Fc oO.z3 (.int .i64 k5) (.int .i64 n5) (.int .i64 i5) (.string t5) (.int .i64 l5) (.int .i64 h5)
  have hX2:=hX.block (Nat.le_of_eq hB.size.symm) (hB.block r2 I5)
  have oZ:Y.cA (wa.setCells r3 0 [.int .i64 k5,.int .i64 n5,.int .i64 i5,.string t5,.int .i64 l5,.int .i64 h5]) (fun b=>w.heap.size<=b) t.D [.slice A0 n0 c0,.slice A1 n1 c1,.slice A2 n2 c2,.slice A3 n3 c3,.string x4,.int .i64 x5,.slice A6 n6 c6,.slice A7 n7 c7,.slice A8 n8 c8,.bool x9,.int .i64 F,.int .i64 G,.int .i64 Z]:=(Y.cA.sC (S0:=fun b=>lw<=b) ⟨hB.os,hB.tape,hB.output,by have:=hB.size;omega,fun d hd _=>hB.block d aF⟩ (fun _ hx=>hx) oO.val).wide (fun b hb=>by omega)
  have gC:U w (wa.setCells r3 0 [.int .i64 k5,.int .i64 n5,.int .i64 i5,.string t5,.int .i64 l5,.int .i64 h5]):=⟨hB.os.trans oO.de.os,hB.tape.trans oO.de.tape,hB.output.trans oO.de.output,by have h1:=oO.de.size;have h2:=hB.size;omega,fun d hd=>(hB.block d aF).trans (Below.block oO.de d hd)⟩
  obtain⟨wz,mW⟩:∃x,wa.setCells r3 0 [.int .i64 k5,.int .i64 n5,.int .i64 i5,.string t5,.int .i64 l5,.int .i64 h5]=x:=⟨_,rfl⟩
  rw[mW]at hF hX2 oZ gC
  rw[show wa.setCells r3 0 (#[Value.int .i64 k5,.int .i64 n5,.int .i64 i5,.string t5,.int .i64 l5,.int .i64 h5]:Array Value).toList=wz from mW]
  clear mW hB hX hK lr oO
  obtain⟨e0,e1,e2,e3,e4,e5⟩:=hF
  obtain⟨-,-,d0,d1,d2,d3,d4,d5,d6,d7,d8,d9,d10,d11,d12⟩:=hX2
  have vz:=I oZ
  have HB2:=I gC
  have HVO:=I hv
  clear oZ gC hv
  go_wp2_with (fail)
  exact bodyPost_ret (v:=.tuple #[.agg #[.slice A0 n0 c0,.slice A1 n1 c1,.slice A2 n2 c2,.slice A3 n3 c3,.string x4,.int .i64 x5,.slice A6 n6 c6,.slice A7 n7 c7,.slice A8 n8 c8,.bool x9,.int .i64 F,.int .i64 G,.int .i64 Z],.agg #[.int .i64 k5,.int .i64 n5,.int .i64 i5,.string t5,.int .i64 l5,.int .i64 h5]]) (by simp[results,Tryz.results11,d0,d1,d2,d3,d4,d5,d6,d7,d8,d9,d10,d11,d12,e0,e1,e2,e3,e4,e5,go_sem];try rfl) rfl ⟨t,[.slice A0 n0 c0,.slice A1 n1 c1,.slice A2 n2 c2,.slice A3 n3 c3,.string x4,.int .i64 x5,.slice A6 n6 c6,.slice A7 n7 c7,.slice A8 n8 c8,.bool x9,.int .i64 F,.int .i64 G,.int .i64 Z],⟨k5,n5,i5,t5,l5,h5⟩,rfl,vz.out,aaG,Kw.out,HMD.out,HVO.out,HB2.out⟩):p:=h
theorem Zk {p:Prop} (h:p:=by
  have W1:=I (HW.out.on jg)
  have hq:q<wr.heap.size:=au hq jg.size
  obtain⟨r4,nj⟩:∃x,w.heap.size=x:=⟨_,rfl⟩
  obtain⟨r5,nE⟩:∃x,w.heap.size+1=x:=⟨_,rfl⟩
  rw[nj]at R4
  rw[nE]at R5
  simp only[nE]
  simp only[nj]
  have HR4:=I nj
  have OT:=I nE
  clear jO nj nE
  replace RR:=RR (⟨vk,vn,vi,vt,vl,vh⟩:cC)
  obtain⟨g,o,c2,g3,o3,c3,mo,AV,hg,Je,⟨BI,qw,GM,vD⟩,kH⟩:=W1.out.DY (aw hN jg.size) hm hx hj
  unfold maxLen at qw vD
  have zm:=I kH
  have dm:decide ((m:Int)<(x2.length:Int))=true:=aH
  have dj:decide ((j:Int)<(it.length:Int))=true:=aH
  clear kH HW
  refine ea 13 (fun s f wq=>(U wr wq)/\(s 0=true->(f 0)=.pointer (some ⟨q,0,none⟩))/\(s 1=true->(f 1)=.pointer (some ⟨q,0,none⟩))/\(s 2=true->(f 2)=.pointer (some ⟨q,2,none⟩))/\(s 3=true->(f 3)=.slice (some ⟨g,o,none⟩) x2.length c2)/\(s 4=true->(f 4)=.pointer (some ⟨r4,1,none⟩))/\(s 5=true->(f 5)=.int .i64 (m:Int))/\(s 6=true->(f 6)=.pointer (some ⟨g,o+m*5,none⟩))/\(s 7=true->(f 7)=.pointer (some ⟨g,o+m*5+3,none⟩))/\(s 8=true->(f 8)=.slice (some ⟨g3,o3,none⟩) it.length c3)/\(s 9=true->(f 9)=.pointer (some ⟨r4,2,none⟩))/\(s 10=true->(f 10)=.int .i64 (j:Int))/\(s 11=true->(f 11)=.agg #[.int .i64 vk,.int .i64 vn,.int .i64 vi,.string vt,.int .i64 vl,.int .i64 vh])/\(s 12=true->(f 12)=.pointer (some ⟨g3,o3+j*6,none⟩))) [(0,some 20),(1,some 21),(2,some 22),(3,some 23),(4,some 24),(5,some 25),(6,some 26),(7,some 27),(8,some 28),(9,some 29),(10,some 30),(11,some 31),(12,some 32),(13,none)] rfl aG aG ?hJ rfl ?hstep ?hlast
  case hJ=>exact fun u=>⟨bl,cS,cS,cS,cS,cS,cS,cS,cS,cS,cS,cS,cS,cS⟩
  case hstep =>
   exact rk0
  case hlast =>
   exact ang):p:=h
theorem Zn {p:Prop} (h:p:=by
  have W1:=I (HW.out.on jg)
  have hq:q<wr.heap.size:=au hq jg.size
  obtain⟨r4,nj⟩:∃x,w.heap.size=x:=⟨_,rfl⟩
  obtain⟨r5,nE⟩:∃x,w.heap.size+1=x:=⟨_,rfl⟩
  rw[nj]at R4
  rw[nE]at R5
  simp only[nE]
  simp only[nj]
  have HR4:=I nj
  have OT:=I nE
  clear jO nj nE
  replace RR:=RR (⟨vk,vn,vi,vt,vl,vh⟩:cC)
  obtain⟨g,o,c2,g3,o3,c3,mo,AV,hg,Je,⟨BI,qw,GM,vD⟩,kH⟩:=W1.out.DY (aw hN jg.size) hm hx hj
  unfold maxLen at qw vD
  have zm:=I kH
  have dm:decide ((m:Int)<(x2.length:Int))=true:=aH
  have dj:decide ((j:Int)<(it.length:Int))=true:=aH
  clear kH HW
  refine ea 13 (fun s f wq=>(U wr wq)/\(s 0=true->(f 0)=.pointer (some ⟨q,0,none⟩))/\(s 1=true->(f 1)=.pointer (some ⟨q,0,none⟩))/\(s 2=true->(f 2)=.pointer (some ⟨q,2,none⟩))/\(s 3=true->(f 3)=.slice (some ⟨g,o,none⟩) x2.length c2)/\(s 4=true->(f 4)=.pointer (some ⟨r4,1,none⟩))/\(s 5=true->(f 5)=.int .i64 (m:Int))/\(s 6=true->(f 6)=.pointer (some ⟨g,o+m*5,none⟩))/\(s 7=true->(f 7)=.pointer (some ⟨g,o+m*5+3,none⟩))/\(s 8=true->(f 8)=.slice (some ⟨g3,o3,none⟩) it.length c3)/\(s 9=true->(f 9)=.pointer (some ⟨r4,2,none⟩))/\(s 10=true->(f 10)=.int .i64 (j:Int))/\(s 11=true->(f 11)=.agg #[.int .i64 vk,.int .i64 vn,.int .i64 vi,.string vt,.int .i64 vl,.int .i64 vh])/\(s 12=true->(f 12)=.pointer (some ⟨g3,o3+j*6,none⟩))) [(0,some 21),(1,some 22),(2,some 23),(3,some 24),(4,some 25),(5,some 26),(6,some 27),(7,some 28),(8,some 29),(9,some 30),(10,some 31),(11,some 32),(12,some 33),(13,none)] rfl aG aG ?hJ rfl ?hstep ?hlast
  case hJ=>exact fun u=>⟨bl,cS,cS,cS,cS,cS,cS,cS,cS,cS,cS,cS,cS,cS⟩
  case hstep =>
   exact rk0
  case hlast =>
   exact anh):p:=h
theorem tI {p:Prop} (h:p:=by
  intro u wa hG hf K hK
  clear hf
  clear hG
  simp only[Act.put,aa,ab,ae,af,ag,aj]at hK |-
  go_simp
  exact hK.out _ _ (U.refl _) rfl):p:=h
theorem mh {p:Prop} (h:p:=by
  have RR:=I (ix (s:=(O.mk x0 x1 x2 x3 x4 x5 x6 x7 x8 x9 F G Z)) hw)
  have HW:=I hw
  exact KJ):p:=h
theorem sj {p:Prop} (h:p:=by
  go_wp2_with (fail)
  repeat (any_goals (go_quiet (fail);(try go_wp2_with (fail))))
  all_goals
   go_returns
   rw[HK.out]
   exact⟨some ⟨w.heap.size,0,none⟩,1,rfl,HR.out,bl⟩):p:=h
theorem Xb {p:Prop} (h:p:=by
  have SM:=I (show ∀k,k<w1.heap.size->k≠q->v2.ownBlock≠some k->(wa.setCell ⟨q,2,none⟩ (.slice A9 (ds.length+1) c9)).heap[k]?=w1.heap[k]? from fun k hk Jm iP=>(dY 2 _ (fun e=>Jm e.symm)).trans (same k hk iP))
  have hos:wa.os=w1.os/\wa.tape=w1.tape/\wa.output=w1.output:=⟨h3.os.trans (h2.os.trans jg.os),h3.tape.trans (h2.tape.trans jg.tape),h3.output.trans (h2.output.trans jg.output)⟩
  have hB:Below q wa (wa.setCell ⟨q,2,none⟩ (.slice A9 (ds.length+1) c9)):=Below.setCell (Below.refl q wa) (show q<=(⟨q,2,none⟩:Addr).block from Nat.le_refl q) _
  have HW:=I (show (wa.setCell ⟨q,2,none⟩ (.slice A9 (ds.length+1) c9)).os=w1.os/\(wa.setCell ⟨q,2,none⟩ (.slice A9 (ds.length+1) c9)).tape=w1.tape/\(wa.setCell ⟨q,2,none⟩ (.slice A9 (ds.length+1) c9)).output=w1.output/\w1.heap.size<=(wa.setCell ⟨q,2,none⟩ (.slice A9 (ds.length+1) c9)).heap.size from⟨hB.os.trans hos.1,hB.tape.trans hos.2.1,hB.output.trans hos.2.2,by have:=hB.size;omega⟩)
  obtain⟨lP,l4,gM,gN,gH,gO,gP,gQ,gR,gS,gT,gU,fu,fv,fw⟩:=BX
  go_simp
  refine hK.out undef _ ?_
  have BL:=I (show ∀b,(Value.slice A9 (ds.length+1) c9).ownBlock=some b->v2.ownBlock=some b\/w.heap.size<=b from fun b hb=>(yT b hb).imp id (fun h=>by have h2:=HS.out.1;omega))
  clear hK h2 h3 hO yT Ut hB hos same
  have gy:IntKind.i64.wrap ((ds.length:Int)+1 - 1)=(ds.length:Int):=aZ
  go_wp2_with (fail)
  all_goals
   go_returns
   exact⟨_,by first | rfl | (congr 2;omega),MK.out,⟨HW.out.1.trans HS.out.2.1,HW.out.2.1.trans HS.out.2.2.1,HW.out.2.2.1.trans HS.out.2.2.2.1,by have h1:=HW.out.2.2.2;have h2:=HS.out.1;omega⟩,BL.out,fun k hk Jm iP=>(SM.out k (by have h2:=HS.out.1;omega) Jm iP).trans (HS.out.2.2.2.2 k Jm)⟩):p:=h
theorem K4 {p:Prop} (h:p:=by
  have je:decide ((keys.length:Int)<=40)=true:=ay aF
  have jf:decide (40<(keys.length:Int))=false:=ax aF
  have yx:((its.length:Int)==(keys.length:Int)+1)=false:=aN
  have sL:((its.length:Int)==1+(keys.length:Int))=false:=aN
  have CK:((its.length:Int)==wrap64 (1+(keys.length:Int)))=false:=by rw[ze aF aF];exact ax kI
  have oL:=I ju
  have mQ:=I ib
  clear dn fH ju ib kI
  exact rk9):p:=h
theorem Zx {p:Prop} (h:p:=by
  have Gj:tQ (O.mk x0 x1 x2 x3 x4 x5 x6 x7 x8 x9 F G Z) ⟨rk,rn,ri,rt,rl,rh⟩ ⟨vk,vn,vi,vt,vl,vh⟩=false:=ca
  have rQ:Bd (O.mk x0 x1 x2 x3 x4 x5 x6 x7 x8 x9 F G Z) ⟨rk,rn,ri,rt,rl,rh⟩ ⟨vk,vn,vi,vt,vl,vh⟩=111:=by unfold Bd;rw[if_neg b9]
  have vR:yZ (O.mk x0 x1 x2 x3 x4 x5 x6 x7 x8 x9 F G Z) ⟨rk,rn,ri,rt,rl,rh⟩ ⟨vk,vn,vi,vt,vl,vh⟩=sY:=by unfold yZ;rw[if_neg bG]
  have mj:=I rQ
  have Dw:=I vR
  clear rQ vR Gj
  go_wp2_with (first | (go_at_call 13;refine (iS (O.mk x0 x1 x2 x3 x4 x5 x6 x7 x8 x9 F G Z) ⟨rk,rn,ri,rt,rl,rh⟩ S _ _ (Y.cA.de (U.trans dX bl) HV.out) HR.out).mono ?_;rintro e w2 ⟨rfl,gC⟩;rw[Wy.out];have mS:U w1 w2:=U.trans bl gC;have Zy:U w w2:=U.trans dX mS;obtain⟨Dx,Dy,vS,vT,vU,vV,vW,vX,vY,vZ,we,wh,rK,rL,rM⟩:=HA.out.on mS;obtain⟨Dz,DA,wi,wj,wu,wv,wB,wC⟩:=HB.out.on mS;obtain⟨DB,DC,wD,wE,wF,wG,wH,wK⟩:=HD.out.on mS;obtain⟨ew,DD,wM,wN,wO,wP,wQ,wR,wS,wT,wU,wV,rN,rO,rP⟩:=HC.out.on mS;clear gC))
  all_goals exact bodyPost_ret (v:=.tuple #[.agg #[.slice none 0 0,.slice none 0 0,.slice none 0 0,.slice none 0 0,.string ByteArray.empty,.int .i64 0,.slice none 0 0,.slice none 0 0,.slice none 0 0,.bool false,.int .i64 0,.int .i64 0,.int .i64 0],.int .i64 111]) (by simp[results,Tryz.results8,go_sem, * ];try rfl) rfl (pc mj.out Dw.out bl)):p:=h
theorem K6 {p:Prop} (h:p:=by
  have je:decide ((keys.length:Int)<=40)=false:=ax aF
  have jf:decide (40<(keys.length:Int))=true:=ay aF
  have yx:((its.length:Int)==(keys.length:Int)+1)=true:=aK
  have sL:((its.length:Int)==1+(keys.length:Int))=true:=aK
  have CK:((its.length:Int)==wrap64 (1+(keys.length:Int)))=true:=by rw[ze aF aF];exact ay kI
  have kO:=I eS
  clear dn fH kI eS
  exact rk7):p:=h
theorem zK {p:Prop} (h:p:=by
  have Ca:decide ((its.length:Int)<=24)=true:=ay aF
  have Cb:decide (24<(its.length:Int))=false:=ax aF
  have kO:=I eS
  clear dn cU mE eS
  exact rk7):p:=h
theorem zL {p:Prop} (h:p:=by
  have Ca:decide ((its.length:Int)<=40)=true:=ay aF
  have Cb:decide (40<(its.length:Int))=false:=ax aF
  have kO:=I eS
  clear dn cU mE eS
  exact rk7):p:=h
theorem YO {p:Prop} (h:p:=by
  by_cases mY:its.length=0
  case neg =>
   have RR:=I (show cT (O.mk x0 x1 x2 x3 x4 x5 x6 x7 x8 x9 F G Z) (.mk 4 tag J its keys)=false by rw[jK];(try simp only[O.cy,O.cu,cJ,cL,cP]);simp[dn])
   have dQ:(tag==0)=false:=aN
   have dR:(tag != 0)=true:=aM
   have je:decide ((keys.length:Int)<=40)=true:=ay aF
   have jf:decide (40<(keys.length:Int))=false:=ax aF
   have vL:((its.length:Int)==0)=false:=aN
   have vM:((its.length:Int) != 0)=true:=aM
   have oL:=I ju
   have mQ:=I ib
   clear dn fH ju ib mY
   exact rk9
  case pos =>
  have RR:=I (show cT (O.mk x0 x1 x2 x3 x4 x5 x6 x7 x8 x9 F G Z) (.mk 4 tag J its keys)=false by rw[jK];(try simp only[O.cy,O.cu,cJ,cL,cP]);simp[dn])
  have dQ:(tag==0)=false:=aN
  have dR:(tag != 0)=true:=aM
  have je:decide ((keys.length:Int)<=40)=true:=ay aF
  have jf:decide (40<(keys.length:Int))=false:=ax aF
  have vL:((its.length:Int)==0)=true:=aK
  have vM:((its.length:Int) != 0)=false:=aL
  have oL:=I ju
  have mQ:=I ib
  clear dn fH ju ib mY
  exact rk9):p:=h
theorem Ec {p:Prop} (h:p:=by
  have dQ:(tag==0)=true:=aK
  have dR:(tag != 0)=false:=aL
  have cW:((keys.length:Int)==0)=false:=aN
  have cX:((keys.length:Int) != 0)=true:=aM
  clear dn cU
  exact tz):p:=h
theorem Rq {p:Prop} (h:p:=by
  have HC:=I (show dG s 12 ⟨cz,cD,cE,cB,cF,cO⟩=false by unfold dG;rw[hi];simp[hk])
  have HI:=I hi
  clear hi hk
  have eF:=True.intro
  repeat (any_goals ((first | clear eF | go_quiet (fail));(try go_wp2_with (go_at_call 27;(with_reducible refine (ee s ⟨cz,cD,cE,cB,cF,cO⟩ S q _ (cv.de bl HS.out) ⟨eN,fi,eO,fT,gD,gE⟩).mono ?_);rintro e yP ⟨rfl,er⟩;(have nH:=er.sz;obtain⟨iU,iV,iW,iX⟩:=er.lay (q);obtain⟨iY,iZ,ja,jb⟩:=er.lay (b1));rw[HI.out]))))
  have RR:=I (show ez s 14 [a,b]=false by rw[HP.out,HC.out];first | done | simp)
  all_goals
   go_returns
   exact⟨gA RR.out.symm,bl⟩):p:=h
theorem Rr {p:Prop} (h:p:=by
  have HC:=I (show dG s 12 ⟨da,dw,dx,dy,dz,dA⟩=false by unfold dG;rw[hi];simp[hk])
  have HI:=I hi
  clear hi hk
  have eF:=True.intro
  repeat (any_goals ((first | clear eF | go_quiet (fail));(try go_wp2_with (go_at_call 27;(with_reducible refine (ee s ⟨da,dw,dx,dy,dz,dA⟩ S q _ (cv.de bl HS.out) ⟨kv,kz,kA,iw,kD,kE⟩).mono ?_);rintro e Ug ⟨rfl,jI⟩;(have Di:=jI.sz;obtain⟨rz,rA,rB,rC⟩:=jI.lay (q);obtain⟨rD,rE,rF,rG⟩:=jI.lay (b1));rw[HI.out]))))
  have RR:=I (show ez s 14 [a,b]=false by rw[HP.out,HC.out];first | done | simp)
  all_goals
   go_returns
   exact⟨gA RR.out.symm,bl⟩):p:=h
theorem Rs {p:Prop} (h:p:=by
  have HC:=I (show dG s 12 ⟨cz,cD,cE,cB,cF,cO⟩=false by unfold dG;rw[hi];simp[hk])
  have HI:=I hi
  clear hi hk
  have eF:=True.intro
  repeat (any_goals ((first | clear eF | go_quiet (fail));(try go_wp2_with (go_at_call 27;(with_reducible refine (ee s ⟨cz,cD,cE,cB,cF,cO⟩ S q _ (cv.de bl HS.out) ⟨eN,fi,eO,fT,gD,gE⟩).mono ?_);rintro e yP ⟨rfl,er⟩;(have nH:=er.sz;obtain⟨iU,iV,iW,iX⟩:=er.lay (q);obtain⟨iY,iZ,ja,jb⟩:=er.lay (b1));rw[HI.out]))))
  have RR:=I (show ez s 15 [a,b]=false by rw[HP.out,HC.out];first | done | simp)
  all_goals
   go_returns
   exact⟨gA RR.out.symm,bl⟩):p:=h
theorem Rt {p:Prop} (h:p:=by
  have HC:=I (show dG s 12 ⟨da,dw,dx,dy,dz,dA⟩=false by unfold dG;rw[hi];simp[hk])
  have HI:=I hi
  clear hi hk
  have eF:=True.intro
  repeat (any_goals ((first | clear eF | go_quiet (fail));(try go_wp2_with (go_at_call 27;(with_reducible refine (ee s ⟨da,dw,dx,dy,dz,dA⟩ S q _ (cv.de bl HS.out) ⟨kv,kz,kA,iw,kD,kE⟩).mono ?_);rintro e Ug ⟨rfl,jI⟩;(have Di:=jI.sz;obtain⟨rz,rA,rB,rC⟩:=jI.lay (q);obtain⟨rD,rE,rF,rG⟩:=jI.lay (b1));rw[HI.out]))))
  have RR:=I (show ez s 15 [a,b]=false by rw[HP.out,HC.out];first | done | simp)
  all_goals
   go_returns
   exact⟨gA RR.out.symm,bl⟩):p:=h
theorem Ru {p:Prop} (h:p:=by
  have HC:=I (show dG s 12 ⟨cz,cD,cE,cB,cF,cO⟩=false by unfold dG;rw[hi];simp[hk])
  have HI:=I hi
  clear hi hk
  have eF:=True.intro
  repeat (any_goals ((first | clear eF | go_quiet (fail));(try go_wp2_with (go_at_call 27;(with_reducible refine (ee s ⟨cz,cD,cE,cB,cF,cO⟩ S q _ (cv.de bl HS.out) ⟨eN,fi,eO,fT,gD,gE⟩).mono ?_);rintro e yP ⟨rfl,er⟩;(have nH:=er.sz;obtain⟨iU,iV,iW,iX⟩:=er.lay (q);obtain⟨iY,iZ,ja,jb⟩:=er.lay (b1));rw[HI.out]))))
  have RR:=I (show ez s 16 [a,b]=false by rw[HP.out,HC.out];first | done | simp)
  all_goals
   go_returns
   exact⟨gA RR.out.symm,bl⟩):p:=h
theorem Rv {p:Prop} (h:p:=by
  have HC:=I (show dG s 12 ⟨cz,cD,cE,cB,cF,cO⟩=false by unfold dG;rw[hi];simp[hk])
  have HI:=I hi
  clear hi hk
  have eF:=True.intro
  repeat (any_goals ((first | clear eF | go_quiet (fail));(try go_wp2_with (go_at_call 27;(with_reducible refine (ee s ⟨cz,cD,cE,cB,cF,cO⟩ S q _ (cv.de bl HS.out) ⟨eN,fi,eO,fT,gD,gE⟩).mono ?_);rintro e yP ⟨rfl,er⟩;(have nH:=er.sz;obtain⟨iU,iV,iW,iX⟩:=er.lay (q);obtain⟨iY,iZ,ja,jb⟩:=er.lay (b1));rw[HI.out]))))
  have RR:=I (show ez s 17 [a,b]=false by rw[HP.out,HC.out];first | done | simp)
  all_goals
   go_returns
   exact⟨gA RR.out.symm,bl⟩):p:=h
theorem YV {p:Prop} (h:p:=by
  by_cases hs:J=0
  case neg =>
   have e_s:(J==0)=false:=aH
   have n_s:(J != 0)=true:=aH
   exact sM
  case pos =>
   have e_s:(J==0)=true:=aH
   have n_s:(J != 0)=false:=aH
   by_cases dn:tag=0
   case neg =>
    have dQ:(tag==0)=false:=aN
    have dR:(tag != 0)=true:=aM
    by_cases uw:keys.length=0
    case neg =>
     have cW:((keys.length:Int)==0)=false:=aN
     have cX:((keys.length:Int) != 0)=true:=aM
     clear dn uw hs
     exact sM
    case pos =>
     have cW:((keys.length:Int)==0)=true:=aK
     have cX:((keys.length:Int) != 0)=false:=aL
     clear dn uw hs
     exact sM
   case pos =>
    have dQ:(tag==0)=true:=aK
    have dR:(tag != 0)=false:=aL
    by_cases uw:keys.length=0
    case neg =>
     have cW:((keys.length:Int)==0)=false:=aN
     have cX:((keys.length:Int) != 0)=true:=aM
     clear dn uw hs
     exact sM
    case pos =>
     have cW:((keys.length:Int)==0)=true:=aK
     have cX:((keys.length:Int) != 0)=false:=aL
     clear dn uw hs
     exact sM):p:=h
theorem YE {p:Prop} (h:p:=by
  by_cases hs:J=0
  case neg =>
   have e_s:(J==0)=false:=aH
   have n_s:(J != 0)=true:=aH
   exact tz
  case pos =>
   have e_s:(J==0)=true:=aH
   have n_s:(J != 0)=false:=aH
   by_cases dn:tag=0
   case neg =>
    have dQ:(tag==0)=false:=aN
    have dR:(tag != 0)=true:=aM
    by_cases uw:keys.length=0
    case neg =>
     have cW:((keys.length:Int)==0)=false:=aN
     have cX:((keys.length:Int) != 0)=true:=aM
     clear dn uw hs
     exact tz
    case pos =>
     have cW:((keys.length:Int)==0)=true:=aK
     have cX:((keys.length:Int) != 0)=false:=aL
     clear dn uw hs
     exact tz
   case pos =>
    have dQ:(tag==0)=true:=aK
    have dR:(tag != 0)=false:=aL
    by_cases uw:keys.length=0
    case neg =>
     have cW:((keys.length:Int)==0)=false:=aN
     have cX:((keys.length:Int) != 0)=true:=aM
     clear dn uw hs
     exact tz
    case pos =>
     have cW:((keys.length:Int)==0)=true:=aK
     have cX:((keys.length:Int) != 0)=false:=aL
     clear dn uw hs
     exact tz):p:=h
theorem Rp {p:Prop} (h:p:=by
  have HC:=I (show dG s 12 ⟨cz,cD,cE,cB,cF,cO⟩=false by unfold dG;rw[hi];simp[hk])
  have HI:=I hi
  clear hi hk
  have eF:=True.intro
  repeat (any_goals ((first | clear eF | go_quiet (fail));(try go_wp2_with (go_at_call 27;(with_reducible refine (ee s ⟨cz,cD,cE,cB,cF,cO⟩ S q _ (cv.de bl HS.out) ⟨eN,fi,eO,fT,gD,gE⟩).mono ?_);rintro e yP ⟨rfl,er⟩;(have nH:=er.sz;obtain⟨iU,iV,iW,iX⟩:=er.lay (q);obtain⟨iY,iZ,ja,jb⟩:=er.lay (b1));rw[HI.out]))))
  have RR:=I (show ez s 13 [a]=false by rw[HP.out,HC.out];first | done | simp)
  all_goals
   go_returns
   exact⟨gA RR.out.symm,bl⟩):p:=h
theorem Ro {p:Prop} (h:p:=by
  have HC:=I (show dG s 3 ⟨cz,cD,cE,cB,cF,cO⟩=false by unfold dG;rw[hi];simp[hk])
  have HI:=I hi
  clear hi hk
  have eF:=True.intro
  repeat (any_goals ((first | clear eF | go_quiet (fail));(try go_wp2_with (go_at_call 27;(with_reducible refine (ee s ⟨cz,cD,cE,cB,cF,cO⟩ S q _ (cv.de bl HS.out) ⟨eN,fi,eO,fT,gD,gE⟩).mono ?_);rintro e yP ⟨rfl,er⟩;(have nH:=er.sz;obtain⟨iU,iV,iW,iX⟩:=er.lay (q);obtain⟨iY,iZ,ja,jb⟩:=er.lay (b1));rw[HI.out]))))
  have RR:=I (show ez s 10 [a]=false by rw[HP.out,HC.out];first | done | simp)
  all_goals
   go_returns
   exact⟨gA RR.out.symm,bl⟩):p:=h
theorem Rf {p:Prop} (h:p:=by
  have HC:=I (show dG s 2 ⟨cz,cD,cE,cB,cF,cO⟩=false by unfold dG;rw[hi];simp[hk])
  have HI:=I hi
  clear hi hk
  have eF:=True.intro
  repeat (any_goals ((first | clear eF | go_quiet (fail));(try go_wp2_with (go_at_call 27;(with_reducible refine (ee s ⟨cz,cD,cE,cB,cF,cO⟩ S q _ (cv.de bl HS.out) ⟨eN,fi,eO,fT,gD,gE⟩).mono ?_);rintro e yP ⟨rfl,er⟩;(have nH:=er.sz;obtain⟨iU,iV,iW,iX⟩:=er.lay (q);obtain⟨iY,iZ,ja,jb⟩:=er.lay (b1));rw[HI.out]))))
  have RR:=I (show ez s 1 [a]=false by rw[HP.out,HC.out];first | done | simp)
  all_goals
   go_returns
   exact⟨gA RR.out.symm,bl⟩):p:=h
theorem Rg {p:Prop} (h:p:=by
  have HC:=I (show dG s 1 ⟨cz,cD,cE,cB,cF,cO⟩=false by unfold dG;rw[hi];simp[hk])
  have HI:=I hi
  clear hi hk
  have eF:=True.intro
  repeat (any_goals ((first | clear eF | go_quiet (fail));(try go_wp2_with (go_at_call 27;(with_reducible refine (ee s ⟨cz,cD,cE,cB,cF,cO⟩ S q _ (cv.de bl HS.out) ⟨eN,fi,eO,fT,gD,gE⟩).mono ?_);rintro e yP ⟨rfl,er⟩;(have nH:=er.sz;obtain⟨iU,iV,iW,iX⟩:=er.lay (q);obtain⟨iY,iZ,ja,jb⟩:=er.lay (b1));rw[HI.out]))))
  have RR:=I (show ez s 2 [a]=false by rw[HP.out,HC.out];first | done | simp)
  all_goals
   go_returns
   exact⟨gA RR.out.symm,bl⟩):p:=h
theorem Rh {p:Prop} (h:p:=by
  have HC:=I (show dG s 1 ⟨cz,cD,cE,cB,cF,cO⟩=false by unfold dG;rw[hi];simp[hk])
  have HI:=I hi
  clear hi hk
  have eF:=True.intro
  repeat (any_goals ((first | clear eF | go_quiet (fail));(try go_wp2_with (go_at_call 27;(with_reducible refine (ee s ⟨cz,cD,cE,cB,cF,cO⟩ S q _ (cv.de bl HS.out) ⟨eN,fi,eO,fT,gD,gE⟩).mono ?_);rintro e yP ⟨rfl,er⟩;(have nH:=er.sz;obtain⟨iU,iV,iW,iX⟩:=er.lay (q);obtain⟨iY,iZ,ja,jb⟩:=er.lay (b1));rw[HI.out]))))
  have RR:=I (show ez s 3 [a]=false by rw[HP.out,HC.out];first | done | simp)
  all_goals
   go_returns
   exact⟨gA RR.out.symm,bl⟩):p:=h
theorem Ri {p:Prop} (h:p:=by
  have HC:=I (show dG s 1 ⟨cz,cD,cE,cB,cF,cO⟩=false by unfold dG;rw[hi];simp[hk])
  have HI:=I hi
  clear hi hk
  have eF:=True.intro
  repeat (any_goals ((first | clear eF | go_quiet (fail));(try go_wp2_with (go_at_call 27;(with_reducible refine (ee s ⟨cz,cD,cE,cB,cF,cO⟩ S q _ (cv.de bl HS.out) ⟨eN,fi,eO,fT,gD,gE⟩).mono ?_);rintro e yP ⟨rfl,er⟩;(have nH:=er.sz;obtain⟨iU,iV,iW,iX⟩:=er.lay (q);obtain⟨iY,iZ,ja,jb⟩:=er.lay (b1));rw[HI.out]))))
  have RR:=I (show ez s 4 [a]=false by rw[HP.out,HC.out];first | done | simp)
  all_goals
   go_returns
   exact⟨gA RR.out.symm,bl⟩):p:=h
theorem Rj {p:Prop} (h:p:=by
  have HC:=I (show dG s 1 ⟨cz,cD,cE,cB,cF,cO⟩=false by unfold dG;rw[hi];simp[hk])
  have HI:=I hi
  clear hi hk
  have eF:=True.intro
  repeat (any_goals ((first | clear eF | go_quiet (fail));(try go_wp2_with (go_at_call 27;(with_reducible refine (ee s ⟨cz,cD,cE,cB,cF,cO⟩ S q _ (cv.de bl HS.out) ⟨eN,fi,eO,fT,gD,gE⟩).mono ?_);rintro e yP ⟨rfl,er⟩;(have nH:=er.sz;obtain⟨iU,iV,iW,iX⟩:=er.lay (q);obtain⟨iY,iZ,ja,jb⟩:=er.lay (b1));rw[HI.out]))))
  have RR:=I (show ez s 5 [a]=false by rw[HP.out,HC.out];first | done | simp)
  all_goals
   go_returns
   exact⟨gA RR.out.symm,bl⟩):p:=h
theorem Rk {p:Prop} (h:p:=by
  have HC:=I (show dG s 1 ⟨cz,cD,cE,cB,cF,cO⟩=false by unfold dG;rw[hi];simp[hk])
  have HI:=I hi
  clear hi hk
  have eF:=True.intro
  repeat (any_goals ((first | clear eF | go_quiet (fail));(try go_wp2_with (go_at_call 27;(with_reducible refine (ee s ⟨cz,cD,cE,cB,cF,cO⟩ S q _ (cv.de bl HS.out) ⟨eN,fi,eO,fT,gD,gE⟩).mono ?_);rintro e yP ⟨rfl,er⟩;(have nH:=er.sz;obtain⟨iU,iV,iW,iX⟩:=er.lay (q);obtain⟨iY,iZ,ja,jb⟩:=er.lay (b1));rw[HI.out]))))
  have RR:=I (show ez s 6 [a]=false by rw[HP.out,HC.out];first | done | simp)
  all_goals
   go_returns
   exact⟨gA RR.out.symm,bl⟩):p:=h
theorem Rl {p:Prop} (h:p:=by
  have HC:=I (show dG s 3 ⟨cz,cD,cE,cB,cF,cO⟩=false by unfold dG;rw[hi];simp[hk])
  have HI:=I hi
  clear hi hk
  have eF:=True.intro
  repeat (any_goals ((first | clear eF | go_quiet (fail));(try go_wp2_with (go_at_call 27;(with_reducible refine (ee s ⟨cz,cD,cE,cB,cF,cO⟩ S q _ (cv.de bl HS.out) ⟨eN,fi,eO,fT,gD,gE⟩).mono ?_);rintro e yP ⟨rfl,er⟩;(have nH:=er.sz;obtain⟨iU,iV,iW,iX⟩:=er.lay (q);obtain⟨iY,iZ,ja,jb⟩:=er.lay (b1));rw[HI.out]))))
  have RR:=I (show ez s 7 [a]=false by rw[HP.out,HC.out];first | done | simp)
  all_goals
   go_returns
   exact⟨gA RR.out.symm,bl⟩):p:=h
theorem Rm {p:Prop} (h:p:=by
  have HC:=I (show dG s 3 ⟨cz,cD,cE,cB,cF,cO⟩=false by unfold dG;rw[hi];simp[hk])
  have HI:=I hi
  clear hi hk
  have eF:=True.intro
  repeat (any_goals ((first | clear eF | go_quiet (fail));(try go_wp2_with (go_at_call 27;(with_reducible refine (ee s ⟨cz,cD,cE,cB,cF,cO⟩ S q _ (cv.de bl HS.out) ⟨eN,fi,eO,fT,gD,gE⟩).mono ?_);rintro e yP ⟨rfl,er⟩;(have nH:=er.sz;obtain⟨iU,iV,iW,iX⟩:=er.lay (q);obtain⟨iY,iZ,ja,jb⟩:=er.lay (b1));rw[HI.out]))))
  have RR:=I (show ez s 8 [a]=false by rw[HP.out,HC.out];first | done | simp)
  all_goals
   go_returns
   exact⟨gA RR.out.symm,bl⟩):p:=h
theorem Rn {p:Prop} (h:p:=by
  have HC:=I (show dG s 3 ⟨cz,cD,cE,cB,cF,cO⟩=false by unfold dG;rw[hi];simp[hk])
  have HI:=I hi
  clear hi hk
  have eF:=True.intro
  repeat (any_goals ((first | clear eF | go_quiet (fail));(try go_wp2_with (go_at_call 27;(with_reducible refine (ee s ⟨cz,cD,cE,cB,cF,cO⟩ S q _ (cv.de bl HS.out) ⟨eN,fi,eO,fT,gD,gE⟩).mono ?_);rintro e yP ⟨rfl,er⟩;(have nH:=er.sz;obtain⟨iU,iV,iW,iX⟩:=er.lay (q);obtain⟨iY,iZ,ja,jb⟩:=er.lay (b1));rw[HI.out]))))
  have RR:=I (show ez s 9 [a]=false by rw[HP.out,HC.out];first | done | simp)
  all_goals
   go_returns
   exact⟨gA RR.out.symm,bl⟩):p:=h
theorem sk {p:Prop} (h:p:=by
  have hv1:(a:R).v=⟨cz,cD,cE,cB,cF,cO⟩:=by rw[show a=_ from gF.out];rfl
  simp[sc,hv1]):p:=h
theorem YP {p:Prop} (h:p:=by
  have je:decide ((keys.length:Int)<=40)=true:=ay aF
  have jf:decide (40<(keys.length:Int))=false:=ax aF
  have vL:((its.length:Int)==0)=false:=aN
  have vM:((its.length:Int) != 0)=true:=aM
  have oL:=I ju
  have mQ:=I ib
  clear dn fH ju ib mY
  exact rk9):p:=h
theorem YQ {p:Prop} (h:p:=by
  have je:decide ((keys.length:Int)<=40)=true:=ay aF
  have jf:decide (40<(keys.length:Int))=false:=ax aF
  have vL:((its.length:Int)==0)=true:=aK
  have vM:((its.length:Int) != 0)=false:=aL
  have oL:=I ju
  have mQ:=I ib
  clear dn fH ju ib mY
  exact rk9):p:=h
theorem Xs {p:Prop} (h:p:=by
  intro v' w2 GQ zD _
  have tU:U w w2:=Below.grown (U.alloc (dX.trans dE) _) zD aH (fun q hq=>by have:=(sW.lt q hq).1;omega)
  have arR:w1.heap.size<w2.heap.size:=by have:=zD.size;simp at this;omega
  have iP:some w.heap.size≠u3.ownBlock:=fun hq=>by have:=(sW.lt _ hq.symm).1;omega
  have hd0:w2.cell? ⟨w.heap.size,0,none⟩=some (.int .i64 lo):=World.grownBy.cell zD (((U.alloc (U.refl w1) _).box w.heap.size fI 0).trans ((fA 0).trans rQ)) iP
  have hd1:w2.cell? ⟨w.heap.size,1,none⟩=some (.int .i64 hi):=World.grownBy.cell zD (((U.alloc (U.refl w1) _).box w.heap.size fI 1).trans ((fA 1).trans vx)) iP
  have P7:w2.ownsRow (w.heap.size+1) 5 1 v' (CT lo hi (k+1)).length ((CT lo hi (k+1)).map fun b:Nat=>Value.int .u8 (b:Int)):=by
   rw[U6 HB.out,List.length_append,List.map_append];exact GQ
  clear zD GQ sW lu iP
  go_wp2_with (fail)
  exact⟨⟨k+1,rfl,by omega,P7,hd0,hd1,tU,by omega⟩,by simp only[intOf];omega⟩):p:=h
theorem K7 {p:Prop} (h:p:=by
  have RR:=I (show cT (O.mk x0 x1 x2 x3 x4 x5 x6 x7 x8 x9 F G Z) (.mk 3 tag J its keys)=false by rw[im];(try simp only[O.cy,O.cu,cJ,cL,cP]);simp[dn])
  have dQ:(tag==0)=false:=aN
  have dR:(tag != 0)=true:=aM
  exact rk5):p:=h
theorem zH {p:Prop} (h:p:=by
  have dQ:(tag==0)=false:=aN
  have dR:(tag != 0)=true:=aM
  clear dn
  exact tz):p:=h
theorem Re {p:Prop} (h:p:=by
  have eF:=True.intro
  repeat (any_goals ((first | clear eF | go_quiet (fail));(try go_wp2_with (go_at_call 45;refine (gq s ⟨da,dw,dx,dy,dz,dA⟩ S q _ (cv.de bl HS.out) ⟨kv,kz,kA,iw,kD,kE⟩).mono ?_;rintro e w4 ⟨rfl,sU⟩;rw[HN.out];(have hz4:=sU.sz;obtain⟨Yq,Yr,Ys,Yt⟩:=sU.lay (wr.heap.size);obtain⟨Yu,Yv,Yw,Yx⟩:=sU.lay (b3))))))
  all_goals
   go_returns
   exact⟨by rw[HA.out];first | done | rfl,bl⟩):p:=h
theorem K3 {p:Prop} (h:p:=by
  have RR:=I (show cT (O.mk x0 x1 x2 x3 x4 x5 x6 x7 x8 x9 F G Z) (.mk 3 tag J its keys)=false by rw[im];show (decide (1<=J/\J<=Z)&&_)=false;rw[ax (show ¬(1<=J/\J<=Z) by omega)];rfl)
  have zI:decide (Z<J)=true:=aH
  exact sM):p:=h
theorem K2 {p:Prop} (h:p:=by
  have RR:=I (show cT (O.mk x0 x1 x2 x3 x4 x5 x6 x7 x8 x9 F G Z) (.mk 3 tag J its keys)=false by rw[im];show (decide (1<=J/\J<=Z)&&_)=false;rw[ax (show ¬(1<=J/\J<=Z) by omega)];rfl)
  have qy:decide (J<1)=true:=aH
  exact sM):p:=h
theorem zM {p:Prop} (h:p:=by
  have kG:=I fR
  have oJ:=I iT
  have Lr:=I tc
  clear cU fR iT tc FW
  exact rk1):p:=h
theorem aoQ {p:Prop} (h:p:=by
  obtain⟨l,f,c0,c1,c2,c3,c4⟩:=h
  exact⟨by simpa using l,fun o=>by simp[f],by simp[c0,go_sem],by simp[c1,go_sem],by simp[c2,go_sem],by simp[c3,go_sem],by simp[c4,go_sem]⟩):p:=h
theorem YA {p:Prop} (h:p:=by
  have fk:(da != 12)=false:=aQ
  have HC:=I (show dG s 12 ⟨da,dw,dx,dy,dz,dA⟩=true by unfold dG;rw[hi];simp[hk])
  have HI:=I hi
  clear hi hk
  have eF:=True.intro
  repeat (any_goals ((first | clear eF | go_quiet (fail));(try go_wp2_with (go_at_call 27;(with_reducible refine (ee s ⟨da,dw,dx,dy,dz,dA⟩ S q _ (cv.de bl HS.out) ⟨kv,kz,kA,iw,kD,kE⟩).mono ?_);rintro e Ug ⟨rfl,jI⟩;(have Di:=jI.sz;obtain⟨rz,rA,rB,rC⟩:=jI.lay (q);obtain⟨rD,rE,rF,rG⟩:=jI.lay (b1));rw[HI.out]))))
  go_roundw
  case rel=>exact⟨2,rfl,by omega,⟨fun _=>(hm.out.1) aF,fun _=>HC⟩,bl⟩
  case measure=>simp[intOf]):p:=h
theorem Yz {p:Prop} (h:p:=by
  have fk:(cz != 12)=false:=aQ
  have HC:=I (show dG s 12 ⟨cz,cD,cE,cB,cF,cO⟩=true by unfold dG;rw[hi];simp[hk])
  have HI:=I hi
  clear hi hk
  have eF:=True.intro
  repeat (any_goals ((first | clear eF | go_quiet (fail));(try go_wp2_with (go_at_call 27;(with_reducible refine (ee s ⟨cz,cD,cE,cB,cF,cO⟩ S q _ (cv.de bl HS.out) ⟨eN,fi,eO,fT,gD,gE⟩).mono ?_);rintro e yP ⟨rfl,er⟩;(have nH:=er.sz;obtain⟨iU,iV,iW,iX⟩:=er.lay (q);obtain⟨iY,iZ,ja,jb⟩:=er.lay (b1));rw[HI.out]))))
  go_roundw
  case rel=>exact⟨1,rfl,by omega,⟨fun _=>HC,fun h=>absurd h aF⟩,bl⟩
  case measure=>simp[intOf]):p:=h
theorem Zm {p:Prop} (h:p:=by
  refine hK.out undef _ ?_
  obtain⟨⟨L9,sy⟩,su⟩:=kH (⟨vk,vn,vi,vt,vl,vh⟩:cC) HV.out
  clear hK kH
  obtain⟨wz,mW⟩:∃x,wa.setCells g3 (o3+j*6) (nT (⟨vk,vn,vi,vt,vl,vh⟩:cC))=x:=⟨_,rfl⟩
  rw[mW]at sy su
  rw[show wa.setCells g3 (o3+j*6) (#[Value.int .i64 vk,.int .i64 vn,.int .i64 vi,.string vt,.int .i64 vl,.int .i64 vh]:Array Value).toList=wz from mW]
  have OG:=I sy
  have It:=I su
  clear mW sy su yK ss ph cQ
  go_wp2_with (fail)
  all_goals
   go_returns
   exact⟨by (rw[RR.out] <;> rfl),⟨_,_,by rw[RR.out];exact OG.out.on bl⟩,(mf.dH Kf hN).trans (It.out.trans (mf.dH bl (aw (aw hN Kf.size) It.out.size)))⟩):p:=h
theorem XN {p:Prop} (h:p:=by
  refine wpAnyH_done aG ?_ _
  clear iR
  have ng:=I (show dK w8 109 3 v8 (L++L6) ((xs.take (i+1)).map cw.D) by rw[Jj cw.D h,gF.out];exact hO8)
  have hz8:=KE.size
  have Ml:=I (show ∀b,iG v8 (L++L6) b->w.heap.size<=b from fun b hb=>hb.elim (fun q=>(I8 b q).elim (fun q=>HB.out b (Or.inl q)) (fun q=>by have:=(U.trans KE jx).size;omega)) (fun q=>(List.mem_append.1 q).elim (fun q=>HB.out b (Or.inr q)) (fun q=>by have:=HK6.out b q;omega)))
  clear hO8 hg8 I8 e8
  go_wp2_with (fail)
  all_goals go_roundw
  case rel=>exact⟨i+1,_,_,rfl,by go_num,by omega,I (ng.out.de bl),I Ml.out,I (U.trans zA bl)⟩
  case measure=>simp[intOf];omega):p:=h
theorem Zl {p:Prop} (h:p:=by
  refine hK.out undef _ ?_
  obtain⟨⟨L9,sy⟩,su⟩:=kH (⟨vk,vn,vi,vt,vl,vh⟩:cC) HV.out
  clear hK kH
  obtain⟨wz,mW⟩:∃x,wa.setCells g3 (o3+j*6) (nT (⟨vk,vn,vi,vt,vl,vh⟩:cC))=x:=⟨_,rfl⟩
  rw[mW]at sy su
  rw[show wa.setCells g3 (o3+j*6) (#[Value.int .i64 vk,.int .i64 vn,.int .i64 vi,.string vt,.int .i64 vl,.int .i64 vh]:Array Value).toList=wz from mW]
  have OG:=I sy
  have It:=I su
  clear mW sy su yK ss ph cQ
  go_wp2_with (fail)
  all_goals
   go_returns
   exact⟨by (rw[RR.out] <;> rfl),⟨_,_,by rw[RR.out];exact OG.out.on bl⟩,(mf.dH jg hN).trans (It.out.trans (mf.dH bl (aw (aw hN jg.size) It.out.size)))⟩):p:=h
theorem Lp {p:Prop} (h:p:=by
  go_returns
  exact⟨by (rw[RR.out] <;> rfl),⟨_,_,by rw[RR.out];exact W2.out.on bl⟩,mf.trans (mf.dH jg hN) (mf.trans (mf.dH k1 (aw hN jg.size)) (mf.dH bl (aw (aw hN jg.size) k1.size)))⟩):p:=h
theorem Zu {p:Prop} (h:p:=by
  refine hK.out undef _ ?_
  obtain⟨⟨L9,sy⟩,su⟩:=kH (⟨vk,vn,vi,vt,vl,vh⟩:cC) HV.out
  clear hK kH
  obtain⟨wz3,mW⟩:∃x,wa.setCells g3 (WD+d*6) (nT (⟨vk,vn,vi,vt,vl,vh⟩:cC))=x:=⟨_,rfl⟩
  rw[mW]at sy su
  rw[show wa.setCells g3 (WD+d*6) (#[Value.int .i64 vk,.int .i64 vn,.int .i64 vi,.string vt,.int .i64 vl,.int .i64 vh]:Array Value).toList=wz3 from mW]
  have OG:=I sy
  have It:=I su
  clear mW sy su yK ss ph cQ
  go_wp2_with (fail)
  all_goals
   go_returns
   exact⟨by (rw[RR.out] <;> rfl),⟨_,_,by rw[RR.out];exact OG.out.on bl⟩,(mf.dH tU hN).trans (It.out.trans (mf.dH bl (aw T0 It.out.size)))⟩):p:=h
theorem KO {p:Prop} (h:p:=by
  have hv1:(a:R).v=⟨cz,cD,cE,cB,cF,cO⟩:=by rw[show a=_ from gF.out];rfl
  have oZ:(b:R).v=⟨da,dw,dx,dy,dz,dA⟩:=by rw[show b=_ from od.out];rfl
  simp[sc,hv1,oZ]):p:=h
theorem Ye {p:Prop} (h:p:=by
  refine Yd fun w3 h23 y0 y1 y2 y3 y4 y5 ly=>?_
  have Z3:=Z6.on Z2 h23
  have YZ:=Z3
  obtain⟨cc0,cc1,cc2,cc3,cc4,cc5,cf,cl⟩:=YZ
  have hbf:U w w3:=bl
  have nyr:¬w.heap.size+1+1=w2.heap.size:=aF
  clear h23
  go_wp2_with (fail)
  repeat (any_goals (go_quiet (fail);(try go_wp2_with (fail))))
  all_goals
   refine po (Z6.on Z3 bl) fun wz d0 d1 d2 d3 d4 d5 sS=>?_
   refine bodyPost_ret (v:=.tuple #[.agg #[.int .i64 0,.int .i64 0,.int .i64 0,.string ByteArray.empty,.int .i64 0,.int .i64 0],.int .i64 111]) (by simp[results,Tryz.results9,go_sem,d0,d1,d2,d3,d4,d5] <;> rfl) rfl ⟨?_,sS _ bl aF⟩
   rw[RR.out];first | done | rfl):p:=h
theorem KV {p:Prop} (h:p:=by
  have al5:(j9==1)=false:=aN
  have al6:(j9 != 1)=true:=aM
  have kG:=I fR
  have oJ:=I iT
  clear cU fR iT zg
  exact adf):p:=h
theorem Zv {p:Prop} (h:p:=by
  rw[Pc]at sy su vu zo OD
  rw[Gc,Pc]at hK |-
  have Tj:=Ky (o1+m2*5+3)
  go_simp
  refine hK.out undef _ ?_
  clear hK
  obtain⟨wz3,aiC⟩:∃x,wa.setCell ⟨b1,o1+m2*5+3,none⟩ (.slice A9 (its.length+1) c9)=x:=⟨_,rfl⟩
  rw[aiC]at sy su vu |-
  clear aiC I0 Ky Tj Gc Pc zo OD
  rw[List.set_set]at sy
  have ank:=I sy
  have anl:=I su
  clear sy su
  go_wp2_with (fail)
  all_goals
   go_returns
   exact⟨by (rw[RR.out] <;> rfl),⟨_,_,by rw[RR.out];exact ank.out.on bl⟩,It.out.trans (anl.out.trans (mf.dH bl (aw hNz vu)))⟩):p:=h
theorem KR {p:Prop} (h:p:=by
  have Ca:decide ((its.length:Int)<=24)=false:=ax aF
  have Cb:decide (24<(its.length:Int))=true:=ay aF
  clear dn cU mE
  exact sM):p:=h
theorem KS {p:Prop} (h:p:=by
  have Ca:decide ((its.length:Int)<=40)=false:=ax aF
  have Cb:decide (40<(its.length:Int))=true:=ay aF
  clear dn cU mE
  exact sM):p:=h
theorem Y9 {p:Prop} (h:p:=by
  have je:decide ((keys.length:Int)<=40)=true:=ay aF
  have jf:decide (40<(keys.length:Int))=false:=ax aF
  have yx:((its.length:Int)==(keys.length:Int)+1)=false:=aN
  have sL:((its.length:Int)==1+(keys.length:Int))=false:=aN
  have CK:((its.length:Int)==wrap64 (1+(keys.length:Int)))=false:=by rw[ze aF aF];exact ax kI
  have oL:=I ju
  clear dn fH ju kI
  exact adh):p:=h
theorem KX {p:Prop} (h:p:=by
  have cW:((keys.length:Int)==0)=false:=aN
  have cX:((keys.length:Int) != 0)=true:=aM
  clear kJ dn cU
  exact sM):p:=h
theorem KY {p:Prop} (h:p:=by
  have cW:((keys.length:Int)==0)=true:=aK
  have cX:((keys.length:Int) != 0)=false:=aL
  clear kJ dn cU
  exact sM):p:=h
theorem KQ {p:Prop} (h:p:=by
  have hw:dD ⟨2,u1,u2,u3,u4,u5⟩=true:=(by cases hw:dD ⟨2,u1,u2,u3,u4,u5⟩ <;> first | rfl | (rw[ix hw]at fR;cases fR))
  unfold dD at hw
  simp at hw
  omega):p:=h
theorem Y6 {p:Prop} (h:p:=by
  have RR:=I (show cT (O.mk x0 x1 x2 x3 x4 x5 x6 x7 x8 x9 F G Z) (.mk 8 tag J [.mk 5 cD cE cB cF cO,.mk da dw dx dy dz dA] keys)=false by rw[jE];(try simp only[O.cy,O.cu,cJ,cL,cP]);simp[cU])
  have dQ:(tag==0)=true:=aK
  have dR:(tag != 0)=false:=aL
  have cW:((keys.length:Int)==0)=false:=aN
  have cX:((keys.length:Int) != 0)=true:=aM
  exact WK):p:=h
theorem Y4 {p:Prop} (h:p:=by
  have RR:=I (show cT (O.mk x0 x1 x2 x3 x4 x5 x6 x7 x8 x9 F G Z) (.mk 8 tag J [.mk 5 cD cE cB cF cO,.mk da dw dx dy dz dA] keys)=false by rw[jE];(try simp only[O.cy,O.cu,cJ,cL,cP]);simp[dn])
  have dQ:(tag==0)=false:=aN
  have dR:(tag != 0)=true:=aM
  have cW:((keys.length:Int)==0)=false:=aN
  have cX:((keys.length:Int) != 0)=true:=aM
  exact WK):p:=h
theorem Y5 {p:Prop} (h:p:=by
  have RR:=I (show cT (O.mk x0 x1 x2 x3 x4 x5 x6 x7 x8 x9 F G Z) (.mk 8 tag J [.mk 5 cD cE cB cF cO,.mk da dw dx dy dz dA] keys)=false by rw[jE];(try simp only[O.cy,O.cu,cJ,cL,cP]);simp[dn])
  have dQ:(tag==0)=false:=aN
  have dR:(tag != 0)=true:=aM
  have cW:((keys.length:Int)==0)=true:=aK
  have cX:((keys.length:Int) != 0)=false:=aL
  exact WK):p:=h
theorem KU {p:Prop} (h:p:=by
  have abG:(da==19)=false:=aN
  have abH:(da != 19)=true:=aM
  have kG:=I fR
  clear cU fR nU
  exact adg):p:=h
theorem Zb {p:Prop} (h:p:=by
  have je:decide ((keys.length:Int)<=40)=false:=ax aF
  have jf:decide (40<(keys.length:Int))=true:=ay aF
  have yx:((its.length:Int)==(keys.length:Int)+1)=false:=aN
  have sL:((its.length:Int)==1+(keys.length:Int))=false:=aN
  have CK:((its.length:Int)==wrap64 (1+(keys.length:Int)))=false:=by rw[ze aF aF];exact ax kI
  clear dn fH kI
  exact sM):p:=h
theorem KP {p:Prop} (h:p:=by
  have cW:((keys.length:Int)==0)=false:=aN
  have cX:((keys.length:Int) != 0)=true:=aM
  clear cU
  exact tz):p:=h
theorem KM {p:Prop} (h:p:=by
  go_wp2_with (fail)
  repeat (any_goals (go_quiet (fail);(try go_wp2_with (fail))))
  all_goals
   go_returns
   rw[HK.out]
   exact⟨some ⟨w.heap.size,0,none⟩,2,rfl,HR.out,bl⟩):p:=h
theorem YB {p:Prop} (h:p:=by
  have dQ:(tag==0)=true:=aK
  have dR:(tag != 0)=false:=aL
  have cW:((keys.length:Int)==0)=true:=aK
  have cX:((keys.length:Int) != 0)=false:=aL
  have Ca:decide ((its.length:Int)<=24)=true:=ay aF
  have Cb:decide (24<(its.length:Int))=false:=ax aF
  have kO:=I eS
  clear dn cU mE eS
  exact abB):p:=h
theorem YC {p:Prop} (h:p:=by
  have dQ:(tag==0)=true:=aK
  have dR:(tag != 0)=false:=aL
  have cW:((keys.length:Int)==0)=true:=aK
  have cX:((keys.length:Int) != 0)=false:=aL
  have Ca:decide ((its.length:Int)<=40)=true:=ay aF
  have Cb:decide (40<(its.length:Int))=false:=ax aF
  have kO:=I eS
  clear dn cU mE eS
  exact abB):p:=h
theorem Y7 {p:Prop} (h:p:=by
  have cW:((keys.length:Int)==0)=true:=aK
  have cX:((keys.length:Int) != 0)=false:=aL
  exact WK):p:=h
theorem XL {p:Prop} (h:p:=by
  go_wp2_with (go_at_call 75;refine (dN m c A n cap _ HC.out aO).mono ?_;rintro e w1 ⟨x,x1,x2,rfl,pw,rS⟩;have mc:=I pw;have nW:=I rS;clear pw rS;rw[hb.out]at x2;obtain⟨j,rfl⟩:=Int.eq_ofNat_of_zero_le x1;obtain⟨y,hy,oV⟩:=(HR.out.on nW.out hg).2 j aF;have i1:(j:Int)<(m:Int):=aF;have i2:j<m:=aF;have hy':=I hy;clear hy)
  all_goals
   go_returns
   exact⟨y,hy'.out,rfl,mc.out,nW.out⟩):p:=h
theorem W5 {p:Prop} (h:p:=by
  intro u wa hG hf K hK
  have g0:=rU hG aG
  have e3:(u 3)=.pointer (some ⟨q,2,none⟩):=fU hf 3 aG
  clear hf
  clear hG
  simp only[Act.put,aa,ab,ae,af,ag,aj]at hK |-
  rw[e3]at hK |-
  obtain⟨lP,l4,gM,gN,gH,gO,gP,gQ,gR,gS,gT,gU,fu,fv,fw⟩:=g0.1.box
  clear g0
  go_simp
  exact hK.out _ _ (U.refl _) rfl):p:=h
theorem Yn {p:Prop} (h:p:=by
  go_wp2_with (first | (go_at_call 83;refine (jo _ _ hv).mono ?_;rintro e w1 ⟨rfl,dE⟩;(have jZ:=dE.sz;obtain⟨fA,fJ,fI,fP⟩:=dE.lay (w.heap.size);obtain⟨fX,fY,gi,gj⟩:=dE.lay (q));rw[HW.out])) 
  go_quiet ((go_at_call 39;refine Calls.quiet_of (HQ.out _ bl)))
  go_wp2_with (fail)
  repeat (any_goals (go_quiet (fail);(try go_wp2_with (fail))))
  all_goals
   go_returns
   exact⟨by rw[RR.out];first | done | rfl,bl⟩):p:=h
theorem KZ {p:Prop} (h:p:=by
  have Rz:(cz==5)=false:=aN
  have RA:(cz != 5)=true:=aM
  clear dn cU kF
  exact sM):p:=h
theorem K0 {p:Prop} (h:p:=by
  have Rz:(cz==2)=false:=aN
  have RA:(cz != 2)=true:=aM
  clear dn cU kF
  exact sM):p:=h
theorem K1 {p:Prop} (h:p:=by
  have abG:(da==1)=false:=aN
  have abH:(da != 1)=true:=aM
  clear dn cU nU
  exact sM):p:=h
theorem YG {p:Prop} (h:p:=by
  have dQ:(tag==0)=true:=aK
  have dR:(tag != 0)=false:=aL
  have cW:((keys.length:Int)==0)=true:=aK
  have cX:((keys.length:Int) != 0)=false:=aL
  have sl:((its.length:Int)==2)=false:=aN
  have sn:((its.length:Int) != 2)=true:=aM
  clear dn cU kJ
  exact tz):p:=h
theorem St {p:Prop} (h:p:=by
  have eF:=True.intro
  repeat (any_goals ((first | clear eF | go_quiet (fail));(try go_wp2_with (go_at_call 101;refine (pk _ _ _ _).mono ?_;rintro e w9 ⟨rfl,rfl⟩))))
  all_goals
   go_returns
   exact⟨gA RR.out.symm,bl⟩):p:=h
theorem KT {p:Prop} (h:p:=by
  have Rz:(cz==19)=false:=aN
  have RA:(cz != 19)=true:=aM
  clear cU kF
  exact sM):p:=h
theorem XO {p:Prop} (h:p:=by
  have Pw:decide ((i:Int)<(xs.length:Int))=false:=aH
  have ng:=I (show dK wr 109 3 v L (xs.map cw.D) by have:=HO.out;rw[List.take_of_length_le aF]at this;exact this)
  obtain⟨A9,n9,c9,rfl⟩:∃A9 n9 c9,v=.slice A9 n9 c9:=by obtain⟨A0,c0,L0,hv0,_⟩:=HO.out.ownRow;exact⟨_,_,_,hv0⟩
  go_wp2_with (fail)
  all_goals
   go_returns
   exact⟨_,L,rfl,ng.out.de bl,HB.out,U.trans HBR.out bl⟩):p:=h
theorem Y3 {p:Prop} (h:p:=by
  refine ev 33 ?_
  refine ev 34 ?_
  refine sO 35 ?_
  refine sO 36 ?_
  refine sO 37 ?_
  refine sO 38 ?_
  refine sO 39 ?_
  refine sO 40 ?_
  refine sO 41 ?_
  refine sO 42 ?_
  refine sO 43 ?_
  refine sO 44 ?_
  refine sO 45 ?_
  refine sO 46 ?_
  refine sO 47 ?_
  refine ev 48 ?_
  refine ev 49 ?_
  refine wpAnyH_done aG ?_ _
  all_goals (cases bt <;> cases bk)
  all_goals (try (go_wp2_with (fail)))
  all_goals
   go_returns
   exact⟨by rw[RR.out];first | done | rfl,bl⟩):p:=h
theorem Yi {p:Prop} (h:p:=by
  go_wp2_with (fail)
  repeat (any_goals (go_quiet (fail);(try go_wp2_with (fail))))
  all_goals
   go_returns
   exact⟨by rw[RR.out];first | done | rfl,bl⟩):p:=h
theorem Xl {p:Prop} (h:p:=by
  intro uf wa s hs ha cl hJ K hK
  obtain⟨fF,cI,eM,yU,oO,vy,yV⟩:=hJ
  simp only[Act.put,aa,ab,ae,af,ag,aj]at hK |-
  obtain⟨lP,l4,gM,gN,gH,gO,gP,gQ,gR,gS,gT,gU,fu,fv,fw⟩:=oO.box
  go_simp
  exact hK.out _ _ ⟨fun _=>rfl,cI,eM,yU,oO,vy,yV⟩):p:=h
theorem YH {p:Prop} (h:p:=by
  refine ev 35 ?_
  refine ev 36 ?_
  refine sO 37 ?_
  refine sO 38 ?_
  refine sO 39 ?_
  refine sO 40 ?_
  refine sO 41 ?_
  refine sO 42 ?_
  refine sO 43 ?_
  refine sO 44 ?_
  refine sO 45 ?_
  refine sO 46 ?_
  refine sO 47 ?_
  refine sO 48 ?_
  refine sO 49 ?_
  refine ev 50 ?_
  refine ev 51 ?_
  refine wpAnyH_done aG ?_ _
  all_goals (try (go_wp2_with (fail)))
  all_goals
   go_returns
   exact⟨by rw[RR.out];first | done | rfl,bl⟩):p:=h
theorem YR {p:Prop} (h:p:=by
  have Cl:decide (0<=tag)=true:=ay aF
  have jw:decide (tag<(x1.length:Int))=true:=ay aF
  have Ry:((its.length:Int)==(fV.length:Int))=true:=aK
  clear hx
  subst hm
  have cW:((keys.length:Int)==0)=false:=aN
  have cX:((keys.length:Int) != 0)=true:=aM
  exact ais):p:=h
theorem YS {p:Prop} (h:p:=by
  have Cl:decide (0<=tag)=true:=ay aF
  have jw:decide (tag<(x1.length:Int))=true:=ay aF
  have Ry:((its.length:Int)==(fV.length:Int))=true:=aK
  clear hx
  subst hm
  have cW:((keys.length:Int)==0)=true:=aK
  have cX:((keys.length:Int) != 0)=false:=aL
  exact ais):p:=h
theorem XR {p:Prop} (h:p:=by
  have:(List.range ops.size).countP (fun j=>!(listed.setIfInBounds i true).getD j true)<(List.range ops.size).countP (fun j=>!listed.getD j true):=by
   refine DZ (List.mem_range.2 oQ) (by rw[Jl];rfl) ?_ (fun j hj=>?_)
   ·
    rw[gI aF,Array.getElem_setIfInBounds_self]
    rfl
   ·
    by_cases h:i=j
    ·
     subst h;rw[Jl];rfl
    ·
     rw[getD_set_ne true h]at hj;exact hj
  omega):p:=h
theorem K5 {p:Prop} (h:p:=by
  have dQ:(tag==0)=true:=aK
  have dR:(tag != 0)=false:=aL
  exact rk5):p:=h
theorem Zp {p:Prop} (h:p:=by
  go_returns
  obtain⟨⟨us9,L9,sy⟩,su⟩:=W2.out.text (aw (aw hN jg.size) k1.size) Ke (t:=tx) I1.out
  exact⟨by (rw[RR.out] <;> rfl),⟨_,_,by rw[RR.out];exact sy.on bl⟩,mf.trans (mf.dH jg hN) (mf.trans (mf.dH k1 (aw hN jg.size)) (su.trans (mf.dH bl (aw (aw (aw hN jg.size) k1.size) su.size))))⟩):p:=h
theorem YM {p:Prop} (h:p:=by
  have je:decide ((keys.length:Int)<=40)=true:=ay aF
  have jf:decide (40<(keys.length:Int))=false:=ax aF
  have vL:((its.length:Int)==0)=false:=aN
  have vM:((its.length:Int) != 0)=true:=aM
  have oL:=I ju
  clear dn fH ju mY
  exact adh):p:=h
theorem YN {p:Prop} (h:p:=by
  have je:decide ((keys.length:Int)<=40)=true:=ay aF
  have jf:decide (40<(keys.length:Int))=false:=ax aF
  have vL:((its.length:Int)==0)=true:=aK
  have vM:((its.length:Int) != 0)=false:=aL
  have oL:=I ju
  clear dn fH ju mY
  exact adh):p:=h
theorem Zr {p:Prop} (h:p:=by
  go_returns
  obtain⟨⟨us9,L9,sy⟩,su⟩:=W3.out.pos (aw (aw hN jg.size) k2.size) Ke Vq.out
  exact⟨by (rw[RR.out] <;> rfl),⟨_,_,by rw[RR.out];exact sy.on bl⟩,mf.trans (mf.dH jg hN) (mf.trans (mf.dH k2 (aw hN jg.size)) (su.trans (mf.dH bl (aw (aw (aw hN jg.size) k2.size) su.size))))⟩):p:=h
theorem YT {p:Prop} (h:p:=by
  have RR:=I (show cT (O.mk x0 x1 x2 x3 x4 x5 x6 x7 x8 x9 F G Z) (.mk 7 tag J its keys)=false by rw[rq];(try simp only[O.cy,O.cu,cJ,cL,cP]);simp[cU])
  have cW:((keys.length:Int)==0)=false:=aN
  have cX:((keys.length:Int) != 0)=true:=aM
  exact ait):p:=h
theorem YF {p:Prop} (h:p:=by
  have cW:((keys.length:Int)==0)=true:=aK
  have cX:((keys.length:Int) != 0)=false:=aL
  have jw:decide (1<=tag)=false:=ax aF
  have km:decide (tag<1)=true:=ay aF
  have kn:decide (0<tag)=false:=ax aF
  clear cU
  exact NO):p:=h
theorem Zf {p:Prop} (h:p:=by
  have Uh:=sx
  have eF:=True.intro
  repeat (any_goals ((first | clear eF | go_quiet (fail));(try go_wp2_with (go_at_call 106;refine (kj (O.mk x0 x1 x2 x3 x4 x5 x6 x7 x8 x9 F G Z) x3 S S w.heap.size _ _ _ (cv.de bl Uh.out) (Row.de bl Gm.out)).mono ?_;rintro e wz ⟨rfl,sS⟩;rw[HG.out]))))
  all_goals
   go_returns
   exact⟨gA RR.out.symm,bl⟩):p:=h
theorem Xn {p:Prop} (h:p:=by
  replace he:e=.returned (.agg #[.int .i64 k5,.int .i64 n5,.int .i64 i5,.string t5,.int .i64 l5,.int .i64 h5]):=he
  subst he
  exact hK.out _ _ ⟨fF,cI,fun _=>⟨⟨k5,n5,i5,t5,l5,h5⟩,hv,rfl⟩,fun h=>absurd (show true=false from h) aI,oO.gV hO,fun _=>hZ.block hO.size (hO.block r2 hZ.1 PI),fun h=>absurd (h3.symm.trans h) aI⟩):p:=h
theorem WX {p:Prop} (h:p:=by
  intro j vf wa wb hk hv
  match j,hv with
  | 0,hv=>exact hv
  | 1,hv=>exact hv
  | 2,hv=>exact hv
  | 3,hv=>exact hv
  | 4,hv=>exact hv
  | 5,hv=>exact hv
  | 6,hv=>exact (by obtain⟨g,e,h1,h2⟩:=hv;exact⟨g,e,h1,Po.obj (qG hk) h1 h2⟩)
  | 7,hv=>exact⟨hv.1.de hk,hv.2⟩
  | 8,hv=>exact hv
  | 9,hv=>exact hv
  | n+10,hv=>exact trivial):p:=h
theorem YJ {p:Prop} (h:p:=by
  have je:decide ((keys.length:Int)<=40)=false:=ax aF
  have jf:decide (40<(keys.length:Int))=true:=ay aF
  have vL:((its.length:Int)==0)=false:=aN
  have vM:((its.length:Int) != 0)=true:=aM
  clear dn fH mY
  exact sM):p:=h
theorem YK {p:Prop} (h:p:=by
  have je:decide ((keys.length:Int)<=40)=false:=ax aF
  have jf:decide (40<(keys.length:Int))=true:=ay aF
  have vL:((its.length:Int)==0)=true:=aK
  have vM:((its.length:Int) != 0)=false:=aL
  clear dn fH mY
  exact sM):p:=h
theorem Za {p:Prop} (h:p:=by
  have RR:=I (show cT (O.mk x0 x1 x2 x3 x4 x5 x6 x7 x8 x9 F G Z) (.mk 3 tag J its keys)=false by rw[im];(try simp only[O.cy,O.cu,cJ,cL,cP]);rw[ju];simp)
  have dQ:(tag==0)=true:=aK
  have dR:(tag != 0)=false:=aL
  exact air):p:=h
theorem WY {p:Prop} (h:p:=by
  intro j vf wa wb hjp hk hv
  match j,hv with
  | 0,hv=>exact hv
  | 1,hv=>exact hv
  | 2,hv=>exact hv
  | 3,hv=>exact hv
  | 4,hv=>exact hv
  | 5,hv=>exact hv
  | 6,hv=>exact (by obtain⟨g,e,h1,h2⟩:=hv;exact⟨g,e,h1,Po.obj hk h1 h2⟩)
  | 8,hv=>exact hv
  | 9,hv=>exact hv
  | 7,hv=>exact absurd rfl hjp
  | n+10,hv=>exact trivial):p:=h
theorem Zc {p:Prop} (h:p:=by
  have RR:=I (show cT (O.mk x0 x1 x2 x3 x4 x5 x6 x7 x8 x9 F G Z) (.mk 3 tag J its keys)=false by rw[im];(try simp only[O.cy,O.cu,cJ,cL,cP]);simp[dn])
  have dQ:(tag==0)=false:=aN
  have dR:(tag != 0)=true:=aM
  exact air):p:=h
theorem WZ {p:Prop} (h:p:=by
  intro u wa hG hf K hK
  have e1:(u 1)=.pointer (some ⟨q,0,none⟩):=fU hf 1 aG
  clear hf
  clear hG
  simp only[Act.put,aa,ab,ae,af,ag,aj]at hK |-
  rw[e1]at hK |-
  go_simp
  exact hK.out _ _ (U.refl _) rfl):p:=h
theorem W4 {p:Prop} (h:p:=by
  intro u wa hG hf K hK
  have e2:(u 2)=.pointer (some ⟨q,0,none⟩):=fU hf 2 aG
  clear hf
  clear hG
  simp only[Act.put,aa,ab,ae,af,ag,aj]at hK |-
  rw[e2]at hK |-
  go_simp
  exact hK.out _ _ (U.refl _) rfl):p:=h
theorem W7 {p:Prop} (h:p:=by
  intro u wa hG hf K hK
  have e0:(u 0)=.pointer (some ⟨q,0,none⟩):=fU hf 0 aG
  clear hf
  clear hG
  simp only[Act.put,aa,ab,ae,af,ag,aj]at hK |-
  rw[e0]at hK |-
  go_simp
  exact hK.out _ _ (U.refl _) rfl):p:=h
theorem W9 {p:Prop} (h:p:=by
  intro u wa hG hf K hK
  have e8:(u 8)=.pointer (some ⟨q,0,none⟩):=fU hf 8 aG
  clear hf
  clear hG
  simp only[Act.put,aa,ab,ae,af,ag,aj]at hK |-
  rw[e8]at hK |-
  go_simp
  exact hK.out _ _ (U.refl _) rfl):p:=h
theorem W6 {p:Prop} (h:p:=by
  intro u wa hG hf K hK
  have g0:=rU hG aG
  clear hf
  clear hG
  simp only[Act.put,aa,ab,ae,af,ag,aj]at hK |-
  obtain⟨yM,Mm,q0,q1,q2,q3,q4⟩:=g0.2.1
  clear g0
  go_simp
  exact hK.out _ _ (U.refl _) rfl):p:=h
theorem KW {p:Prop} (h:p:=by
  have kG:=I fR
  have oJ:=I iT
  have Lr:=I tc
  clear cU fR iT tc
  exact rk1):p:=h
theorem Xm {p:Prop} (h:p:=by
  intro uf wa s hs ha cl hJ K hK
  obtain⟨fF,cI,eM,yU,oO,vy,yV⟩:=hJ
  simp only[Act.put,aa,ab,ae,af,ag,aj]at hK |-
  go_simp
  exact hK.out _ _ ⟨fF,fun _=>rfl,eM,yU,oO,vy,yV⟩):p:=h
theorem Ll {p:Prop} (h:p:=by
  go_wp2_with (fail)
  all_goals
   go_returns
   exact⟨by first | rfl | simp | simp[*],OC.out.de.trans bl⟩):p:=h
theorem Ze {p:Prop} (h:p:=by
  go_wp2_with (fail)
  repeat (any_goals (go_quiet (fail);(try go_wp2_with (fail))))
  go_roundw
  case rel=>exact⟨k+1,by go_num,by omega,fun j hj uy=>by
   by_cases e:j=k
   ·
    subst e;exact HNW.out
   ·
    exact hk.out j aF uy,bl,I (cv.de bl sx.out)⟩
  case measure=>simp[intOf];omega):p:=h
theorem Qt {p:Prop} (h:p:=by
  go_wp2_with (fail)
  repeat (any_goals (go_quiet (fail);(try go_wp2_with (fail))))
  all_goals
   go_returns
   exact⟨by rw[HA.out];first | done | rfl,bl⟩):p:=h
theorem Yl {p:Prop} (h:p:=by
  have hd:decide ((m:Int)<(l.length:Int))=false:=aV
  have HA:=I (Kx (l:=l) fun i hi k hk=>hm.out i hi k hk aF)
  go_wp2_with (fail)
  repeat (any_goals (go_quiet (fail);(try go_wp2_with (fail))))
  all_goals
   go_returns
   exact⟨by rw[HA.out];first | done | rfl,bl⟩):p:=h
theorem Yk {p:Prop} (h:p:=by
  have hd:decide ((m:Int)<(l.length:Int))=false:=aV
  have HA:=I (abx (s:=s) (l:=l) fun k hk=>hm.out k hk aF)
  go_wp2_with (fail)
  repeat (any_goals (go_quiet (fail);(try go_wp2_with (fail))))
  all_goals
   go_returns
   exact⟨by rw[HA.out];first | done | rfl,bl⟩):p:=h
theorem WS {p:Prop} (h:p:=by
  have iP:=h.ne
  exact⟨h.AM,hc,⟨h.st.box.block k.size (k.block q h.st.box.1 aF),h.st.gv.keep k.size (fun e he b hb=>k.block b ((h.st.gv.own e he).lt b hb) (by have:=h.st.gv.low e he b hb;omega)),h.st.low⟩,h.ne,h.gV.trans k,h.ok,h.Kp⟩):p:=h
theorem XQ {p:Prop} (h:p:=by
  intro listed a w hs hc hl hI hn
  exfalso
  have h0:(List.range ops.size).countP (fun j=>!listed.getD j true)=0:=aF
  rw[List.countP_eq_zero]at h0
  have:=h0 m (List.mem_range.2 aF)
  rw[gI aF]at this hl
  rw[hl]at this
  exact this rfl):p:=h
theorem Pm {p:Prop} (h:p:=by
  rcases hn x q with q | q
  ·
   exact Or.inl (Or.inl q)
  ·
   exact Or.inr ⟨by omega,fun f hf hb=>by have:=jP f hf x hb;omega⟩):p:=h
theorem PF {p:Prop} (h:p:=by
  go_wp2_with (fail)
  all_goals go_meet
  all_goals exact⟨_,_,_,_,_,_,_,_,its,fO,by omega,by omega,by omega,HT.out⟩):p:=h
theorem Zo {p:Prop} (h:p:=by
  have hw:=gg gf
  unfold dD at hw
  rw[if_neg aJ,if_neg aJ,if_neg aJ,if_neg aJ,if_neg aJ,if_neg aJ,if_pos rfl]at hw
  simp only[Bool.and_eq_true,Bool.or_eq_true,decide_eq_true_eq]at hw
  exact hw.2):p:=h
theorem WM {p:Prop} (h:p:=by
  go_wp2
  all_goals
   go_returns
   go_light
   refine⟨?_,bl⟩
   have B1:=B1.out
   have B2:=B2.out
   simp only[Array.getD_eq_getD_getElem?,List.getElem?_toArray,List.getElem?_cons_succ,List.getElem?_cons_zero,Option.getD_some]
   unfold sB
   grind):p:=h
theorem Ya {p:Prop} (h:p:=by
  refine bodyPost_ret (v:=.tuple #[.agg #[.int .i64 da,.int .i64 dw,.int .i64 dx,.string dy,.int .i64 dz,.int .i64 dA],.int .i64 0]) (by simp[results,Tryz.results46,go_sem] <;> rfl) rfl ⟨?_,bl⟩
  rw[RR.out];first | done | rfl):p:=h
theorem Y0 {p:Prop} (h:p:=by
  have cW:((keys.length:Int)==0)=false:=aN
  have cX:((keys.length:Int) != 0)=true:=aM
  have kG:=I fR
  have oJ:=I iT
  clear cU fR iT
  exact adf):p:=h
theorem Y2 {p:Prop} (h:p:=by
  have cW:((keys.length:Int)==0)=true:=aK
  have cX:((keys.length:Int) != 0)=false:=aL
  have kG:=I fR
  have oJ:=I iT
  clear cU fR iT
  exact adf):p:=h
theorem XV {p:Prop} (h:p:=by
  refine List.eq_nil_iff_forall_not_mem.2 fun k hk=>?_
  obtain⟨h1,ok,AN,-⟩:=mem_ready.1 hk
  have LK:k<ops.size:=(Array.getElem?_eq_some_iff.1 AN).1
  have h2:=XU k LK
  rw[gI aF]at h1 h2
  rw[h2]at h1
  cases h1):p:=h
theorem Xx {p:Prop} (h:p:=by
  go_wp2_with (fail)
  go_loopw [4] (fun v wr=>∃m:Nat,v=.int .i64 m/\m<=s.size/\Hid (ld s m=qU s)/\U w wr) (fun v _=>s.size - (intOf v).toNat)
  case atStart=>exact⟨0,rfl,by omega,rfl,bl⟩
  case round =>
   exact rk6):p:=h
theorem Zq {p:Prop} (h:p:=by
  go_returns
  exact⟨by (rw[RR.out] <;> rfl),⟨_,_,by rw[RR.out];exact W3.out.on bl⟩,mf.trans (mf.dH jg hN) (mf.trans (mf.dH k2 (aw hN jg.size)) (mf.dH bl (aw (aw hN jg.size) k2.size)))⟩):p:=h
theorem Zd {p:Prop} (h:p:=by
  go_roundw
  case rel=>exact⟨m+1,by go_num,by omega,fun j hj uy=>by
   by_cases e:j=m
   ·
    subst e;exact HNW.out
   ·
    exact hm.out j hj aF,bl,I (cv.de bl sx.out)⟩
  case measure=>simp[intOf];omega):p:=h
theorem YY {p:Prop} (h:p:=by
  have cW:((keys.length:Int)==0)=false:=aN
  have cX:((keys.length:Int) != 0)=true:=aM
  have kG:=I fR
  clear cU fR
  exact adg):p:=h
theorem Y1 {p:Prop} (h:p:=by
  have cW:((keys.length:Int)==0)=true:=aK
  have cX:((keys.length:Int) != 0)=false:=aL
  have kG:=I fR
  clear cU fR
  exact adg):p:=h
theorem Xr {p:Prop} (h:p:=by
  have sW:=Fe lu dE
  rw[<-PL HB.out]at sW
  exact⟨⟨k+1,rfl,by omega,sW,(by rw[fA];exact rQ),(by rw[fA];exact vx),dX.trans dE,fI⟩,by simp only[intOf];omega⟩):p:=h
theorem Yj {p:Prop} (h:p:=by
  go_roundw
  case rel=>exact⟨m+1,by go_num,by omega,fun j hj uy=>by
   by_cases e:j=m
   ·
    subst e;exact HD.out.trans HN.out
   ·
    exact hm.out j hj aF,bl⟩
  case measure=>simp[intOf];omega):p:=h
theorem YW {p:Prop} (h:p:=by
  have cW:((keys.length:Int)==0)=false:=aN
  have cX:((keys.length:Int) != 0)=true:=aM
  clear kJ cU
  exact sM):p:=h
theorem YX {p:Prop} (h:p:=by
  have cW:((keys.length:Int)==0)=true:=aK
  have cX:((keys.length:Int) != 0)=false:=aL
  clear kJ cU
  exact sM):p:=h
theorem XG {p:Prop} (h:p:=by
  go_wp2_with (fail)
  all_goals
   go_returns
   refine⟨rfl,⟨by simp,fun o=>by simp,(HB.out _ (Nat.le_refl _)).on (ic.dH bl),0,h,by omega,by simp,by simp,by simp⟩,bl⟩):p:=h
theorem YU {p:Prop} (h:p:=by
  have cW:((keys.length:Int)==0)=true:=aK
  have cX:((keys.length:Int) != 0)=false:=aL
  exact ait):p:=h
theorem Yg {p:Prop} (h:p:=by
  unfold dD at hw
  rcases h with h | h
  ·
   repeat rw[if_neg (by simp only;omega)]at hw
   cases hw
  ·
   repeat rw[if_neg (by simp only;omega)]at hw
   cases hw):p:=h
theorem X1 {p:Prop} (h:p:=by
  go_wp2_with (fail)
  all_goals go_roundw
  case rel=>exact⟨i+1,_,_,by go_num,by omega,I HGN.out⟩
  case measure=>simp[intOf];omega):p:=h
theorem Xv {p:Prop} (h:p:=by
  clear hcv
  go_wp2_with (fail)
  exact⟨⟨m.tdiv 10,_,rfl,rfl,⟨by omega,by omega⟩,hE2,ht2,bl⟩,by simp only[intOf];omega⟩):p:=h
theorem XK {p:Prop} (h:p:=by
  unfold World.cell?
  show (match (w.alloc _).heap[w.heap.size]? with | some (.cells c _ _)=>_ | _=>_)=_
  rw[heap_alloc_new]
  simp[hj]):p:=h
theorem YD {p:Prop} (h:p:=by
  rw[show tag.toNat=m by omega]
  have:x1.getD m (.mk ByteArray.empty [] 0)=x1[m]:=by simp[List.getD,jP]
  rw[this,Yb.out];rfl):p:=h
theorem aoS {p:Prop} (h:p:=by
  have:=List.countP_le_length (l:=List.range ops.size) (p:=fun j=>!(Array.replicate ops.size false).getD j true)
  simpa using this):p:=h
theorem Ym {p:Prop} (h:p:=by
  go_wp2_with (fail)
  repeat (any_goals (go_quiet (fail);(try go_wp2_with (fail))))
  all_goals
   go_returns
   exact⟨⟨_,rfl⟩,bl⟩):p:=h
theorem Xt {p:Prop} (h:p:=by
  obtain rfl:k=128:=by omega
  have hT:=PM lo hi wr _ _ lu
  go_wp2_with (fail)
  all_goals
   go_returns
   exact⟨rfl,bl⟩):p:=h
theorem Yp {p:Prop} (h:p:=by
  have RR:=I (show ez s tag its=false by unfold ez;rw[ax aF];simp)
  have HL:=I hl
  exact agW):p:=h
theorem Yf {p:Prop} (h:p:=by
  have RR:=I (ix (s:=(O.mk x0 x1 x2 x3 x4 x5 x6 x7 x8 x9 F G Z)) hw)
  have HW:=I hw
  exact ags):p:=h
theorem WU {p:Prop} (h:p:=by
  rintro (q | q)
  ·
   rcases hn d q with q | q
   ·
    exact hd (EV vi its) aJ (Or.inl q)
   ·
    omega
  ·
   cases q):p:=h
theorem Xy {p:Prop} (h:p:=by
  unfold j0
  rw[List.getD_eq_getElem?_getD,List.getElem?_set_ne (Ne.symm hqj),<-List.getD_eq_getElem?_getD]):p:=h
theorem XS {p:Prop} (h:p:=by
  rcases Nat.lt_or_ge j m with h2 | h2
  ·
   exact h2
  ·
   obtain rfl:j=m:=by omega
   rw[hl]at hj;cases hj):p:=h
theorem Xu {p:Prop} (h:p:=by
  replace hR:=I hR
  clear hT
  go_wp2_with (fail)
  all_goals
   go_returns
   exact⟨by rw[hR.out];rfl,bl⟩):p:=h
theorem Yy {p:Prop} (h:p:=by
  go_roundw
  case rel=>exact⟨m+1,by go_num,by omega,HM.out,bl⟩
  case measure=>simp[intOf];omega):p:=h
theorem aoT {p:Prop} (h:p:=by
  simp[Array.getElem?_eq_none (show (Array.replicate ops.size false).size<=j by simpa using h)]at hj):p:=h
end Go.Proofs.YtjngkknbpfgdcaaGreatDoor
