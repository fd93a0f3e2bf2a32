import Derived.Test.YtjngkknbpfgdcaaGreatDoorPa
import Derived.ArgAppend
import Derived.Below
import Derived.BigQuiet
import Derived.ChangeOld
import Derived.Deep.Cut
import Derived.Deep.DeepHandedRow
import Derived.Deep.DeepWitnessRowRef
import Derived.Deep.Light
import Derived.Deep.MidRow
import Derived.Deep.QuietTactic
import Derived.Deep.RegionHeld3
import Derived.Deep.RegionWith
import Derived.Deep.Slices
import Derived.Handy
import Derived.LaidMore
import Derived.Laws.BitsAllLaws
import Derived.Laws.IdiomCopy
import Derived.Laws.IdiomStrings
import Derived.Laws.MakeOwn
import Derived.Laws.StructEq
import Derived.Lib.BufferRead
import Derived.Lib.Hide
import Derived.Lib.LaidTab
import Derived.Lib.SmallJoins
import Derived.Maps.OwnOps
import Derived.Maps.OwnSet
import Derived.OpenShut
import Derived.OwnWalk
import Derived.ProofKit
import Derived.ShutString
import Derived.StillTailTactics
import Derived.Stop.LaidErr
import Derived.WalkKit
import Derived.WalkLawsBesides
import Derived.WalkSpells
set_option linter.unusedVariables false
set_option linter.unusedSimpArgs false
set_option maxRecDepth 100000
set_option maxHeartbeats 8000000
namespace Go.Proofs.YtjngkknbpfgdcaaGreatDoor
theorem rk0 {p:Prop} (h:p:=by
  simp only[iT,Act.put,aa,ab,ae,af,ag,ah]
  refine (cB (i:=0) (i2:=1) (o:=_) rfl ?s0 (cB (i:=1) (i2:=2) (o:=_) rfl ?s1 (cB (i:=2) (i2:=3) (o:=_) rfl ?s2 (cB (i:=3) (i2:=4) (o:=_) rfl ?s3 (cB (i:=4) (i2:=5) (o:=_) rfl ?s4 (cB (i:=5) (i2:=6) (o:=_) rfl ?s5 (cB (i:=6) (i2:=7) (o:=_) rfl ?s6 (cB (i:=7) (i2:=8) (o:=_) rfl ?s7 (cB (i:=8) (i2:=9) (o:=_) rfl ?s8 (cB (i:=9) (i2:=10) (o:=_) rfl ?s9 (cB (i:=10) (i2:=11) (o:=_) rfl ?s10 (cB (i:=11) (i2:=12) (o:=_) rfl ?s11 (cB (i:=12) (i2:=13) (o:=_) rfl ?s12 (gD aF))))))))))))))
  case s0 =>
   intro uf wa s hs ha cl hJ K hK
   obtain⟨dt,cQ,cT,dh,du,fi,fj,dM,eD,ei,fw,fm,dC,eO⟩:=hJ
   simp only[Act.put,aa,ab,ae,af,ag,ah]at hK |-
   go_simp
   exact hK.out _ _ ⟨dt,fun _=>rfl,cT,dh,du,fi,fj,dM,eD,ei,fw,fm,dC,eO⟩
  case s1 =>
   intro uf wa s hs ha cl hJ K hK
   obtain⟨dt,cQ,cT,dh,du,fi,fj,dM,eD,ei,fw,fm,dC,eO⟩:=hJ
   have nm:=cQ (ha 0 aC)
   simp only[Act.put,aa,ab,ae,af,ag,ah]at hK |-
   rw[nm]at hK |-
   go_simp
   exact hK.out _ _ ⟨dt,cQ,fun _=>rfl,dh,du,fi,fj,dM,eD,ei,fw,fm,dC,eO⟩
  case s2 =>
   intro uf wa s hs ha cl hJ K hK
   obtain⟨dt,cQ,cT,dh,du,fi,fj,dM,eD,ei,fw,fm,dC,eO⟩:=hJ
   have pS:=cT (ha 1 aC)
   simp only[Act.put,aa,ab,ae,af,ag,ah]at hK |-
   rw[pS]at hK |-
   go_simp
   exact hK.out _ _ ⟨dt,cQ,cT,fun _=>rfl,du,fi,fj,dM,eD,ei,fw,fm,dC,eO⟩
  case s3 =>
   intro uf wa s hs ha cl hJ K hK
   obtain⟨dt,cQ,cT,dh,du,fi,fj,dM,eD,ei,fw,fm,dC,eO⟩:=hJ
   have sd:=dh (ha 2 aC)
   simp only[Act.put,aa,ab,ae,af,ag,ah]at hK |-
   rw[sd]at hK |-
   have q1:=(dt.box q hq _).trans lN
   go_simp
   exact hK.out _ _ ⟨dt,cQ,cT,dh,fun _=>rfl,fi,fj,dM,eD,ei,fw,fm,dC,eO⟩
  case s4 =>
   intro uf wa s hs ha cl hJ K hK
   obtain⟨dt,cQ,cT,dh,du,fi,fj,dM,eD,ei,fw,fm,dC,eO⟩:=hJ
   simp only[Act.put,aa,ab,ae,af,ag,ah]at hK |-
   go_simp
   exact hK.out _ _ ⟨dt,cQ,cT,dh,du,fun _=>rfl,fj,dM,eD,ei,fw,fm,dC,eO⟩
  case s5 =>
   intro uf wa s hs ha cl hJ K hK
   obtain⟨dt,cQ,cT,dh,du,fi,fj,dM,eD,ei,fw,fm,dC,eO⟩:=hJ
   have Iw:=fi (ha 4 aC)
   simp only[Act.put,aa,ab,ae,af,ag,ah]at hK |-
   rw[Iw]at hK |-
   have q1:=(dt.box r4 R4.out.lt _).trans R4.out.c1
   go_simp
   exact hK.out _ _ ⟨dt,cQ,cT,dh,du,fi,fun _=>rfl,dM,eD,ei,fw,fm,dC,eO⟩
  case s6 =>
   intro uf wa s hs ha cl hJ K hK
   obtain⟨dt,cQ,cT,dh,du,fi,fj,dM,eD,ei,fw,fm,dC,eO⟩:=hJ
   have tE:=du (ha 3 aC)
   have Ix:=fj (ha 5 aC)
   simp only[Act.put,aa,ab,ae,af,ag,ah]at hK |-
   rw[tE]at hK |-
   rw[Ix]at hK |-
   go_simp
   exact hK.out _ _ ⟨dt,cQ,cT,dh,du,fi,fj,fun _=>rfl,eD,ei,fw,fm,dC,eO⟩
  case s7 =>
   intro uf wa s hs ha cl hJ K hK
   obtain⟨dt,cQ,cT,dh,du,fi,fj,dM,eD,ei,fw,fm,dC,eO⟩:=hJ
   have xM:=dM (ha 6 aC)
   simp only[Act.put,aa,ab,ae,af,ag,ah]at hK |-
   rw[xM]at hK |-
   go_simp
   exact hK.out _ _ ⟨dt,cQ,cT,dh,du,fi,fj,dM,fun _=>rfl,ei,fw,fm,dC,eO⟩
  case s8 =>
   intro uf wa s hs ha cl hJ K hK
   obtain⟨dt,cQ,cT,dh,du,fi,fj,dM,eD,ei,fw,fm,dC,eO⟩:=hJ
   have Ef:=eD (ha 7 aC)
   simp only[Act.put,aa,ab,ae,af,ag,ah]at hK |-
   rw[Ef]at hK |-
   have q1:=(dt.box g hg _).trans zE
   go_simp
   exact hK.out _ _ ⟨dt,cQ,cT,dh,du,fi,fj,dM,eD,fun _=>rfl,fw,fm,dC,eO⟩
  case s9 =>
   intro uf wa s hs ha cl hJ K hK
   obtain⟨dt,cQ,cT,dh,du,fi,fj,dM,eD,ei,fw,fm,dC,eO⟩:=hJ
   simp only[Act.put,aa,ab,ae,af,ag,ah]at hK |-
   go_simp
   exact hK.out _ _ ⟨dt,cQ,cT,dh,du,fi,fj,dM,eD,ei,fun _=>rfl,fm,dC,eO⟩
  case s10 =>
   intro uf wa s hs ha cl hJ K hK
   obtain⟨dt,cQ,cT,dh,du,fi,fj,dM,eD,ei,fw,fm,dC,eO⟩:=hJ
   have Iy:=fw (ha 9 aC)
   simp only[Act.put,aa,ab,ae,af,ag,ah]at hK |-
   rw[Iy]at hK |-
   have q1:=(dt.box r4 R4.out.lt _).trans R4.out.c2
   go_simp
   exact hK.out _ _ ⟨dt,cQ,cT,dh,du,fi,fj,dM,eD,ei,fw,fun _=>rfl,dC,eO⟩
  case s11 =>
   intro uf wa s hs ha cl hJ K hK
   obtain⟨dt,cQ,cT,dh,du,fi,fj,dM,eD,ei,fw,fm,dC,eO⟩:=hJ
   simp only[Act.put,aa,ab,ae,af,ag,ah]at hK |-
   have q0:=(dt.box r5 R5.out.lt 0).trans R5.out.c0
   have q1:=(dt.box r5 R5.out.lt 1).trans R5.out.c1
   have q2:=(dt.box r5 R5.out.lt 2).trans R5.out.c2
   have q3:=(dt.box r5 R5.out.lt 3).trans R5.out.c3
   have q4:=(dt.box r5 R5.out.lt 4).trans R5.out.c4
   have q5:=(dt.box r5 R5.out.lt 5).trans R5.out.c5
   go_simp
   exact hK.out _ _ ⟨dt,cQ,cT,dh,du,fi,fj,dM,eD,ei,fw,fm,fun _=>rfl,eO⟩
  case s12 =>
   intro uf wa s hs ha cl hJ K hK
   obtain⟨dt,cQ,cT,dh,du,fi,fj,dM,eD,ei,fw,fm,dC,eO⟩:=hJ
   have Bj:=ei (ha 8 aC)
   have Bg:=fm (ha 10 aC)
   simp only[Act.put,aa,ab,ae,af,ag,ah]at hK |-
   rw[Bj]at hK |-
   rw[Bg]at hK |-
   go_simp
   exact hK.out _ _ ⟨dt,cQ,cT,dh,du,fi,fj,dM,eD,ei,fw,fm,dC,fun _=>rfl⟩):p:=h
theorem rk1 {p:Prop} (h:p:=by
  go_enter Tryz.func41,Tryz.ntmps41
  have fg:=True.intro
  repeat (any_goals ((first | clear fg | go_quiet (fail));(try go_wp2_with (first | (go_at_call 27;(with_reducible refine (eB (cv.mk x0 x1 x2 x3 x4 x5 x6 x7 x8 x9 x10 x11 x12) ⟨19,cM,cN,cO,cP,dn⟩ S q _ (cG.bel bl HS.out) ⟨eY,eG,fa,zI.out,er,gw⟩).mono ?_);rintro e xO ⟨rfl,eM⟩;rw[j6.out];(have mX:=eM.sz;obtain⟨iB,iC,iD,iE⟩:=eM.lay (w.heap.size);obtain⟨iF,iG,iH,iI⟩:=eM.lay (q);obtain⟨qx,qy,qz,qA⟩:=eM.lay (b1))) | (go_at_call 27;(with_reducible refine (eB (cv.mk x0 x1 x2 x3 x4 x5 x6 x7 x8 x9 x10 x11 x12) ⟨19,dN,dQ,dV,dW,dZ⟩ S q _ (cG.bel bl HS.out) ⟨kY,km,lh,Cx.out,kn,lH⟩).mono ?_);rintro e Sm ⟨rfl,jj⟩;rw[oe.out];(have BN:=jj.sz;obtain⟨qB,qC,qD,qE⟩:=jj.lay (w.heap.size);obtain⟨qF,qG,qH,qI⟩:=jj.lay (q);obtain⟨yd,ye,yf,yg⟩:=jj.lay (b1))) | (go_at_call 27;(with_reducible refine (eB (cv.mk x0 x1 x2 x3 x4 x5 x6 x7 x8 x9 x10 x11 x12) ⟨1,gx,iN,iO,iP,iQ⟩ S q _ (cG.bel bl HS.out) ⟨PE,PF,PG,GT3.out,PH,PI⟩).mono ?_);rintro e wi3 ⟨rfl,Ej⟩;rw[JM.out];(have ai4:=Ej.sz;obtain⟨aaP,aaQ,aaR,aaS⟩:=Ej.lay (w.heap.size);obtain⟨aaT,aaU,aaV,aaW⟩:=Ej.lay (q);obtain⟨aaX,aaY,aaZ,aa0⟩:=Ej.lay (b1)))))))
  all_goals
   go_returns
   exact⟨by rw[RR.out];first | done | rfl,bl⟩):p:=h
theorem I5 {p:Prop} (h:p:=by
  clear hw
  go_enter Tryz.func27,Tryz.ntmps27
  have fg:=True.intro
  repeat (any_goals ((first | clear fg | go_quiet (fail));(try go_wp2_with (first | (go_at_call 83;refine (iU _ _ hv).mono ?_;rintro e w1 ⟨rfl,hb1⟩;(have hz1:=hb1.sz;obtain⟨eA,fb,fc,fA⟩:=hb1.lay (w.heap.size);obtain⟨ff,fE,fR,fS⟩:=hb1.lay (q));rw[HW.out])))))
  all_goals
   go_returns
   exact⟨by rw[RR.out];first | done | rfl,bl⟩):p:=h
theorem Cv {p:Prop} (h:p:=by
  have HH:=hide hh
  clear hh
  go_enter Tryz.func27,Tryz.ntmps27
  have fg:=True.intro
  repeat (any_goals ((first | clear fg | go_quiet (fail));(try go_wp2_with (first | (go_at_call 83;refine (iU _ _ hv).mono ?_;rintro e w1 ⟨rfl,hb1⟩;(have hz1:=hb1.sz;obtain⟨eA,fb,fc,fA⟩:=hb1.lay (w.heap.size);obtain⟨ff,fE,fR,fS⟩:=hb1.lay (q));rw[HW.out]) | (go_at_call 39;refine (ql (cv.mk x0 x1 x2 x3 x4 x5 x6 x7 x8 x9 x10 x11 x12) _ _ S q _ (cG.bel bl jF.out)).mono ?_;rintro e w2 ⟨rfl,hb2⟩;(have hz2:=hb2.sz;obtain⟨gO,lJ,mG,mH⟩:=hb2.lay (w.heap.size);obtain⟨iW,nT,sn,su⟩:=hb2.lay (q));rw[HH.out])))))
  all_goals
   go_returns
   exact⟨by rw[RR.out];first | done | rfl,bl⟩):p:=h
theorem rT {p:Prop} (h:p:=by
  go_enter Tryz.func41,Tryz.ntmps41
  go_wp2_with (fail)
  repeat (any_goals (go_quiet (fail);(try go_wp2_with (fail))))
  all_goals
   go_returns
   exact⟨by rw[RR.out];first | done | rfl,bl⟩):p:=h
theorem rk5 {p:Prop} (h:p:=by
  have iK:decide ((keys.length:Int)<=40)=true:=ar aB
  have iL:decide (40<(keys.length:Int))=false:=aq aB
  have xy:((its.length:Int)==(keys.length:Int)+1)=true:=aE
  have rS:((its.length:Int)==1+(keys.length:Int))=true:=aE
  have Bq:((its.length:Int)==wrap64 (1+(keys.length:Int)))=true:=by rw[yb aB aB];exact ar kt
  have oh:=hide iZ
  have mj:=hide gQ
  have kB:=hide fu
  clear dH fM iZ gQ kt fu
  go_enter Tryz.func41,Tryz.ntmps41
  have fg:=True.intro
  repeat (any_goals ((first | clear fg | go_quiet (fail));(try go_wp2_with (first | (go_at_call 96;(with_reducible refine (oG keys S' _ _ _ (Row.bel bl HRk.out)).mono ?_);rintro e wdk ⟨rfl,pT⟩;rw[oh.out];(have Sa:=pT.sz;obtain⟨Br,Bs,Bt,Bu⟩:=pT.lay (w.heap.size);obtain⟨Bv,Bw,Bx,Bz⟩:=pT.lay (q))) | (go_at_call 40;(with_reducible refine (gP (cv.mk x0 x1 x2 x3 x4 x5 x6 x7 x8 x9 x10 x11 x12) keys S S' q _ _ _ (cG.bel bl HS.out) (Row.bel bl HRk.out)).mono ?_);rintro e wak ⟨rfl,pP⟩;rw[mj.out];(have Pz:=pP.sz;obtain⟨AE,AF,AG,AL⟩:=pP.lay (w.heap.size);obtain⟨AM,AO,AP,AQ⟩:=pP.lay (q))) | (go_at_call 40;(with_reducible refine (gP (cv.mk x0 x1 x2 x3 x4 x5 x6 x7 x8 x9 x10 x11 x12) its S S' q _ _ _ (cG.bel bl HS.out) (Row.bel bl lk.out)).mono ?_);rintro e Py ⟨rfl,iY⟩;rw[kB.out];(have AD:=iY.sz;obtain⟨pH,pI,pJ,pK⟩:=iY.lay (w.heap.size);obtain⟨pL,pM,pN,pO⟩:=iY.lay (q)))))))
  all_goals
   go_returns
   exact⟨by rw[RR.out];first | done | rfl,bl⟩):p:=h
theorem rk6 {p:Prop} (h:p:=by
  obtain⟨m,rfl,m1,hm,hbw⟩:=hrel
  have hw1:m<s.size->IntKind.i64.wrap ((m:Int)+1)=(m:Int)+1:=fun _=>by rw[IntKind.wrap_i64];omega
  by_cases hc:m<s.size/\byteAt s m=32
  ·
   obtain⟨h1,h2⟩:=hc
   have hd:decide ((m:Int)<(s.size:Int))=true:=aD
   have hB:=mo s m h1
   rw[h2]at hB
   have hE:=hide (YS h1 h2)
   go_wp2_with (fail)
   exact⟨⟨m+1,rfl,h1,hide (hE.out.trans hm.out),hbw⟩,by simp only[intOf];omega⟩
  ·
   have hnot:=hide hc
   have hI:Hid (qh s=m):=by rw[<-hm.out];exact abC hc
   clear hc hm
   by_cases h1:m<s.size
   have hd:decide ((m:Int)<(s.size:Int))=true:=aD
   have hB:=hide (mo s m h1)
   have h2:¬s[m].toNat=32:=by rw[hB.out];exact fun e=>hnot.out ⟨h1,e⟩
   go_wp2_with (fail)
   rotate_left
   have hd:decide ((m:Int)<(s.size:Int))=false:=aD
   go_wp2_with (fail)
   all_goals
    go_loopw [5] (fun v wr=>∃z:Nat,v=.int .i64 z/\z<=s.size/\m<=z/\Hid (tr s m z=sU s)/\cE w wr) (fun v _=>(intOf v).toNat)
    case atStart=>exact⟨s.size,rfl,by omega,by omega,by unfold sU;rw[hI.out];rfl,bl⟩
    case round =>
     clear hw1
     obtain⟨z,rfl,z1,z2,hz,hbw⟩:=hrel
     have hw1:m<z->IntKind.i64.wrap ((z:Int) - 1)=(z:Int) - 1:=fun _=>by rw[IntKind.wrap_i64];omega
     by_cases hc:m<z/\byteAt s (z - 1)=32
     ·
      obtain⟨g1,g2⟩:=hc
      have hd2:decide ((m:Int)<(z:Int))=true:=aD
      have hlt:z - 1<s.size:=aB
      have hB2:=mo s (z - 1) hlt
      rw[g2]at hB2
      have hE:=hide (YT g1 g2)
      have i1:0<=(z:Int) - 1:=aB
      have i2:(z:Int) - 1<s.size:=aB
      go_wp2_with (fail)
      clear hw1
      exact⟨⟨z - 1,by congr 1;omega,by omega,by omega,hide (hE.out.trans hz.out),hbw⟩,by simp only[intOf];omega⟩
     ·
      have hZ:Hid (sU s=z):=by rw[<-hz.out];exact abE hc
      have afI:=hide hc
      clear hc hz
      by_cases g1:m<z
      ·
       (try (exfalso;omega))
       all_goals
        have h1:m<s.size:=aB
        have hB:=hide (mo s m h1)
        have hd2:decide ((m:Int)<(z:Int))=true:=aD
        have hlt:z - 1<s.size:=aB
        have hB2:=hide (mo s (z - 1) hlt)
        have g2:¬s[z - 1].toNat=32:=by rw[hB2.out];exact fun e=>afI.out ⟨g1,e⟩
        have i1:0<=(z:Int) - 1:=aB
        have i2:(z:Int) - 1<s.size:=aB
        have hlt':qh s<sU s:=by rw[hI.out,hZ.out];exact g1
        rcases (show byteAt s m=45\/byteAt s m=43\/(¬byteAt s m=45/\¬byteAt s m=43) by omega)with hs1 | hs1 | hs1
        ·
         obtain⟨A1,YO⟩:=GD hlt' (by rw[hI.out];exact hs1)
         have A2:=hide YO
         clear YO
         rw[hI.out]at A1
         have hM:s[m].toNat=45:=hB.out.trans hs1
         have HA:=hide A1
         clear A1
         by_cases k1:z<(m+1)+1
         ·
          have hF:=hide (tN (s:=s) (by rw[HA.out,hZ.out];exact k1))
          go_wp2_with (fail)
          all_goals
           go_returns
           rw[hF.out]
           exact⟨rfl,bl⟩
         ·
          by_cases k2:(m+1)+12<z
          ·
           have hF:=hide (zM (s:=s) (by rw[HA.out,hZ.out];exact k2))
           go_wp2_with (fail)
           all_goals
            go_returns
            rw[hF.out]
            exact⟨rfl,bl⟩
          ·
           go_wp2_with (fail)
           go_loopw [4,7] (fun av nv wr=>∃(a:Nat) (v:Int),av=.int .i64 a/\nv=.int .i64 v/\a<=z/\(m+1)<=a/\Hid (dv s z a v=dv s z (m+1) 0)/\VB v (a - (m+1))/\cE w wr) (fun av _ _=>z - (intOf av).toNat)
           case atStart=>exact⟨m+1,0,rfl,rfl,by omega,by omega,rfl,by rw[Nat.sub_self];exact VB.zero,bl⟩
           case round =>
            clear hw1
            obtain⟨a,v,rfl,rfl,a1,a2,hv,hb,hbw⟩:=hrel
            obtain⟨v1,v2⟩:=hb.le aB
            by_cases q1:a<z
            ·
             have hd3:decide ((a:Int)<(z:Int))=true:=aD
             have hlt3:a<s.size:=aB
             have hB3:=hide (mo s a hlt3)
             by_cases q2:48<=byteAt s a/\byteAt s a<=57
             ·
              have hE3:=hide (GC (v:=v) q1 q2)
              have hb2:=hb.step q2.1 q2.2
              have l1:48<=s[a].toNat:=by rw[hB3.out];exact q2.1
              have l2:s[a].toNat<=57:=by rw[hB3.out];exact q2.2
              have w3:IntKind.u8.wrap ((s[a].toNat:Int) - 48)=(s[a].toNat:Int) - 48:=b9
              obtain⟨q3,q4⟩:=q2
              go_wp2_with (fail)
              refine⟨⟨a+1,10*v+byteAt s a - 48,rfl,by congr 1;rw[hB3.out];(try omega),by omega,by omega,hide (hE3.out.trans hv.out),by rw[show a+1 - (m+1)=a - (m+1)+1 by omega];exact hb2,hbw⟩,by simp only[intOf];omega⟩
             ·
              have hF:=hide (Di (s:=s) bN)
              rcases (show s[a].toNat<48\/57<s[a].toNat by rw[hB3.out];omega)with l1 | l1
              all_goals
               go_wp2_with (fail)
               all_goals
                go_returns
                rw[hF.out]
                exact⟨rfl,bl⟩
            ·
             have hd3:decide ((a:Int)<(z:Int))=false:=aD
             have hF:=hide (zN (s:=s) (v:=v) (by rw[hZ.out,HA.out];exact k1) (by rw[hZ.out,HA.out];exact k2) bQ)
             go_wp2_with (fail)
             all_goals
              go_returns
              rw[hF.out,A2.out]
              exact⟨rfl,bl⟩
        ·
         obtain⟨A1,YO⟩:=JQ hlt' (by rw[hI.out];exact hs1)
         have A2:=hide YO
         clear YO
         rw[hI.out]at A1
         have hM:s[m].toNat=43:=hB.out.trans hs1
         have HA:=hide A1
         clear A1
         by_cases k1:z<(m+1)+1
         ·
          have hF:=hide (tN (s:=s) (by rw[HA.out,hZ.out];exact k1))
          go_wp2_with (fail)
          all_goals
           go_returns
           rw[hF.out]
           exact⟨rfl,bl⟩
         ·
          by_cases k2:(m+1)+12<z
          ·
           have hF:=hide (zM (s:=s) (by rw[HA.out,hZ.out];exact k2))
           go_wp2_with (fail)
           all_goals
            go_returns
            rw[hF.out]
            exact⟨rfl,bl⟩
          ·
           go_wp2_with (fail)
           go_loopw [4,7] (fun av nv wr=>∃(a:Nat) (v:Int),av=.int .i64 a/\nv=.int .i64 v/\a<=z/\(m+1)<=a/\Hid (dv s z a v=dv s z (m+1) 0)/\VB v (a - (m+1))/\cE w wr) (fun av _ _=>z - (intOf av).toNat)
           case atStart=>exact⟨m+1,0,rfl,rfl,by omega,by omega,rfl,by rw[Nat.sub_self];exact VB.zero,bl⟩
           case round =>
            clear hw1
            obtain⟨a,v,rfl,rfl,a1,a2,hv,hb,hbw⟩:=hrel
            obtain⟨v1,v2⟩:=hb.le aB
            by_cases q1:a<z
            ·
             have hd3:decide ((a:Int)<(z:Int))=true:=aD
             have hlt3:a<s.size:=aB
             have hB3:=hide (mo s a hlt3)
             by_cases q2:48<=byteAt s a/\byteAt s a<=57
             ·
              have hE3:=hide (GC (v:=v) q1 q2)
              have hb2:=hb.step q2.1 q2.2
              have l1:48<=s[a].toNat:=by rw[hB3.out];exact q2.1
              have l2:s[a].toNat<=57:=by rw[hB3.out];exact q2.2
              have w3:IntKind.u8.wrap ((s[a].toNat:Int) - 48)=(s[a].toNat:Int) - 48:=b9
              obtain⟨q3,q4⟩:=q2
              go_wp2_with (fail)
              refine⟨⟨a+1,10*v+byteAt s a - 48,rfl,by congr 1;rw[hB3.out];(try omega),by omega,by omega,hide (hE3.out.trans hv.out),by rw[show a+1 - (m+1)=a - (m+1)+1 by omega];exact hb2,hbw⟩,by simp only[intOf];omega⟩
             ·
              have hF:=hide (Di (s:=s) bN)
              rcases (show s[a].toNat<48\/57<s[a].toNat by rw[hB3.out];omega)with l1 | l1
              all_goals
               go_wp2_with (fail)
               all_goals
                go_returns
                rw[hF.out]
                exact⟨rfl,bl⟩
            ·
             have hd3:decide ((a:Int)<(z:Int))=false:=aD
             have hF:=hide (zN (s:=s) (v:=v) (by rw[hZ.out,HA.out];exact k1) (by rw[hZ.out,HA.out];exact k2) bQ)
             go_wp2_with (fail)
             all_goals
              go_returns
              rw[hF.out,A2.out]
              exact⟨rfl,bl⟩
        ·
         obtain⟨A1,YO⟩:=GG (by rw[hI.out];exact hs1.1) (by rw[hI.out];exact hs1.2)
         have A2:=hide YO
         clear YO
         rw[hI.out]at A1
         have hM1:¬s[m].toNat=45:=fun e=>hs1.1 (hB.out.symm.trans e)
         have hM2:¬s[m].toNat=43:=fun e=>hs1.2 (hB.out.symm.trans e)
         have hM3:((s[m].toNat:Int)==45)=false:=aD
         have hM4:((s[m].toNat:Int)==43)=false:=aD
         have HA:=hide A1
         clear A1
         by_cases k1:z<(m)+1
         ·
          have hF:=hide (tN (s:=s) (by rw[HA.out,hZ.out];exact k1))
          go_wp2_with (fail)
          all_goals
           go_returns
           rw[hF.out]
           exact⟨rfl,bl⟩
         ·
          by_cases k2:(m)+12<z
          ·
           have hF:=hide (zM (s:=s) (by rw[HA.out,hZ.out];exact k2))
           go_wp2_with (fail)
           all_goals
            go_returns
            rw[hF.out]
            exact⟨rfl,bl⟩
          ·
           go_wp2_with (fail)
           go_loopw [4,7] (fun av nv wr=>∃(a:Nat) (v:Int),av=.int .i64 a/\nv=.int .i64 v/\a<=z/\(m)<=a/\Hid (dv s z a v=dv s z (m) 0)/\VB v (a - (m))/\cE w wr) (fun av _ _=>z - (intOf av).toNat)
           case atStart=>exact⟨m,0,rfl,rfl,by omega,by omega,rfl,by rw[Nat.sub_self];exact VB.zero,bl⟩
           case round =>
            clear hw1
            obtain⟨a,v,rfl,rfl,a1,a2,hv,hb,hbw⟩:=hrel
            obtain⟨v1,v2⟩:=hb.le aB
            by_cases q1:a<z
            ·
             have hd3:decide ((a:Int)<(z:Int))=true:=aD
             have hlt3:a<s.size:=aB
             have hB3:=hide (mo s a hlt3)
             by_cases q2:48<=byteAt s a/\byteAt s a<=57
             ·
              have hE3:=hide (GC (v:=v) q1 q2)
              have hb2:=hb.step q2.1 q2.2
              have l1:48<=s[a].toNat:=by rw[hB3.out];exact q2.1
              have l2:s[a].toNat<=57:=by rw[hB3.out];exact q2.2
              have w3:IntKind.u8.wrap ((s[a].toNat:Int) - 48)=(s[a].toNat:Int) - 48:=b9
              obtain⟨q3,q4⟩:=q2
              go_wp2_with (fail)
              refine⟨⟨a+1,10*v+byteAt s a - 48,rfl,by congr 1;rw[hB3.out];(try omega),by omega,by omega,hide (hE3.out.trans hv.out),by rw[show a+1 - (m)=a - (m)+1 by omega];exact hb2,hbw⟩,by simp only[intOf];omega⟩
             ·
              have hF:=hide (Di (s:=s) bN)
              rcases (show s[a].toNat<48\/57<s[a].toNat by rw[hB3.out];omega)with l1 | l1
              all_goals
               go_wp2_with (fail)
               all_goals
                go_returns
                rw[hF.out]
                exact⟨rfl,bl⟩
            ·
             have hd3:decide ((a:Int)<(z:Int))=false:=aD
             have hF:=hide (zN (s:=s) (v:=v) (by rw[hZ.out,HA.out];exact k1) (by rw[hZ.out,HA.out];exact k2) bQ)
             go_wp2_with (fail)
             all_goals
              go_returns
              rw[hF.out,A2.out]
              exact⟨rfl,bl⟩
      ·
       have hd2:decide ((m:Int)<(z:Int))=false:=aD
       have hF:=hide (tN (s:=s) (by rw[(JP (by rw[hI.out,hZ.out];exact g1)).1,hI.out,hZ.out];omega))
       go_wp2_with (fail)
       all_goals
        go_returns
        rw[hF.out]
        exact⟨rfl,bl⟩):p:=h
theorem rk7 {p:Prop} (h:p:=by
  go_enter Tryz.func41,Tryz.ntmps41
  have fg:=True.intro
  repeat (any_goals ((first | clear fg | go_quiet (fail));(try go_wp2_with (first | (go_at_call 40;(with_reducible refine (gP (cv.mk x0 x1 x2 x3 x4 x5 x6 x7 x8 x9 x10 x11 x12) its S S' q _ _ _ (cG.bel bl HS.out) (Row.bel bl lk.out)).mono ?_);rintro e Py ⟨rfl,iY⟩;rw[kB.out];(have AD:=iY.sz;obtain⟨pH,pI,pJ,pK⟩:=iY.lay (w.heap.size);obtain⟨pL,pM,pN,pO⟩:=iY.lay (q)))))))
  all_goals
   go_returns
   exact⟨by rw[RR.out];first | done | rfl,bl⟩):p:=h
theorem sP {p:Prop} (h:p:=by
  go_enter Tryz.func105,Tryz.ntmps105
  go_wp2_with (fail)
  repeat (any_goals (go_quiet (fail);(try go_wp2_with (fail))))
  all_goals
   go_returns
   exact⟨by rw[RR.out];first | done | rfl,bl⟩):p:=h
theorem rk9 {p:Prop} (h:p:=by
  go_enter Tryz.func41,Tryz.ntmps41
  have fg:=True.intro
  repeat (any_goals ((first | clear fg | go_quiet (fail));(try go_wp2_with (first | (go_at_call 96;(with_reducible refine (oG keys S' _ _ _ (Row.bel bl HRk.out)).mono ?_);rintro e wdk ⟨rfl,pT⟩;rw[oh.out];(have Sa:=pT.sz;obtain⟨Br,Bs,Bt,Bu⟩:=pT.lay (w.heap.size);obtain⟨Bv,Bw,Bx,Bz⟩:=pT.lay (q))) | (go_at_call 40;(with_reducible refine (gP (cv.mk x0 x1 x2 x3 x4 x5 x6 x7 x8 x9 x10 x11 x12) keys S S' q _ _ _ (cG.bel bl HS.out) (Row.bel bl HRk.out)).mono ?_);rintro e wak ⟨rfl,pP⟩;rw[mj.out];(have Pz:=pP.sz;obtain⟨AE,AF,AG,AL⟩:=pP.lay (w.heap.size);obtain⟨AM,AO,AP,AQ⟩:=pP.lay (q)))))))
  all_goals
   go_returns
   exact⟨by rw[RR.out];first | done | rfl,bl⟩):p:=h
theorem aa1 {p:Prop} (h:p:=by
  go_enter Tryz.func41,Tryz.ntmps41
  have fg:=True.intro
  repeat (any_goals ((first | clear fg | go_quiet (fail));(try go_wp2_with (first | (go_at_call 27;(with_reducible refine (eB (cv.mk x0 x1 x2 x3 x4 x5 x6 x7 x8 x9 x10 x11 x12) ⟨19,cM,cN,cO,cP,dn⟩ S q _ (cG.bel bl HS.out) ⟨eY,eG,fa,zI.out,er,gw⟩).mono ?_);rintro e xO ⟨rfl,eM⟩;rw[j6.out];(have mX:=eM.sz;obtain⟨iB,iC,iD,iE⟩:=eM.lay (w.heap.size);obtain⟨iF,iG,iH,iI⟩:=eM.lay (q);obtain⟨qx,qy,qz,qA⟩:=eM.lay (b1))) | (go_at_call 27;(with_reducible refine (eB (cv.mk x0 x1 x2 x3 x4 x5 x6 x7 x8 x9 x10 x11 x12) ⟨19,dN,dQ,dV,dW,dZ⟩ S q _ (cG.bel bl HS.out) ⟨kY,km,lh,Cx.out,kn,lH⟩).mono ?_);rintro e Sm ⟨rfl,jj⟩;rw[oe.out];(have BN:=jj.sz;obtain⟨qB,qC,qD,qE⟩:=jj.lay (w.heap.size);obtain⟨qF,qG,qH,qI⟩:=jj.lay (q);obtain⟨yd,ye,yf,yg⟩:=jj.lay (b1)))))))
  all_goals
   go_returns
   exact⟨by rw[RR.out];first | done | rfl,bl⟩):p:=h
theorem oM {p:Prop} (h:p:=by
  simp only[cV.val]
  unfold maxLen at ht
  go_enter Tryz.func107,Tryz.ntmps107
  go_wp2
  all_goals
   go_returns
   go_light
   refine⟨?_,bl⟩
   simp only[Array.getD_eq_getD_getElem?,List.getElem?_toArray,List.getElem?_cons_succ,List.getElem?_cons_zero,Option.getD_some]
   have hzz:=uH t
   first | (simp_all [dS];done) | (simp_all [dS];omega) | (unfold dS;grind)):p:=h
theorem oN {p:Prop} (h:p:=by
  simp only[cV.val]
  unfold maxLen at ht
  go_enter Tryz.func83,Tryz.ntmps83
  go_wp2
  all_goals
   go_returns
   go_light
   refine⟨?_,bl⟩
   simp only[Array.getD_eq_getD_getElem?,List.getElem?_toArray,List.getElem?_cons_succ,List.getElem?_cons_zero,Option.getD_some]
   have hzz:=uH t
   first | (simp_all [dS];done) | (simp_all [dS];omega) | (unfold dS;grind)):p:=h
theorem afg {p:Prop} (h:p:=by
  simp only[iT,Act.put,aa,ab,ae,af,ag,ah]
  refine (cB (i:=0) (i2:=1) (o:=_) rfl ?s0 (cB (i:=1) (i2:=2) (o:=_) rfl ?s1 (cB (i:=2) (i2:=3) (o:=_) rfl ?s2 (cB (i:=3) (i2:=4) (o:=_) rfl ?s3 (cB (i:=4) (i2:=5) (o:=_) rfl ?s4 (cB (i:=5) (i2:=6) (o:=_) rfl ?s5 (cB (i:=6) (i2:=7) (o:=_) rfl ?s6 (cB (i:=7) (i2:=8) (o:=_) rfl ?s7 (cB (i:=8) (i2:=9) (o:=_) rfl ?s8 (cB (i:=9) (i2:=10) (o:=_) rfl ?s9 (cB (i:=10) (i2:=11) (o:=_) rfl ?s10 (cB (i:=11) (i2:=12) (o:=_) rfl ?s11 (cB (i:=12) (i2:=13) (o:=_) rfl ?s12 (gD aF))))))))))))))
  case s0 =>
   intro uf wa s hs ha cl hJ K hK
   obtain⟨dt,cQ,cT,dh,du,fi,fj,dM,eD,ei,fw,fm,dC,eO⟩:=hJ
   simp only[Act.put,aa,ab,ae,af,ag,ah]at hK |-
   go_simp
   exact hK.out _ _ ⟨dt,fun _=>rfl,cT,dh,du,fi,fj,dM,eD,ei,fw,fm,dC,eO⟩
  case s1 =>
   intro uf wa s hs ha cl hJ K hK
   obtain⟨dt,cQ,cT,dh,du,fi,fj,dM,eD,ei,fw,fm,dC,eO⟩:=hJ
   have nm:=cQ (ha 0 aC)
   simp only[Act.put,aa,ab,ae,af,ag,ah]at hK |-
   rw[nm]at hK |-
   go_simp
   exact hK.out _ _ ⟨dt,cQ,fun _=>rfl,dh,du,fi,fj,dM,eD,ei,fw,fm,dC,eO⟩
  case s2 =>
   intro uf wa s hs ha cl hJ K hK
   obtain⟨dt,cQ,cT,dh,du,fi,fj,dM,eD,ei,fw,fm,dC,eO⟩:=hJ
   have pS:=cT (ha 1 aC)
   simp only[Act.put,aa,ab,ae,af,ag,ah]at hK |-
   rw[pS]at hK |-
   go_simp
   exact hK.out _ _ ⟨dt,cQ,cT,fun _=>rfl,du,fi,fj,dM,eD,ei,fw,fm,dC,eO⟩
  case s3 =>
   intro uf wa s hs ha cl hJ K hK
   obtain⟨dt,cQ,cT,dh,du,fi,fj,dM,eD,ei,fw,fm,dC,eO⟩:=hJ
   have sd:=dh (ha 2 aC)
   simp only[Act.put,aa,ab,ae,af,ag,ah]at hK |-
   rw[sd]at hK |-
   have q1:=(dt.box q hq2 _).trans lN
   go_simp
   exact hK.out _ _ ⟨dt,cQ,cT,dh,fun _=>rfl,fi,fj,dM,eD,ei,fw,fm,dC,eO⟩
  case s4 =>
   intro uf wa s hs ha cl hJ K hK
   obtain⟨dt,cQ,cT,dh,du,fi,fj,dM,eD,ei,fw,fm,dC,eO⟩:=hJ
   simp only[Act.put,aa,ab,ae,af,ag,ah]at hK |-
   go_simp
   exact hK.out _ _ ⟨dt,cQ,cT,dh,du,fun _=>rfl,fj,dM,eD,ei,fw,fm,dC,eO⟩
  case s5 =>
   intro uf wa s hs ha cl hJ K hK
   obtain⟨dt,cQ,cT,dh,du,fi,fj,dM,eD,ei,fw,fm,dC,eO⟩:=hJ
   have Iw:=fi (ha 4 aC)
   simp only[Act.put,aa,ab,ae,af,ag,ah]at hK |-
   rw[Iw]at hK |-
   have q1:=(dt.box r4 Z5.out.lt _).trans Z5.out.c1
   go_simp
   exact hK.out _ _ ⟨dt,cQ,cT,dh,du,fi,fun _=>rfl,dM,eD,ei,fw,fm,dC,eO⟩
  case s6 =>
   intro uf wa s hs ha cl hJ K hK
   obtain⟨dt,cQ,cT,dh,du,fi,fj,dM,eD,ei,fw,fm,dC,eO⟩:=hJ
   have tE:=du (ha 3 aC)
   have Ix:=fj (ha 5 aC)
   simp only[Act.put,aa,ab,ae,af,ag,ah]at hK |-
   rw[tE]at hK |-
   rw[Ix]at hK |-
   go_simp
   exact hK.out _ _ ⟨dt,cQ,cT,dh,du,fi,fj,fun _=>rfl,eD,ei,fw,fm,dC,eO⟩
  case s7 =>
   intro uf wa s hs ha cl hJ K hK
   obtain⟨dt,cQ,cT,dh,du,fi,fj,dM,eD,ei,fw,fm,dC,eO⟩:=hJ
   have xM:=dM (ha 6 aC)
   simp only[Act.put,aa,ab,ae,af,ag,ah]at hK |-
   rw[xM]at hK |-
   go_simp
   exact hK.out _ _ ⟨dt,cQ,cT,dh,du,fi,fj,dM,fun _=>rfl,ei,fw,fm,dC,eO⟩
  case s8 =>
   intro uf wa s hs ha cl hJ K hK
   obtain⟨dt,cQ,cT,dh,du,fi,fj,dM,eD,ei,fw,fm,dC,eO⟩:=hJ
   have Ef:=eD (ha 7 aC)
   simp only[Act.put,aa,ab,ae,af,ag,ah]at hK |-
   rw[Ef]at hK |-
   have q1:=(dt.box g hg _).trans zE
   go_simp
   exact hK.out _ _ ⟨dt,cQ,cT,dh,du,fi,fj,dM,eD,fun _=>rfl,fw,fm,dC,eO⟩
  case s9 =>
   intro uf wa s hs ha cl hJ K hK
   obtain⟨dt,cQ,cT,dh,du,fi,fj,dM,eD,ei,fw,fm,dC,eO⟩:=hJ
   simp only[Act.put,aa,ab,ae,af,ag,ah]at hK |-
   go_simp
   exact hK.out _ _ ⟨dt,cQ,cT,dh,du,fi,fj,dM,eD,ei,fun _=>rfl,fm,dC,eO⟩
  case s10 =>
   intro uf wa s hs ha cl hJ K hK
   obtain⟨dt,cQ,cT,dh,du,fi,fj,dM,eD,ei,fw,fm,dC,eO⟩:=hJ
   have Iy:=fw (ha 9 aC)
   simp only[Act.put,aa,ab,ae,af,ag,ah]at hK |-
   rw[Iy]at hK |-
   have q1:=(dt.box r4 Z5.out.lt _).trans Z5.out.c2
   go_simp
   exact hK.out _ _ ⟨dt,cQ,cT,dh,du,fi,fj,dM,eD,ei,fw,fun _=>rfl,dC,eO⟩
  case s11 =>
   intro uf wa s hs ha cl hJ K hK
   obtain⟨dt,cQ,cT,dh,du,fi,fj,dM,eD,ei,fw,fm,dC,eO⟩:=hJ
   simp only[Act.put,aa,ab,ae,af,ag,ah]at hK |-
   have q0:=(dt.box r5 pW.out.lt 0).trans pW.out.c0
   have q1:=(dt.box r5 pW.out.lt 1).trans pW.out.c1
   have q2:=(dt.box r5 pW.out.lt 2).trans pW.out.c2
   have q3:=(dt.box r5 pW.out.lt 3).trans pW.out.c3
   have q4:=(dt.box r5 pW.out.lt 4).trans pW.out.c4
   have q5:=(dt.box r5 pW.out.lt 5).trans pW.out.c5
   go_simp
   exact hK.out _ _ ⟨dt,cQ,cT,dh,du,fi,fj,dM,eD,ei,fw,fm,fun _=>rfl,eO⟩
  case s12 =>
   intro uf wa s hs ha cl hJ K hK
   obtain⟨dt,cQ,cT,dh,du,fi,fj,dM,eD,ei,fw,fm,dC,eO⟩:=hJ
   have Bj:=ei (ha 8 aC)
   have Bg:=fm (ha 10 aC)
   simp only[Act.put,aa,ab,ae,af,ag,ah]at hK |-
   rw[Bj]at hK |-
   rw[Bg]at hK |-
   go_simp
   exact hK.out _ _ ⟨dt,cQ,cT,dh,du,fi,fj,dM,eD,ei,fw,fm,dC,fun _=>rfl⟩):p:=h
theorem adQ {p:Prop} (h:p:=by
  clear Fl
  go_enter Tryz.func105,Tryz.ntmps105
  (go_wp2_with (fail))
  repeat (any_goals (go_quiet (fail);(try (go_wp2_with (fail)))))
  refine wp_region_held_drew (S:=fun w'=>w'.cell? ⟨w.heap.size,0,none⟩=some (.int .i64 9)/\w'.cell? ⟨w.heap.size,3,none⟩=some (.slice (some ⟨b1,o1,none⟩) 2 ci)/\w'.cell? ⟨b1,o1,none⟩=some (.int .i64 2)/\w'.cell? ⟨b1,o1+1,none⟩=some (.int .i64 u1)/\w'.cell? ⟨b1,o1+2,none⟩=some (.int .i64 u2)/\w'.cell? ⟨b1,o1+3,none⟩=some (.string u3)/\w'.cell? ⟨b1,o1+4,none⟩=some (.int .i64 u4)/\w'.cell? ⟨b1,o1+5,none⟩=some (.int .i64 u5)/\w'.cell? ⟨b1,o1+6,none⟩=some (.int .i64 1)/\w'.cell? ⟨b1,o1+7,none⟩=some (.int .i64 v1)/\w'.cell? ⟨b1,o1+8,none⟩=some (.int .i64 v2)/\w'.cell? ⟨b1,o1+9,none⟩=some (.string v3)/\w'.cell? ⟨b1,o1+10,none⟩=some (.int .i64 v4)/\w'.cell? ⟨b1,o1+11,none⟩=some (.int .i64 v5)) aC ?_ (fun hHeld=>?_)
  ·
   exact⟨aJ,aJ,(cE.box (W:=w) bl b1 hl1 _).trans db,(cE.box (W:=w) bl b1 hl1 _).trans de,(cE.box (W:=w) bl b1 hl1 _).trans dq,(cE.box (W:=w) bl b1 hl1 _).trans dy,(cE.box (W:=w) bl b1 hl1 _).trans dz,(cE.box (W:=w) bl b1 hl1 _).trans dU,(cE.box (W:=w) bl b1 hl1 _).trans fq,(cE.box (W:=w) bl b1 hl1 _).trans ft,(cE.box (W:=w) bl b1 hl1 _).trans fC,(cE.box (W:=w) bl b1 hl1 _).trans fF,(cE.box (W:=w) bl b1 hl1 _).trans fG,(cE.box (W:=w) bl b1 hl1 _).trans fK⟩
  refine eH 0 ?_
  refine eH 1 ?_
  refine eH 2 ?_
  refine eH 3 ?_
  refine eH 4 ?_
  refine eH 5 ?_
  refine eH 6 ?_
  refine eH 7 ?_
  refine eH 8 ?_
  refine eH 9 ?_
  refine eH 10 ?_
  refine eH 11 ?_
  refine eH 12 ?_
  refine eH 13 ?_
  refine eH 14 ?_
  refine eH 15 ?_
  refine eH 16 ?_
  refine eH 17 ?_
  refine eH 18 ?_
  refine eH 19 ?_
  refine eH 20 ?_
  refine eH 21 ?_
  refine eH 22 ?_
  refine eH 23 ?_
  refine eH 24 ?_
  refine eH 25 ?_
  refine wpAnyH_ready (rs:=[26]) aC aK ?_
  refine AllReadyH.cons (o:=_) rfl (fun K hK=>?_) AllReadyH.nil
  go_simp
  clear hHeld
  (go_at_call 45;(with_reducible refine (gp (cv.mk x0 x1 x2 x3 x4 x5 x6 x7 x8 x9 x10 x11 x12) ⟨2,u1,u2,u3,u4,u5⟩ S q _ (cG.bel bl HS.out) ⟨eY,eG,fa,zI.out,er,gw⟩).mono ?_);rintro e xO ⟨rfl,eM⟩;rw[j6.out];(have mX:=eM.sz;obtain⟨iB,iC,iD,iE⟩:=eM.lay (w.heap.size);obtain⟨iF,iG,iH,iI⟩:=eM.lay (q);obtain⟨qx,qy,qz,qA⟩:=eM.lay (b1)))
  refine hK.out _ _ ?_ (fun hHeld=>?_)
  ·
   exact⟨aJ,aJ,(cE.box (W:=w) bl b1 hl1 _).trans db,(cE.box (W:=w) bl b1 hl1 _).trans de,(cE.box (W:=w) bl b1 hl1 _).trans dq,(cE.box (W:=w) bl b1 hl1 _).trans dy,(cE.box (W:=w) bl b1 hl1 _).trans dz,(cE.box (W:=w) bl b1 hl1 _).trans dU,(cE.box (W:=w) bl b1 hl1 _).trans fq,(cE.box (W:=w) bl b1 hl1 _).trans ft,(cE.box (W:=w) bl b1 hl1 _).trans fC,(cE.box (W:=w) bl b1 hl1 _).trans fF,(cE.box (W:=w) bl b1 hl1 _).trans fG,(cE.box (W:=w) bl b1 hl1 _).trans fK⟩
  clear hK K
  (try simp only[Act.put,aa,ab,ae,af,ag,ah])
  refine eH 27 ?_
  refine eH 28 ?_
  refine eH 29 ?_
  refine eH 30 ?_
  refine eH 31 ?_
  refine eH 32 ?_
  refine eH 33 ?_
  refine wpAnyH_ready (rs:=[34]) aC aK ?_
  refine AllReadyH.cons (o:=_) rfl (fun K hK=>?_) AllReadyH.nil
  go_simp
  clear hHeld
  (go_at_call 45;(with_reducible refine (gp (cv.mk x0 x1 x2 x3 x4 x5 x6 x7 x8 x9 x10 x11 x12) ⟨1,v1,v2,v3,v4,v5⟩ S q _ (cG.bel bl HS.out) ⟨kY,km,lh,Cx.out,kn,lH⟩).mono ?_);rintro e Sm ⟨rfl,jj⟩;rw[oe.out];(have BN:=jj.sz;obtain⟨qB,qC,qD,qE⟩:=jj.lay (w.heap.size);obtain⟨qF,qG,qH,qI⟩:=jj.lay (q);obtain⟨yd,ye,yf,yg⟩:=jj.lay (b1)))
  refine hK.out _ _ ?_ (fun hHeld=>?_)
  ·
   exact⟨aJ,aJ,(cE.box (W:=w) bl b1 hl1 _).trans db,(cE.box (W:=w) bl b1 hl1 _).trans de,(cE.box (W:=w) bl b1 hl1 _).trans dq,(cE.box (W:=w) bl b1 hl1 _).trans dy,(cE.box (W:=w) bl b1 hl1 _).trans dz,(cE.box (W:=w) bl b1 hl1 _).trans dU,(cE.box (W:=w) bl b1 hl1 _).trans fq,(cE.box (W:=w) bl b1 hl1 _).trans ft,(cE.box (W:=w) bl b1 hl1 _).trans fC,(cE.box (W:=w) bl b1 hl1 _).trans fF,(cE.box (W:=w) bl b1 hl1 _).trans fG,(cE.box (W:=w) bl b1 hl1 _).trans fK⟩
  clear hK K
  (try simp only[Act.put,aa,ab,ae,af,ag,ah])
  refine eH 35 ?_
  refine eH 36 ?_
  refine eH 37 ?_
  refine eH 38 ?_
  refine eH 39 ?_
  refine eH 40 ?_
  refine eH 41 ?_
  refine eH 42 ?_
  refine eH 43 ?_
  refine eH 44 ?_
  refine eH 45 ?_
  refine eH 46 ?_
  refine eH 47 ?_
  refine eH 48 ?_
  refine wpAnyH_ready (rs:=[49]) aC aK ?_
  refine AllReadyH.cons (o:=_) rfl (fun K hK=>?_) AllReadyH.nil
  go_simp
  clear hHeld
  (go_at_call 101;refine (oL _ _ _ _).mono ?_;rintro e w9 ⟨rfl,rfl⟩;rw[Xh.out])
  refine hK.out _ _ ?_ (fun hHeld=>?_)
  ·
   exact⟨aJ,aJ,(cE.box (W:=w) bl b1 hl1 _).trans db,(cE.box (W:=w) bl b1 hl1 _).trans de,(cE.box (W:=w) bl b1 hl1 _).trans dq,(cE.box (W:=w) bl b1 hl1 _).trans dy,(cE.box (W:=w) bl b1 hl1 _).trans dz,(cE.box (W:=w) bl b1 hl1 _).trans dU,(cE.box (W:=w) bl b1 hl1 _).trans fq,(cE.box (W:=w) bl b1 hl1 _).trans ft,(cE.box (W:=w) bl b1 hl1 _).trans fC,(cE.box (W:=w) bl b1 hl1 _).trans fF,(cE.box (W:=w) bl b1 hl1 _).trans fG,(cE.box (W:=w) bl b1 hl1 _).trans fK⟩
  clear hK K
  (try simp only[Act.put,aa,ab,ae,af,ag,ah])
  refine eH 50 ?_
  refine eH 51 ?_
  refine wpAnyH_done aC ?_ _
  all_goals (try (go_wp2_with (fail)))
  all_goals
   go_returns
   exact⟨by rw[RR.out];first | done | rfl,bl⟩):p:=h
theorem afd {p:Prop} (h:p:=by
  simp only[iT,Act.put,aa,ab,ae,af,ag,ah]
  refine (cB (i:=0) (i2:=1) (o:=_) rfl ?s0 (cB (i:=1) (i2:=2) (o:=_) rfl ?s1 (cB (i:=2) (i2:=3) (o:=_) rfl ?s2 (cB (i:=3) (i2:=4) (o:=_) rfl ?s3 (cB (i:=4) (i2:=5) (o:=_) rfl ?s4 (cB (i:=5) (i2:=6) (o:=_) rfl ?s5 (cB (i:=6) (i2:=7) (o:=_) rfl ?s6 (cB (i:=7) (i2:=8) (o:=_) rfl ?s7 (cB (i:=8) (i2:=9) (o:=_) rfl ?s8 (cB (i:=9) (i2:=10) (o:=_) rfl ?s9 (cB (i:=10) (i2:=11) (o:=_) rfl ?s10 (cB (i:=11) (i2:=12) (o:=_) rfl ?s11 (gD aF)))))))))))))
  case s0 =>
   intro uf wa s hs ha cl hJ K hK
   obtain⟨dt,fw,fm,cQ,cT,dh,du,fi,fj,dM,eD,ei,dX⟩:=hJ
   simp only[Act.put,aa,ab,ae,af,ag,ah]at hK |-
   go_simp
   exact hK.out _ _ ⟨dt,fun _=>rfl,fm,cQ,cT,dh,du,fi,fj,dM,eD,ei,dX⟩
  case s1 =>
   intro uf wa s hs ha cl hJ K hK
   obtain⟨dt,fw,fm,cQ,cT,dh,du,fi,fj,dM,eD,ei,dX⟩:=hJ
   have Iy:=fw (ha 0 aC)
   simp only[Act.put,aa,ab,ae,af,ag,ah]at hK |-
   rw[Iy]at hK |-
   have q1:=(dt.box r4 R4.out.lt _).trans R4.out.c2
   go_simp
   exact hK.out _ _ ⟨dt,fw,fun _=>rfl,cQ,cT,dh,du,fi,fj,dM,eD,ei,dX⟩
  case s2 =>
   intro uf wa s hs ha cl hJ K hK
   obtain⟨dt,fw,fm,cQ,cT,dh,du,fi,fj,dM,eD,ei,dX⟩:=hJ
   simp only[Act.put,aa,ab,ae,af,ag,ah]at hK |-
   go_simp
   exact hK.out _ _ ⟨dt,fw,fm,fun _=>rfl,cT,dh,du,fi,fj,dM,eD,ei,dX⟩
  case s3 =>
   intro uf wa s hs ha cl hJ K hK
   obtain⟨dt,fw,fm,cQ,cT,dh,du,fi,fj,dM,eD,ei,dX⟩:=hJ
   have nm:=cQ (ha 2 aC)
   simp only[Act.put,aa,ab,ae,af,ag,ah]at hK |-
   rw[nm]at hK |-
   go_simp
   exact hK.out _ _ ⟨dt,fw,fm,cQ,fun _=>rfl,dh,du,fi,fj,dM,eD,ei,dX⟩
  case s4 =>
   intro uf wa s hs ha cl hJ K hK
   obtain⟨dt,fw,fm,cQ,cT,dh,du,fi,fj,dM,eD,ei,dX⟩:=hJ
   have pS:=cT (ha 3 aC)
   simp only[Act.put,aa,ab,ae,af,ag,ah]at hK |-
   rw[pS]at hK |-
   go_simp
   exact hK.out _ _ ⟨dt,fw,fm,cQ,cT,fun _=>rfl,du,fi,fj,dM,eD,ei,dX⟩
  case s5 =>
   intro uf wa s hs ha cl hJ K hK
   obtain⟨dt,fw,fm,cQ,cT,dh,du,fi,fj,dM,eD,ei,dX⟩:=hJ
   have sd:=dh (ha 4 aC)
   simp only[Act.put,aa,ab,ae,af,ag,ah]at hK |-
   rw[sd]at hK |-
   have q1:=(dt.box q hq _).trans lN
   go_simp
   exact hK.out _ _ ⟨dt,fw,fm,cQ,cT,dh,fun _=>rfl,fi,fj,dM,eD,ei,dX⟩
  case s6 =>
   intro uf wa s hs ha cl hJ K hK
   obtain⟨dt,fw,fm,cQ,cT,dh,du,fi,fj,dM,eD,ei,dX⟩:=hJ
   simp only[Act.put,aa,ab,ae,af,ag,ah]at hK |-
   go_simp
   exact hK.out _ _ ⟨dt,fw,fm,cQ,cT,dh,du,fun _=>rfl,fj,dM,eD,ei,dX⟩
  case s7 =>
   intro uf wa s hs ha cl hJ K hK
   obtain⟨dt,fw,fm,cQ,cT,dh,du,fi,fj,dM,eD,ei,dX⟩:=hJ
   have Iw:=fi (ha 6 aC)
   simp only[Act.put,aa,ab,ae,af,ag,ah]at hK |-
   rw[Iw]at hK |-
   have q1:=(dt.box r4 R4.out.lt _).trans R4.out.c1
   go_simp
   exact hK.out _ _ ⟨dt,fw,fm,cQ,cT,dh,du,fi,fun _=>rfl,dM,eD,ei,dX⟩
  case s8 =>
   intro uf wa s hs ha cl hJ K hK
   obtain⟨dt,fw,fm,cQ,cT,dh,du,fi,fj,dM,eD,ei,dX⟩:=hJ
   have tE:=du (ha 5 aC)
   have Ix:=fj (ha 7 aC)
   simp only[Act.put,aa,ab,ae,af,ag,ah]at hK |-
   rw[tE]at hK |-
   rw[Ix]at hK |-
   go_simp
   exact hK.out _ _ ⟨dt,fw,fm,cQ,cT,dh,du,fi,fj,fun _=>rfl,eD,ei,dX⟩
  case s9 =>
   intro uf wa s hs ha cl hJ K hK
   obtain⟨dt,fw,fm,cQ,cT,dh,du,fi,fj,dM,eD,ei,dX⟩:=hJ
   have xM:=dM (ha 8 aC)
   simp only[Act.put,aa,ab,ae,af,ag,ah]at hK |-
   rw[xM]at hK |-
   go_simp
   exact hK.out _ _ ⟨dt,fw,fm,cQ,cT,dh,du,fi,fj,dM,fun _=>rfl,ei,dX⟩
  case s10 =>
   intro uf wa s hs ha cl hJ K hK
   obtain⟨dt,fw,fm,cQ,cT,dh,du,fi,fj,dM,eD,ei,dX⟩:=hJ
   have Ef:=eD (ha 9 aC)
   simp only[Act.put,aa,ab,ae,af,ag,ah]at hK |-
   rw[Ef]at hK |-
   have q1:=(dt.box g hg _).trans zE
   go_simp
   exact hK.out _ _ ⟨dt,fw,fm,cQ,cT,dh,du,fi,fj,dM,eD,fun _=>rfl,dX⟩
  case s11 =>
   intro uf wa s hs ha cl hJ K hK
   obtain⟨dt,fw,fm,cQ,cT,dh,du,fi,fj,dM,eD,ei,dX⟩:=hJ
   have Bj:=ei (ha 10 aC)
   simp only[Act.put,aa,ab,ae,af,ag,ah]at hK |-
   rw[Bj]at hK |-
   go_simp
   exact hK.out _ _ ⟨dt,fw,fm,cQ,cT,dh,du,fi,fj,dM,eD,ei,fun _=>rfl⟩):p:=h
theorem afi {p:Prop} (h:p:=by
  simp only[iT,Act.put,aa,ab,ae,af,ag,ah]
  refine (cB (i:=0) (i2:=1) (o:=_) rfl ?s0 (cB (i:=1) (i2:=2) (o:=_) rfl ?s1 (cB (i:=2) (i2:=3) (o:=_) rfl ?s2 (cB (i:=3) (i2:=4) (o:=_) rfl ?s3 (cB (i:=4) (i2:=5) (o:=_) rfl ?s4 (cB (i:=5) (i2:=6) (o:=_) rfl ?s5 (cB (i:=6) (i2:=7) (o:=_) rfl ?s6 (cB (i:=7) (i2:=8) (o:=_) rfl ?s7 (cB (i:=8) (i2:=9) (o:=_) rfl ?s8 (gD aF))))))))))
  case s0 =>
   intro uf wa s hs ha cl hJ K hK
   obtain⟨dt,cQ,cT,dh,du,fi,fj,dM,ju,pX⟩:=hJ
   simp only[Act.put,aa,ab,ae,af,ag,ah]at hK |-
   go_simp
   exact hK.out _ _ ⟨dt,fun _=>rfl,cT,dh,du,fi,fj,dM,ju,pX⟩
  case s1 =>
   intro uf wa s hs ha cl hJ K hK
   obtain⟨dt,cQ,cT,dh,du,fi,fj,dM,ju,pX⟩:=hJ
   have nm:=cQ (ha 0 aC)
   simp only[Act.put,aa,ab,ae,af,ag,ah]at hK |-
   rw[nm]at hK |-
   go_simp
   exact hK.out _ _ ⟨dt,cQ,fun _=>rfl,dh,du,fi,fj,dM,ju,pX⟩
  case s2 =>
   intro uf wa s hs ha cl hJ K hK
   obtain⟨dt,cQ,cT,dh,du,fi,fj,dM,ju,pX⟩:=hJ
   have pS:=cT (ha 1 aC)
   simp only[Act.put,aa,ab,ae,af,ag,ah]at hK |-
   rw[pS]at hK |-
   go_simp
   exact hK.out _ _ ⟨dt,cQ,cT,fun _=>rfl,du,fi,fj,dM,ju,pX⟩
  case s3 =>
   intro uf wa s hs ha cl hJ K hK
   obtain⟨dt,cQ,cT,dh,du,fi,fj,dM,ju,pX⟩:=hJ
   have sd:=dh (ha 2 aC)
   simp only[Act.put,aa,ab,ae,af,ag,ah]at hK |-
   rw[sd]at hK |-
   have q1:=(dt.box q hq _).trans lN
   go_simp
   exact hK.out _ _ ⟨dt,cQ,cT,dh,fun _=>rfl,fi,fj,dM,ju,pX⟩
  case s4 =>
   intro uf wa s hs ha cl hJ K hK
   obtain⟨dt,cQ,cT,dh,du,fi,fj,dM,ju,pX⟩:=hJ
   simp only[Act.put,aa,ab,ae,af,ag,ah]at hK |-
   go_simp
   exact hK.out _ _ ⟨dt,cQ,cT,dh,du,fun _=>rfl,fj,dM,ju,pX⟩
  case s5 =>
   intro uf wa s hs ha cl hJ K hK
   obtain⟨dt,cQ,cT,dh,du,fi,fj,dM,ju,pX⟩:=hJ
   have Iw:=fi (ha 4 aC)
   simp only[Act.put,aa,ab,ae,af,ag,ah]at hK |-
   rw[Iw]at hK |-
   have q1:=(dt.box r4 R4.out.lt _).trans R4.out.c1
   go_simp
   exact hK.out _ _ ⟨dt,cQ,cT,dh,du,fi,fun _=>rfl,dM,ju,pX⟩
  case s6 =>
   intro uf wa s hs ha cl hJ K hK
   obtain⟨dt,cQ,cT,dh,du,fi,fj,dM,ju,pX⟩:=hJ
   have tE:=du (ha 3 aC)
   have Ix:=fj (ha 5 aC)
   simp only[Act.put,aa,ab,ae,af,ag,ah]at hK |-
   rw[tE]at hK |-
   rw[Ix]at hK |-
   go_simp
   exact hK.out _ _ ⟨dt,cQ,cT,dh,du,fi,fj,fun _=>rfl,ju,pX⟩
  case s7 =>
   intro uf wa s hs ha cl hJ K hK
   obtain⟨dt,cQ,cT,dh,du,fi,fj,dM,ju,pX⟩:=hJ
   have xM:=dM (ha 6 aC)
   simp only[Act.put,aa,ab,ae,af,ag,ah]at hK |-
   rw[xM]at hK |-
   have q0:=(dt.box b1 hw1 _).trans db
   have q1:=(dt.box b1 hw1 _).trans de
   have q2:=(dt.box b1 hw1 _).trans dq
   have q3:=(dt.box b1 hw1 _).trans dy
   have q4:=(dt.box b1 hw1 _).trans dz
   go_simp
   exact hK.out _ _ ⟨dt,cQ,cT,dh,du,fi,fj,dM,fun _=>rfl,pX⟩
  case s8 =>
   intro uf wa s hs ha cl hJ K hK
   obtain⟨dt,cQ,cT,dh,du,fi,fj,dM,ju,pX⟩:=hJ
   simp only[Act.put,aa,ab,ae,af,ag,ah]at hK |-
   have hz:=cE.size dt
   have hbx:cE wa (wa.alloc (.cells #[.int .i64 0,.int .i64 0,.int .i64 0,.slice none 0 0,.slice none 0 0] 81)):=bl
   go_simp
   exact hK.out _ _ ⟨dt.trans hbx,cQ,cT,dh,du,fi,fj,dM,ju,fun _=>⟨wa.heap.size,rfl,hz,OB.new _ _⟩⟩):p:=h
theorem aa2 {p:Prop} (h:p:=by
  go_enter Tryz.func41,Tryz.ntmps41
  have fg:=True.intro
  repeat (any_goals ((first | clear fg | go_quiet (fail));(try go_wp2_with (first | (go_at_call 27;(with_reducible refine (eB (cv.mk x0 x1 x2 x3 x4 x5 x6 x7 x8 x9 x10 x11 x12) ⟨19,cM,cN,cO,cP,dn⟩ S q _ (cG.bel bl HS.out) ⟨eY,eG,fa,zI.out,er,gw⟩).mono ?_);rintro e xO ⟨rfl,eM⟩;rw[j6.out];(have mX:=eM.sz;obtain⟨iB,iC,iD,iE⟩:=eM.lay (w.heap.size);obtain⟨iF,iG,iH,iI⟩:=eM.lay (q);obtain⟨qx,qy,qz,qA⟩:=eM.lay (b1)))))))
  all_goals
   go_returns
   exact⟨by rw[RR.out];first | done | rfl,bl⟩):p:=h
theorem afL {p:Prop} (h:p:=by
  have iK:decide ((keys.length:Int)<=40)=true:=ar aB
  have iL:decide (40<(keys.length:Int))=false:=aq aB
  have xy:((its.length:Int)==(keys.length:Int)+1)=true:=aE
  have rS:((its.length:Int)==1+(keys.length:Int))=true:=aE
  have Bq:((its.length:Int)==wrap64 (1+(keys.length:Int)))=true:=by rw[yb aB aB];exact ar kt
  have oh:=hide iZ
  have kB:=hide fu
  clear dH fM iZ kt fu
  go_enter Tryz.func41,Tryz.ntmps41
  have fg:=True.intro
  repeat (any_goals ((first | clear fg | go_quiet (fail));(try go_wp2_with (first | (go_at_call 96;(with_reducible refine (oG keys S' _ _ _ (Row.bel bl HRk.out)).mono ?_);rintro e wdk ⟨rfl,pT⟩;rw[oh.out];(have Sa:=pT.sz;obtain⟨Br,Bs,Bt,Bu⟩:=pT.lay (w.heap.size);obtain⟨Bv,Bw,Bx,Bz⟩:=pT.lay (q))) | (go_at_call 40;(with_reducible refine (gP (cv.mk x0 x1 x2 x3 x4 x5 x6 x7 x8 x9 x10 x11 x12) its S S' q _ _ _ (cG.bel bl HS.out) (Row.bel bl lk.out)).mono ?_);rintro e Py ⟨rfl,iY⟩;rw[kB.out];(have AD:=iY.sz;obtain⟨pH,pI,pJ,pK⟩:=iY.lay (w.heap.size);obtain⟨pL,pM,pN,pO⟩:=iY.lay (q)))))))
  all_goals
   go_returns
   exact⟨by rw[RR.out];first | done | rfl,bl⟩):p:=h
theorem TN {p:Prop} (h:p:=by
  have Fq:=hide ml
  clear dH dw ml
  go_enter Tryz.func41,Tryz.ntmps41
  have fg:=True.intro
  repeat (any_goals ((first | clear fg | go_quiet (fail));(try go_wp2_with (first | (go_at_call 40;(with_reducible refine (DT.out _ (cG.bel bl HS.out) (Row.bel bl lk.out)).mono ?_);rintro e Py ⟨rfl,iY⟩;rw[Fq.out];(have AD:=iY.sz;obtain⟨pH,pI,pJ,pK⟩:=iY.lay (w.heap.size);obtain⟨pL,pM,pN,pO⟩:=iY.lay (q);obtain⟨AW,AX,AY,AZ⟩:=iY.lay (b1)))))))
  all_goals
   go_returns
   exact⟨by rw[RR.out];first | done | rfl,bl⟩):p:=h
theorem afc {p:Prop} (h:p:=by
  simp only[iT,Act.put,aa,ab,ae,af,ag,ah]
  refine (cB (i:=0) (i2:=1) (o:=_) rfl ?s0 (cB (i:=1) (i2:=2) (o:=_) rfl ?s1 (cB (i:=2) (i2:=3) (o:=_) rfl ?s2 (cB (i:=3) (i2:=4) (o:=_) rfl ?s3 (cB (i:=4) (i2:=5) (o:=_) rfl ?s4 (cB (i:=5) (i2:=6) (o:=_) rfl ?s5 (cB (i:=6) (i2:=7) (o:=_) rfl ?s6 (cB (i:=7) (i2:=8) (o:=_) rfl ?s7 (gD aF)))))))))
  case s0 =>
   intro uf wa s hs ha cl hJ K hK
   obtain⟨dt,cQ,cT,dh,ei,fw,fm,dC,eO⟩:=hJ
   simp only[Act.put,aa,ab,ae,af,ag,ah]at hK |-
   go_simp
   exact hK.out _ _ ⟨dt,fun _=>rfl,cT,dh,ei,fw,fm,dC,eO⟩
  case s1 =>
   intro uf wa s hs ha cl hJ K hK
   obtain⟨dt,cQ,cT,dh,ei,fw,fm,dC,eO⟩:=hJ
   have nm:=cQ (ha 0 aC)
   simp only[Act.put,aa,ab,ae,af,ag,ah]at hK |-
   rw[nm]at hK |-
   go_simp
   exact hK.out _ _ ⟨dt,cQ,fun _=>rfl,dh,ei,fw,fm,dC,eO⟩
  case s2 =>
   intro uf wa s hs ha cl hJ K hK
   obtain⟨dt,cQ,cT,dh,ei,fw,fm,dC,eO⟩:=hJ
   have pS:=cT (ha 1 aC)
   simp only[Act.put,aa,ab,ae,af,ag,ah]at hK |-
   rw[pS]at hK |-
   go_simp
   exact hK.out _ _ ⟨dt,cQ,cT,fun _=>rfl,ei,fw,fm,dC,eO⟩
  case s3 =>
   intro uf wa s hs ha cl hJ K hK
   obtain⟨dt,cQ,cT,dh,ei,fw,fm,dC,eO⟩:=hJ
   have sd:=dh (ha 2 aC)
   simp only[Act.put,aa,ab,ae,af,ag,ah]at hK |-
   rw[sd]at hK |-
   have q1:=(dt.box q hq _).trans afb
   go_simp
   exact hK.out _ _ ⟨dt,cQ,cT,dh,fun _=>rfl,fw,fm,dC,eO⟩
  case s4 =>
   intro uf wa s hs ha cl hJ K hK
   obtain⟨dt,cQ,cT,dh,ei,fw,fm,dC,eO⟩:=hJ
   simp only[Act.put,aa,ab,ae,af,ag,ah]at hK |-
   go_simp
   exact hK.out _ _ ⟨dt,cQ,cT,dh,ei,fun _=>rfl,fm,dC,eO⟩
  case s5 =>
   intro uf wa s hs ha cl hJ K hK
   obtain⟨dt,cQ,cT,dh,ei,fw,fm,dC,eO⟩:=hJ
   have Iy:=fw (ha 4 aC)
   simp only[Act.put,aa,ab,ae,af,ag,ah]at hK |-
   rw[Iy]at hK |-
   have q1:=(dt.box r4 R4.out.lt _).trans R4.out.c2
   go_simp
   exact hK.out _ _ ⟨dt,cQ,cT,dh,ei,fw,fun _=>rfl,dC,eO⟩
  case s6 =>
   intro uf wa s hs ha cl hJ K hK
   obtain⟨dt,cQ,cT,dh,ei,fw,fm,dC,eO⟩:=hJ
   simp only[Act.put,aa,ab,ae,af,ag,ah]at hK |-
   have q0:=(dt.box r5 R5.out.lt 0).trans R5.out.c0
   have q1:=(dt.box r5 R5.out.lt 1).trans R5.out.c1
   have q2:=(dt.box r5 R5.out.lt 2).trans R5.out.c2
   have q3:=(dt.box r5 R5.out.lt 3).trans R5.out.c3
   have q4:=(dt.box r5 R5.out.lt 4).trans R5.out.c4
   have q5:=(dt.box r5 R5.out.lt 5).trans R5.out.c5
   go_simp
   exact hK.out _ _ ⟨dt,cQ,cT,dh,ei,fw,fm,fun _=>rfl,eO⟩
  case s7 =>
   intro uf wa s hs ha cl hJ K hK
   obtain⟨dt,cQ,cT,dh,ei,fw,fm,dC,eO⟩:=hJ
   have Bj:=ei (ha 3 aC)
   have Bg:=fm (ha 5 aC)
   simp only[Act.put,aa,ab,ae,af,ag,ah]at hK |-
   rw[Bj]at hK |-
   rw[Bg]at hK |-
   go_simp
   exact hK.out _ _ ⟨dt,cQ,cT,dh,ei,fw,fm,dC,fun _=>rfl⟩):p:=h
theorem adT {p:Prop} (h:p:=by
  go_enter Tryz.func41,Tryz.ntmps41
  (go_wp2_with (fail))
  repeat (any_goals (go_quiet (fail);(try (go_wp2_with (fail)))))
  refine wp_region_held_drew (S:=fun w'=>w'.cell? ⟨w.heap.size,0,none⟩=some (.int .i64 9)/\w'.cell? ⟨w.heap.size,3,none⟩=some (.slice (some ⟨b1,o1,none⟩) 2 ci)/\w'.cell? ⟨b1,o1,none⟩=some (.int .i64 2)/\w'.cell? ⟨b1,o1+1,none⟩=some (.int .i64 u1)/\w'.cell? ⟨b1,o1+2,none⟩=some (.int .i64 u2)/\w'.cell? ⟨b1,o1+3,none⟩=some (.string u3)/\w'.cell? ⟨b1,o1+4,none⟩=some (.int .i64 u4)/\w'.cell? ⟨b1,o1+5,none⟩=some (.int .i64 u5)/\w'.cell? ⟨b1,o1+6,none⟩=some (.int .i64 1)/\w'.cell? ⟨b1,o1+7,none⟩=some (.int .i64 v1)/\w'.cell? ⟨b1,o1+8,none⟩=some (.int .i64 v2)/\w'.cell? ⟨b1,o1+9,none⟩=some (.string v3)/\w'.cell? ⟨b1,o1+10,none⟩=some (.int .i64 v4)/\w'.cell? ⟨b1,o1+11,none⟩=some (.int .i64 v5)) aC ?_ (fun hHeld=>?_)
  ·
   exact⟨aJ,aJ,(cE.box (W:=w) bl b1 hl1 _).trans db,(cE.box (W:=w) bl b1 hl1 _).trans de,(cE.box (W:=w) bl b1 hl1 _).trans dq,(cE.box (W:=w) bl b1 hl1 _).trans dy,(cE.box (W:=w) bl b1 hl1 _).trans dz,(cE.box (W:=w) bl b1 hl1 _).trans dU,(cE.box (W:=w) bl b1 hl1 _).trans fq,(cE.box (W:=w) bl b1 hl1 _).trans ft,(cE.box (W:=w) bl b1 hl1 _).trans fC,(cE.box (W:=w) bl b1 hl1 _).trans fF,(cE.box (W:=w) bl b1 hl1 _).trans fG,(cE.box (W:=w) bl b1 hl1 _).trans fK⟩
  refine eH 0 ?_
  refine eH 1 ?_
  refine eH 2 ?_
  refine eH 3 ?_
  refine eH 4 ?_
  refine eH 5 ?_
  refine eH 6 ?_
  refine eH 7 ?_
  refine eH 8 ?_
  refine eH 9 ?_
  refine eH 10 ?_
  refine eH 11 ?_
  refine eH 12 ?_
  refine eH 13 ?_
  refine eH 14 ?_
  refine eH 15 ?_
  refine eH 16 ?_
  refine eH 17 ?_
  refine eH 18 ?_
  refine eH 19 ?_
  refine eH 20 ?_
  refine eH 21 ?_
  refine eH 22 ?_
  refine eH 23 ?_
  refine wpAnyH_ready (rs:=[24]) aC aK ?_
  refine AllReadyH.cons (o:=_) rfl (fun K hK=>?_) AllReadyH.nil
  go_simp
  clear hHeld
  (go_at_call 40;(with_reducible refine (DT.out _ (cG.bel bl HS.out) (Row.bel bl lk.out)).mono ?_);rintro e Py ⟨rfl,iY⟩;rw[Fq.out];(have AD:=iY.sz;obtain⟨pH,pI,pJ,pK⟩:=iY.lay (w.heap.size);obtain⟨pL,pM,pN,pO⟩:=iY.lay (q);obtain⟨AW,AX,AY,AZ⟩:=iY.lay (b1)))
  refine hK.out _ _ ?_ (fun hHeld=>?_)
  ·
   exact⟨aJ,aJ,(cE.box (W:=w) bl b1 hl1 _).trans db,(cE.box (W:=w) bl b1 hl1 _).trans de,(cE.box (W:=w) bl b1 hl1 _).trans dq,(cE.box (W:=w) bl b1 hl1 _).trans dy,(cE.box (W:=w) bl b1 hl1 _).trans dz,(cE.box (W:=w) bl b1 hl1 _).trans dU,(cE.box (W:=w) bl b1 hl1 _).trans fq,(cE.box (W:=w) bl b1 hl1 _).trans ft,(cE.box (W:=w) bl b1 hl1 _).trans fC,(cE.box (W:=w) bl b1 hl1 _).trans fF,(cE.box (W:=w) bl b1 hl1 _).trans fG,(cE.box (W:=w) bl b1 hl1 _).trans fK⟩
  clear hK K
  (try simp only[Act.put,aa,ab,ae,af,ag,ah])
  refine eH 25 ?_
  refine eH 26 ?_
  refine eH 27 ?_
  refine eH 28 ?_
  refine eH 29 ?_
  refine eH 30 ?_
  refine eH 31 ?_
  refine eH 32 ?_
  refine eH 33 ?_
  refine eH 34 ?_
  refine eH 35 ?_
  refine eH 36 ?_
  refine eH 37 ?_
  refine eH 38 ?_
  refine eH 39 ?_
  refine eH 40 ?_
  refine eH 41 ?_
  refine eH 42 ?_
  refine eH 43 ?_
  refine eH 44 ?_
  refine eH 45 ?_
  refine eH 46 ?_
  refine eH 47 ?_
  refine eH 48 ?_
  refine eH 49 ?_
  refine wpAnyH_done aC ?_ _
  all_goals (cases bt <;> cases bk)
  all_goals (try (go_wp2_with (fail)))
  all_goals
   go_returns
   exact⟨by rw[RR.out];first | done | rfl,bl⟩):p:=h
theorem pj {p:Prop} (h:p:=by
  clear h
  go_enter Tryz.func97,Tryz.ntmps97
  go_wp2_with (fail)
  repeat (any_goals (go_quiet (fail);(try go_wp2_with (fail))))
  all_goals
   go_returns
   exact⟨gG RR.out.symm,bl⟩):p:=h
theorem afM {p:Prop} (h:p:=by
  have kB:=hide fu
  clear tA lI DR fu dw
  go_enter Tryz.func41,Tryz.ntmps41
  go_wp2_with (fail)
  repeat (any_goals (go_quiet (fail);(try go_wp2_with (fail))))
  go_region_held3 (fun w'=>w'.cell? ⟨w.heap.size,0,none⟩=some (.int .i64 5)/\w'.cell? ⟨w.heap.size,1,none⟩=some (.int .i64 (m:Int))/\w'.cell? ⟨w.heap.size,3,none⟩=some (.slice Ai its.length ci)/\w'.cell? ⟨w.heap.size,4,none⟩=some (.slice Ak keys.length ck)/\w'.cell? ⟨q,1,none⟩=some (.slice (some ⟨b4,o4,none⟩) x1.length c1)/\w'.cell? ⟨b4,o4+m*3+1,none⟩=some (.slice ZL gA.length ZM)) (go_keep) (first | (go_at_call 40;(with_reducible refine (gP (cv.mk x0 x1 x2 x3 x4 x5 x6 x7 x8 x9 x10 x11 x12) its S S' q _ _ _ (cG.bel bl HS.out) (Row.bel bl lk.out)).mono ?_);rintro e Py ⟨rfl,iY⟩;rw[kB.out];(have AD:=iY.sz;obtain⟨pH,pI,pJ,pK⟩:=iY.lay (w.heap.size);obtain⟨pL,pM,pN,pO⟩:=iY.lay (q);obtain⟨AW,AX,AY,AZ⟩:=iY.lay (b4))))
  all_goals
   (try go_wp2_with (fail))
  all_goals
   go_returns
   exact⟨by rw[RR.out];first | done | rfl,bl⟩):p:=h
theorem Lj {p:Prop} (h:p:=by
  go_enter Tryz.func10,Tryz.ntmps10
  have fg:=True.intro
  repeat (any_goals ((first | clear fg | go_quiet (fail));(try go_wp2_with (first | (go_at_call 37;refine (mT x0 S _ _ _ (Row.bel bl HR0.out) (HT.out.on bl)).mono ?_;rintro e w8 ⟨rfl,hb8⟩;rw[HN.out];(have Zu:=hb8.sz;obtain⟨Jr,Js,Jt,Ju⟩:=hb8.lay (w.heap.size))) | (go_at_call 38;refine (ru x1 S _ _ _ (Row.bel bl HR1.out) (HT.out.on bl)).mono ?_;rintro e w9 ⟨rfl,Gy⟩;rw[HRE.out];(have BB:=Gy.sz;obtain⟨aet,aeu,aev,aew⟩:=Gy.lay (w.heap.size)))))))
  all_goals
   go_returns
   exact⟨gG RR.out.symm,bl⟩):p:=h
theorem aa3 {p:Prop} (h:p:=by
  go_enter Tryz.func41,Tryz.ntmps41
  have fg:=True.intro
  repeat (any_goals ((first | clear fg | go_quiet (fail));(try go_wp2_with (first | (go_at_call 96;(with_reducible refine (oG keys S' _ _ _ (Row.bel bl HRk.out)).mono ?_);rintro e wdk ⟨rfl,pT⟩;rw[oh.out];(have Sa:=pT.sz;obtain⟨Br,Bs,Bt,Bu⟩:=pT.lay (w.heap.size);obtain⟨Bv,Bw,Bx,Bz⟩:=pT.lay (q)))))))
  all_goals
   go_returns
   exact⟨by rw[RR.out];first | done | rfl,bl⟩):p:=h
theorem ZK {p:Prop} (h:p:=by
  go_enter Tryz.func105,Tryz.ntmps105
  have fg:=True.intro
  repeat (any_goals ((first | clear fg | go_quiet (fail));(try go_wp2_with (first | (go_at_call 106;(with_reducible refine (jN (cv.mk x0 x1 x2 x3 x4 x5 x6 x7 x8 x9 x10 x11 x12) its S S' q _ _ _ (cG.bel bl HS.out) (Row.bel bl lk.out)).mono ?_);rintro e Py ⟨rfl,iY⟩;rw[kB.out];(have AD:=iY.sz;obtain⟨pH,pI,pJ,pK⟩:=iY.lay (w.heap.size);obtain⟨pL,pM,pN,pO⟩:=iY.lay (q)))))))
  all_goals
   go_returns
   exact⟨by rw[RR.out];first | done | rfl,bl⟩):p:=h
theorem DU {p:Prop} (h:p:=by
  go_enter Tryz.func44,Tryz.ntmps44
  have fg:=True.intro
  repeat (any_goals ((first | clear fg | go_quiet (fail));(try go_wp2_with (go_at_call 101;refine (oL _ _ _ _).mono ?_;rintro e w9 ⟨rfl,rfl⟩))))
  all_goals
   go_returns
   exact⟨by rw[RR.out];first | done | rfl,bl⟩):p:=h
theorem adP {p:Prop} (h:p:=by
  have dD:((keys.length:Int)==0)=true:=aE
  have dE:((keys.length:Int) != 0)=false:=aG
  have ja:decide (1<=tag)=true:=ar aB
  have jO:decide (tag<1)=false:=aq aB
  have jP:decide (0<tag)=true:=ar aB
  have AU:decide (0<=gx)=true:=ar aB
  have j6:=hide fT
  have oe:=hide iA
  have JM:=hide sA
  clear dw DS fT iA sA
  go_enter Tryz.func105,Tryz.ntmps105
  (go_wp2_with (fail))
  go_quiet (fail)
  go_upto_region 20 with (fail)
  simp only[List.append]
  (go_wp2_with (first | (go_at_call 45;(with_reducible refine (gp (cv.mk x0 x1 x2 x3 x4 x5 x6 x7 x8 x9 x10 x11 x12) ⟨19,cM,cN,cO,cP,dn⟩ S q _ (cG.bel bl HS.out) ⟨eY,eG,fa,zI.out,er,gw⟩).mono ?_);rintro e xO ⟨rfl,eM⟩;rw[j6.out];(have mX:=eM.sz;obtain⟨iB,iC,iD,iE⟩:=eM.lay (w.heap.size);obtain⟨iF,iG,iH,iI⟩:=eM.lay (q);obtain⟨qx,qy,qz,qA⟩:=eM.lay (b1))) | (go_at_call 45;(with_reducible refine (gp (cv.mk x0 x1 x2 x3 x4 x5 x6 x7 x8 x9 x10 x11 x12) ⟨19,dN,dQ,dV,dW,dZ⟩ S q _ (cG.bel bl HS.out) ⟨kY,km,lh,Cx.out,kn,lH⟩).mono ?_);rintro e Sm ⟨rfl,jj⟩;rw[oe.out];(have BN:=jj.sz;obtain⟨qB,qC,qD,qE⟩:=jj.lay (w.heap.size);obtain⟨qF,qG,qH,qI⟩:=jj.lay (q);obtain⟨yd,ye,yf,yg⟩:=jj.lay (b1))) | (go_at_call 45;(with_reducible refine (gp (cv.mk x0 x1 x2 x3 x4 x5 x6 x7 x8 x9 x10 x11 x12) ⟨1,gx,iN,iO,iP,iQ⟩ S q _ (cG.bel bl HS.out) ⟨PE,PF,PG,GT3.out,PH,PI⟩).mono ?_);rintro e wi3 ⟨rfl,Ej⟩;rw[JM.out];(have ai4:=Ej.sz;obtain⟨aaP,aaQ,aaR,aaS⟩:=Ej.lay (w.heap.size);obtain⟨aaT,aaU,aaV,aaW⟩:=Ej.lay (q);obtain⟨aaX,aaY,aaZ,aa0⟩:=Ej.lay (b1)))))
  all_goals
   go_returns
   exact⟨by rw[RR.out];first | done | rfl,bl⟩):p:=h
theorem MQ {p:Prop} (h:p:=by
  go_enter Tryz.func86,Tryz.ntmps86
  go_wp2_with (first | (go_at_call 121;refine (xc n _ hn (ht.on (cE.alloc (cE.refl w) _))).mono ?_;rintro e w1 ⟨rfl,hb1⟩;have hz1:=hb1.sz;obtain⟨eA,fb,fc,fA⟩:=hb1.lay (w.heap.size);(try simp only[cV.val])) | (go_at_call 122;refine (xR lo hi _).mono ?_;rintro e w2 ⟨rfl,hb2⟩;have hz2:=hb2.sz;obtain⟨gO,lJ,mG,mH⟩:=hb2.lay (w.heap.size);(try simp only[cV.val])))
  all_goals
   go_returns
   exact⟨rfl,bl⟩):p:=h
theorem KS {p:Prop} (h:p:=by
  clear hbw0
  go_enter Tryz.func97,Tryz.ntmps97
  go_wp2_with (fail)
  repeat (any_goals (go_quiet (fail);(try go_wp2_with (fail))))
  go_loopw [80] (fun v wr=>v=.int .i64 0/\cE w wr) (fun _ _=>0)
  case atStart=>exact⟨rfl,bl⟩
  case round =>
   obtain⟨rfl,hbw⟩:=hrel
   go_wp2_with (fail)
   repeat (any_goals (go_quiet (fail);(try go_wp2_with (fail))))
   all_goals
    go_returns
    exact⟨gG HP.out.symm,bl⟩):p:=h
theorem MP {p:Prop} (h:p:=by
  go_enter Tryz.func91,Tryz.ntmps91
  go_wp2_with (first | (go_at_call 124;refine (JN n _ hn).mono ?_;rintro e w1 ⟨rfl,hb1⟩;have hz1:=hb1.sz;obtain⟨eA,fb,fc,fA⟩:=hb1.lay (w.heap.size);(try simp only[cV.val])) | (go_at_call 125;refine (xS lo hi _).mono ?_;rintro e w2 ⟨rfl,hb2⟩;have hz2:=hb2.sz;obtain⟨gO,lJ,mG,mH⟩:=hb2.lay (w.heap.size);(try simp only[cV.val])))
  all_goals
   go_returns
   exact⟨rfl,bl⟩):p:=h
theorem adI {p:Prop} (h:p:=by
  have ec:(tag==0)=true:=aE
  have ed:(tag != 0)=false:=aG
  have iK:decide ((keys.length:Int)<=40)=true:=ar aB
  have iL:decide (40<(keys.length:Int))=false:=aq aB
  have xy:((its.length:Int)==(keys.length:Int)+1)=true:=aE
  have rS:((its.length:Int)==1+(keys.length:Int))=true:=aE
  have kB:=hide fu
  have mj:=hide gQ
  have oh:=hide iZ
  clear dH kt fu gQ iZ
  go_enter Tryz.func105,Tryz.ntmps105
  have fg:=True.intro
  repeat (any_goals ((first | clear fg | go_quiet (fail));(try go_wp2_with (first | (go_at_call 106;(with_reducible refine (jN (cv.mk x0 x1 x2 x3 x4 x5 x6 x7 x8 x9 x10 x11 x12) its S S' q _ _ _ (cG.bel bl HS.out) (Row.bel bl lk.out)).mono ?_);rintro e Py ⟨rfl,iY⟩;rw[kB.out];(have AD:=iY.sz;obtain⟨pH,pI,pJ,pK⟩:=iY.lay (w.heap.size);obtain⟨pL,pM,pN,pO⟩:=iY.lay (q))) | (go_at_call 106;(with_reducible refine (jN (cv.mk x0 x1 x2 x3 x4 x5 x6 x7 x8 x9 x10 x11 x12) keys S S' q _ _ _ (cG.bel bl HS.out) (Row.bel bl HRk.out)).mono ?_);rintro e wak ⟨rfl,pP⟩;rw[mj.out];(have Pz:=pP.sz;obtain⟨AE,AF,AG,AL⟩:=pP.lay (w.heap.size);obtain⟨AM,AO,AP,AQ⟩:=pP.lay (q))) | (go_at_call 141;(with_reducible refine (xw keys S' _ _ _ (Row.bel bl HRk.out)).mono ?_);rintro e wdk ⟨rfl,pT⟩;rw[oh.out];(have Sa:=pT.sz;obtain⟨Br,Bs,Bt,Bu⟩:=pT.lay (w.heap.size);obtain⟨Bv,Bw,Bx,Bz⟩:=pT.lay (q)))))))
  all_goals
   go_returns
   exact⟨by rw[RR.out];first | done | rfl,bl⟩):p:=h
theorem afN {p:Prop} (h:p:=by
  have Sb:=hide yC
  clear dw yC
  go_enter Tryz.func41,Tryz.ntmps41
  have fg:=True.intro
  repeat (any_goals ((first | clear fg | go_quiet (fail));(try go_wp2_with (first | (go_at_call 97;refine (Fa (cv.mk x0 x1 x2 x3 x4 x5 x6 x7 x8 x9 x10 x11 x12) tag its S S' q _ _ _ (cG.bel bl HS.out) (Row.bel bl lk.out)).mono ?_;rintro e wp ⟨rfl,hbp⟩;rw[Sb.out];(have hzp:=hbp.sz;obtain⟨afO,afP,afQ,afR⟩:=hbp.lay (w.heap.size);obtain⟨afS,afT,afU,afV⟩:=hbp.lay (q)))))))
  all_goals
   go_returns
   exact⟨by rw[RR.out];first | done | rfl,bl⟩):p:=h
theorem adN {p:Prop} (h:p:=by
  have dD:((keys.length:Int)==0)=true:=aE
  have dE:((keys.length:Int) != 0)=false:=aG
  have AR:decide (0<=tag)=true:=ar aB
  have ja:decide (tag<(x1.length:Int))=true:=ar aB
  have PD:((its.length:Int)==(gA.length:Int))=true:=aE
  clear hx
  subst hm
  have kB:=hide fu
  clear dw tA lI DR fu
  go_enter Tryz.func105,Tryz.ntmps105
  go_wp2_with (fail)
  repeat (any_goals (go_quiet (fail);(try go_wp2_with (fail))))
  go_region_held3 (fun w'=>w'.cell? ⟨w.heap.size,0,none⟩=some (.int .i64 5)/\w'.cell? ⟨w.heap.size,1,none⟩=some (.int .i64 (m:Int))/\w'.cell? ⟨w.heap.size,3,none⟩=some (.slice Ai its.length ci)/\w'.cell? ⟨w.heap.size,4,none⟩=some (.slice Ak keys.length ck)/\w'.cell? ⟨q,1,none⟩=some (.slice (some ⟨b4,o4,none⟩) x1.length c1)/\w'.cell? ⟨b4,o4+m*3+1,none⟩=some (.slice ZL gA.length ZM)) (go_keep) (first | (go_at_call 106;(with_reducible refine (jN (cv.mk x0 x1 x2 x3 x4 x5 x6 x7 x8 x9 x10 x11 x12) its S S' q _ _ _ (cG.bel bl HS.out) (Row.bel bl lk.out)).mono ?_);rintro e Py ⟨rfl,iY⟩;rw[kB.out];(have AD:=iY.sz;obtain⟨pH,pI,pJ,pK⟩:=iY.lay (w.heap.size);obtain⟨pL,pM,pN,pO⟩:=iY.lay (q);obtain⟨AW,AX,AY,AZ⟩:=iY.lay (b4))))
  all_goals
   (try go_wp2_with (fail))
  all_goals
   go_returns
   exact⟨by rw[RR.out];first | done | rfl,bl⟩):p:=h
theorem adR {p:Prop} (h:p:=by
  have ec:(tag==0)=true:=aE
  have ed:(tag != 0)=false:=aG
  have dD:((keys.length:Int)==0)=true:=aE
  have dE:((keys.length:Int) != 0)=false:=aG
  have j6:=hide fT
  have oe:=hide iA
  clear dH dw fT iA
  go_enter Tryz.func105,Tryz.ntmps105
  have fg:=True.intro
  repeat (any_goals ((first | clear fg | go_quiet (fail));(try go_wp2_with (first | (go_at_call 45;(with_reducible refine (gp (cv.mk x0 x1 x2 x3 x4 x5 x6 x7 x8 x9 x10 x11 x12) ⟨5,cM,cN,cO,cP,dn⟩ S q _ (cG.bel bl HS.out) ⟨eY,eG,fa,zI.out,er,gw⟩).mono ?_);rintro e xO ⟨rfl,eM⟩;rw[j6.out];(have mX:=eM.sz;obtain⟨iB,iC,iD,iE⟩:=eM.lay (w.heap.size);obtain⟨iF,iG,iH,iI⟩:=eM.lay (q);obtain⟨qx,qy,qz,qA⟩:=eM.lay (b1))) | (go_at_call 31;(with_reducible refine (lG (cv.mk x0 x1 x2 x3 x4 x5 x6 x7 x8 x9 x10 x11 x12) ⟨dG,dN,dQ,dV,dW,dZ⟩ S q _ (cG.bel bl HS.out) ⟨kY,km,lh,Cx.out,kn,lH⟩).mono ?_);rintro e Sm ⟨rfl,jj⟩;rw[oe.out];(have BN:=jj.sz;obtain⟨qB,qC,qD,qE⟩:=jj.lay (w.heap.size);obtain⟨qF,qG,qH,qI⟩:=jj.lay (q);obtain⟨yd,ye,yf,yg⟩:=jj.lay (b1)))))))
  all_goals
   go_returns
   exact⟨by rw[RR.out];first | done | rfl,bl⟩):p:=h
theorem ZH {p:Prop} (h:p:=by
  have HQ:=hide (fun (wx:World) (hx:cE w wx)=>(by have:=od (cv.mk x0 x1 x2 x3 x4 x5 x6 x7 x8 x9 x10 x11 x12) (m:Int) 1 S q wx (cG.bel hx jF.out);rw[HH.out]at this;exact this))
  go_enter Tryz.func27,Tryz.ntmps27
  go_wp2_with (first | (go_at_call 83;refine (iU _ _ hv).mono ?_;rintro e w1 ⟨rfl,hb1⟩;(have hz1:=hb1.sz;obtain⟨eA,fb,fc,fA⟩:=hb1.lay (w.heap.size);obtain⟨ff,fE,fR,fS⟩:=hb1.lay (q);obtain⟨iM,jx,ko,kp⟩:=hb1.lay (b1));rw[HW.out])) 
  go_quiet ((go_at_call 39;refine Calls.quiet_of (HQ.out _ bl)))
  go_wp2_with (fail)
  repeat (any_goals (go_quiet (fail);(try go_wp2_with (fail))))
  all_goals
   go_returns
   exact⟨by rw[RR.out];first | done | rfl,bl⟩):p:=h
theorem ZI {p:Prop} (h:p:=by
  have HQ:=hide (fun (wx:World) (hx:cE w wx)=>(by have:=od (cv.mk x0 x1 x2 x3 x4 x5 x6 x7 x8 x9 x10 x11 x12) (m:Int) 5 S q wx (cG.bel hx jF.out);rw[HH.out]at this;exact this))
  go_enter Tryz.func27,Tryz.ntmps27
  go_wp2_with (first | (go_at_call 83;refine (iU _ _ hv).mono ?_;rintro e w1 ⟨rfl,hb1⟩;(have hz1:=hb1.sz;obtain⟨eA,fb,fc,fA⟩:=hb1.lay (w.heap.size);obtain⟨ff,fE,fR,fS⟩:=hb1.lay (q);obtain⟨iM,jx,ko,kp⟩:=hb1.lay (b1));rw[HW.out])) 
  go_quiet ((go_at_call 39;refine Calls.quiet_of (HQ.out _ bl)))
  go_wp2_with (fail)
  repeat (any_goals (go_quiet (fail);(try go_wp2_with (fail))))
  all_goals
   go_returns
   exact⟨by rw[RR.out];first | done | rfl,bl⟩):p:=h
theorem ai6 {p:Prop} (h:p:=by
  simp only[iT,Act.put,aa,ab,ae,af,ag,ah]
  intro uf wa ⟨s,hall,hJ⟩ K hK
  obtain⟨dt,cQ,cT,dh,du,fi,fj,dM,eD,ei,fw,fm,dC,eO⟩:=hJ
  have ry:=eO (hall 12 aF)
  have mZ:=dC (hall 11 aF)
  clear cQ cT dh du fi fj dM eD ei fw fm dC eO hall
  rw[ry,mZ]at hK |-
  obtain⟨hth,hput⟩:=yp.out wa dt
  refine wp_store_mid 34 (.tmp 32) (.tmp 31) rfl g3 (o3+j*6) #[.int .i64 vk,.int .i64 vn,.int .i64 vi,.string vt,.int .i64 vl,.int .i64 vh] rfl rfl hth aC bm ?_
  refine hK.out undef _ ?_
  obtain⟨⟨L9,rD⟩,rz⟩:=hput (⟨vk,vn,vi,vt,vl,vh⟩:cV) HV.out
  clear hK hput
  obtain⟨wz,hwz⟩:∃x,wa.setCells g3 (o3+j*6) (nr (⟨vk,vn,vi,vt,vl,vh⟩:cV))=x:=⟨_,rfl⟩
  rw[hwz]at rD rz
  rw[show wa.setCells g3 (o3+j*6) (#[Value.int .i64 vk,.int .i64 vn,.int .i64 vi,.string vt,.int .i64 vl,.int .i64 vh]:Array Value).toList=wz from hwz]
  have LY:=hide rD
  have Gm:=hide rz
  clear hwz rD rz hth ry mZ dt
  go_wp2_with (fail)
  all_goals
   go_returns
   exact⟨by (rw[RR.out] <;> rfl),⟨_,_,by rw[RR.out];exact LY.out.on bl⟩,(lK.gI hbr hN).trans (Gm.out.trans (lK.gI bl (al (al hN hbr.size) Gm.out.size)))⟩):p:=h
theorem ai7 {p:Prop} (h:p:=by
  simp only[iT,Act.put,aa,ab,ae,af,ag,ah]
  intro uf wa ⟨s,hall,hJ⟩ K hK
  obtain⟨dt,cQ,cT,dh,du,fi,fj,dM,eD,ei,fw,fm,dC,eO⟩:=hJ
  have ry:=eO (hall 12 aF)
  have mZ:=dC (hall 11 aF)
  clear cQ cT dh du fi fj dM eD ei fw fm dC eO hall
  rw[ry,mZ]at hK |-
  obtain⟨hth,hput⟩:=yp.out wa dt
  refine wp_store_mid 34 (.tmp 33) (.tmp 32) rfl g3 (o3+j*6) #[.int .i64 vk,.int .i64 vn,.int .i64 vi,.string vt,.int .i64 vl,.int .i64 vh] rfl rfl hth aC bm ?_
  refine hK.out undef _ ?_
  obtain⟨⟨L9,rD⟩,rz⟩:=hput (⟨vk,vn,vi,vt,vl,vh⟩:cV) HV.out
  clear hK hput
  obtain⟨wz,hwz⟩:∃x,wa.setCells g3 (o3+j*6) (nr (⟨vk,vn,vi,vt,vl,vh⟩:cV))=x:=⟨_,rfl⟩
  rw[hwz]at rD rz
  rw[show wa.setCells g3 (o3+j*6) (#[Value.int .i64 vk,.int .i64 vn,.int .i64 vi,.string vt,.int .i64 vl,.int .i64 vh]:Array Value).toList=wz from hwz]
  have LY:=hide rD
  have Gm:=hide rz
  clear hwz rD rz hth ry mZ dt
  go_wp2_with (fail)
  all_goals
   go_returns
   exact⟨by (rw[RR.out] <;> rfl),⟨_,_,by rw[RR.out];exact LY.out.on bl⟩,(lK.gI hbr hN).trans (Gm.out.trans (lK.gI bl (al (al hN hbr.size) Gm.out.size)))⟩):p:=h
theorem adJ {p:Prop} (h:p:=by
  have ec:(tag==0)=true:=aE
  have ed:(tag != 0)=false:=aG
  have iK:decide ((keys.length:Int)<=40)=true:=ar aB
  have iL:decide (40<(keys.length:Int))=false:=aq aB
  have uU:((its.length:Int)==0)=true:=aE
  have uV:((its.length:Int) != 0)=false:=aG
  have mj:=hide gQ
  have oh:=hide iZ
  clear dH fM mu gQ iZ
  go_enter Tryz.func105,Tryz.ntmps105
  have fg:=True.intro
  repeat (any_goals ((first | clear fg | go_quiet (fail));(try go_wp2_with (first | (go_at_call 106;(with_reducible refine (jN (cv.mk x0 x1 x2 x3 x4 x5 x6 x7 x8 x9 x10 x11 x12) keys S S' q _ _ _ (cG.bel bl HS.out) (Row.bel bl HRk.out)).mono ?_);rintro e wak ⟨rfl,pP⟩;rw[mj.out];(have Pz:=pP.sz;obtain⟨AE,AF,AG,AL⟩:=pP.lay (w.heap.size);obtain⟨AM,AO,AP,AQ⟩:=pP.lay (q))) | (go_at_call 141;(with_reducible refine (xw keys S' _ _ _ (Row.bel bl HRk.out)).mono ?_);rintro e wdk ⟨rfl,pT⟩;rw[oh.out];(have Sa:=pT.sz;obtain⟨Br,Bs,Bt,Bu⟩:=pT.lay (w.heap.size);obtain⟨Bv,Bw,Bx,Bz⟩:=pT.lay (q)))))))
  all_goals
   go_returns
   exact⟨by rw[RR.out];first | done | rfl,bl⟩):p:=h
theorem K1 {p:Prop} (h:p:=by
  go_enter Tryz.func105,Tryz.ntmps105
  (go_wp2_with (fail))
  go_quiet (fail)
  go_upto_region 20 with (fail)
  simp only[List.append]
  (go_wp2_with (fail))
  all_goals
   go_returns
   exact⟨by rw[RR.out];first | done | rfl,bl⟩):p:=h
theorem ZE {p:Prop} (h:p:=by
  go_enter Tryz.func45,Tryz.ntmps45
  have fg:=True.intro
  repeat (any_goals ((first | clear fg | go_quiet (fail));(try go_wp2_with (first | (go_at_call 107;refine (cU _ _ hv).mono ?_;rintro e w1 ⟨rfl,hb1⟩;(have hz1:=hb1.sz;obtain⟨eA,fb,fc,fA⟩:=hb1.lay (w.heap.size);obtain⟨ff,fE,fR,fS⟩:=hb1.lay (q);obtain⟨iM,jx,ko,kp⟩:=hb1.lay (b1));rw[HW.out]) | (go_at_call 108;refine (dR _ _).mono ?_;rintro e w2 ⟨rfl,rfl⟩;rw[lQ])))))
  all_goals
   go_returns
   exact⟨by rw[RR.out];first | done | rfl,bl⟩):p:=h
theorem ZF {p:Prop} (h:p:=by
  go_enter Tryz.func45,Tryz.ntmps45
  have fg:=True.intro
  repeat (any_goals ((first | clear fg | go_quiet (fail));(try go_wp2_with (first | (go_at_call 107;refine (cU _ _ hv).mono ?_;rintro e w1 ⟨rfl,hb1⟩;(have hz1:=hb1.sz;obtain⟨eA,fb,fc,fA⟩:=hb1.lay (w.heap.size);obtain⟨ff,fE,fR,fS⟩:=hb1.lay (q);obtain⟨iM,jx,ko,kp⟩:=hb1.lay (b1));rw[HW.out]) | (go_at_call 108;refine (dR _ _).mono ?_;rintro e w2 ⟨rfl,rfl⟩;rw[lR])))))
  all_goals
   go_returns
   exact⟨by rw[RR.out];first | done | rfl,bl⟩):p:=h
theorem ZC {p:Prop} (h:p:=by
  clear hw
  go_enter Tryz.func45,Tryz.ntmps45
  have fg:=True.intro
  repeat (any_goals ((first | clear fg | go_quiet (fail));(try go_wp2_with (first | (go_at_call 107;refine (cU _ _ hv).mono ?_;rintro e w1 ⟨rfl,hb1⟩;(have hz1:=hb1.sz;obtain⟨eA,fb,fc,fA⟩:=hb1.lay (w.heap.size);obtain⟨ff,fE,fR,fS⟩:=hb1.lay (q));rw[HW.out]) | (go_at_call 108;refine (dR _ _).mono ?_;rintro e w2 ⟨rfl,rfl⟩;rw[tu])))))
  all_goals
   go_returns
   exact⟨by rw[RR.out];first | done | rfl,bl⟩):p:=h
theorem ZD {p:Prop} (h:p:=by
  clear hw
  go_enter Tryz.func45,Tryz.ntmps45
  have fg:=True.intro
  repeat (any_goals ((first | clear fg | go_quiet (fail));(try go_wp2_with (first | (go_at_call 107;refine (cU _ _ hv).mono ?_;rintro e w1 ⟨rfl,hb1⟩;(have hz1:=hb1.sz;obtain⟨eA,fb,fc,fA⟩:=hb1.lay (w.heap.size);obtain⟨ff,fE,fR,fS⟩:=hb1.lay (q));rw[HW.out]) | (go_at_call 108;refine (dR _ _).mono ?_;rintro e w2 ⟨rfl,rfl⟩;rw[tw])))))
  all_goals
   go_returns
   exact⟨by rw[RR.out];first | done | rfl,bl⟩):p:=h
theorem ada {p:Prop} (h:p:=by
  clear hw
  go_enter Tryz.func45,Tryz.ntmps45
  have fg:=True.intro
  repeat (any_goals ((first | clear fg | go_quiet (fail));(try go_wp2_with (first | (go_at_call 107;refine (cU _ _ hv).mono ?_;rintro e w1 ⟨rfl,hb1⟩;(have hz1:=hb1.sz;obtain⟨eA,fb,fc,fA⟩:=hb1.lay (w.heap.size);obtain⟨ff,fE,fR,fS⟩:=hb1.lay (q));rw[HW.out]) | (go_at_call 108;refine (dR _ _).mono ?_;rintro e w2 ⟨rfl,rfl⟩;rw[DK])))))
  all_goals
   go_returns
   exact⟨by rw[RR.out];first | done | rfl,bl⟩):p:=h
theorem ZA {p:Prop} (h:p:=by
  clear hw
  go_enter Tryz.func45,Tryz.ntmps45
  have fg:=True.intro
  repeat (any_goals ((first | clear fg | go_quiet (fail));(try go_wp2_with (first | (go_at_call 107;refine (cU _ _ hv).mono ?_;rintro e w1 ⟨rfl,hb1⟩;(have hz1:=hb1.sz;obtain⟨eA,fb,fc,fA⟩:=hb1.lay (w.heap.size);obtain⟨ff,fE,fR,fS⟩:=hb1.lay (q));rw[HW.out]) | (go_at_call 108;refine (dR _ _).mono ?_;rintro e w2 ⟨rfl,rfl⟩;rw[xu])))))
  all_goals
   go_returns
   exact⟨by rw[RR.out];first | done | rfl,bl⟩):p:=h
theorem ZB {p:Prop} (h:p:=by
  clear hw
  go_enter Tryz.func45,Tryz.ntmps45
  have fg:=True.intro
  repeat (any_goals ((first | clear fg | go_quiet (fail));(try go_wp2_with (first | (go_at_call 107;refine (cU _ _ hv).mono ?_;rintro e w1 ⟨rfl,hb1⟩;(have hz1:=hb1.sz;obtain⟨eA,fb,fc,fA⟩:=hb1.lay (w.heap.size);obtain⟨ff,fE,fR,fS⟩:=hb1.lay (q));rw[HW.out]) | (go_at_call 108;refine (dR _ _).mono ?_;rintro e w2 ⟨rfl,rfl⟩;rw[xv])))))
  all_goals
   go_returns
   exact⟨by rw[RR.out];first | done | rfl,bl⟩):p:=h
theorem adG {p:Prop} (h:p:=by
  clear hl
  go_enter Tryz.func142,Tryz.ntmps142
  have fg:=True.intro
  repeat (any_goals ((first | clear fg | go_quiet (fail));(try go_wp2_with (go_at_call 80;refine (xx tag _).mono ?_;rintro e w1 ⟨AK,cK,rfl,hRK,hb1⟩;(try simp only[aj]);clear hRK;(have hz1:=hb1.sz;obtain⟨eA,fb,fc,fA⟩:=hb1.lay (w.heap.size);obtain⟨ff,fE,fR,fS⟩:=hb1.lay (q))))))
  all_goals
   go_returns
   exact⟨by rw[RR.out];first | done | rfl,bl⟩):p:=h
theorem ac8 {p:Prop} (h:p:=by
  have HI:=hide hi
  clear hb hi
  go_enter Tryz.func13,Tryz.ntmps13
  have fg:=True.intro
  repeat (any_goals ((first | clear fg | go_quiet (fail));(try go_wp2_with (first | (go_at_call 44;refine (uT (cv.mk x0 x1 x2 x3 x4 x5 x6 x7 x8 x9 x10 x11 x12) S _ _ (Dat.cC.bel bl HV.out)).mono ?_;rintro e w1 ⟨rfl,hb1⟩;rw[HB.out];(have hz1:=hb1.sz;obtain⟨eA,fb,fc,fA⟩:=hb1.lay (w.heap.size);obtain⟨ff,fE,fR,fS⟩:=hb1.lay (w.heap.size+1))) | (go_at_call 45;refine (gp (cv.mk x0 x1 x2 x3 x4 x5 x6 x7 x8 x9 x10 x11 x12) ⟨k0,n0,i0,t0,Mn,hi0⟩ S w.heap.size _ (cG.bel bl Oy.out) HX.out).mono ?_;rintro e w2 ⟨rfl,hb2⟩;rw[HI.out])))))
  all_goals
   go_returns
   exact⟨by rw[RR.out];first | done | rfl,bl⟩):p:=h
theorem adO {p:Prop} (h:p:=by
  have dD:((keys.length:Int)==0)=true:=aE
  have dE:((keys.length:Int) != 0)=false:=aG
  have Sb:=hide yC
  clear dw yC
  go_enter Tryz.func105,Tryz.ntmps105
  have fg:=True.intro
  repeat (any_goals ((first | clear fg | go_quiet (fail));(try go_wp2_with (first | (go_at_call 142;refine (E5 (cv.mk x0 x1 x2 x3 x4 x5 x6 x7 x8 x9 x10 x11 x12) 7 tag cR its keys S S' q _ _ _ _ _ (cG.bel bl HS.out) (Row.bel bl lk.out)).mono ?_;rintro e wp ⟨rfl,hbp⟩;rw[Sb.out];(have hzp:=hbp.sz;obtain⟨afO,afP,afQ,afR⟩:=hbp.lay (w.heap.size);obtain⟨afS,afT,afU,afV⟩:=hbp.lay (q)))))))
  all_goals
   go_returns
   exact⟨by rw[RR.out];first | done | rfl,bl⟩):p:=h
theorem Tb {p:Prop} (h:p:=by
  go_enter Tryz.func39,Tryz.ntmps39
  go_wp2_with (fail)
  repeat (any_goals (go_quiet (fail);(try go_wp2_with (fail))))
  all_goals
   go_returns
   first | exact⟨by rw[RR.out];first | done | rfl,_,rfl⟩ | exact⟨by rw[RR.out];first | done | rfl,0,rfl⟩):p:=h
theorem abH {p:Prop} (h:p:=by
  go_enter Tryz.func87,Tryz.ntmps87
  go_wp2_with (first | (go_at_call 86;refine (oQ ⟨k,n,i,t,lo,hi⟩ _ hv (htab.on (cE.alloc (cE.refl w) _))).mono ?_;rintro e w1 ⟨rfl,hb1⟩;have hz1:=hb1.sz;obtain⟨eA,fb,fc,fA⟩:=hb1.lay (w.heap.size);(try simp only[cV.val]));(try simp only[HB.out]) | (go_at_call 123;refine (Eu (tM ⟨k,n,i,t,lo,hi⟩) _ hT).mono ?_;rintro e w2 ⟨rfl,hb2⟩;have hz2:=hb2.sz;obtain⟨gO,lJ,mG,mH⟩:=hb2.lay (w.heap.size);(try simp only[cV.val])))
  all_goals
   go_returns
   rw[R0.out,R1.out]
   exact⟨rfl,bl⟩):p:=h
theorem adr {p:Prop} (h:p:=by
  go_enter Tryz.func45,Tryz.ntmps45
  have fg:=True.intro
  repeat (any_goals ((first | clear fg | go_quiet (fail));(try go_wp2_with (first | (go_at_call 107;refine (cU _ _ hv).mono ?_;rintro e w1 ⟨rfl,hb1⟩;(have hz1:=hb1.sz;obtain⟨eA,fb,fc,fA⟩:=hb1.lay (w.heap.size);obtain⟨ff,fE,fR,fS⟩:=hb1.lay (q);obtain⟨iM,jx,ko,kp⟩:=hb1.lay (b1));rw[HW.out]) | (go_at_call 108;refine (dR _ _).mono ?_;rintro e w2 ⟨rfl,rfl⟩;rw[nW])))))
  all_goals
   go_returns
   exact⟨by rw[RR.out];first | done | rfl,bl⟩):p:=h
theorem adt {p:Prop} (h:p:=by
  go_enter Tryz.func45,Tryz.ntmps45
  have fg:=True.intro
  repeat (any_goals ((first | clear fg | go_quiet (fail));(try go_wp2_with (first | (go_at_call 107;refine (cU _ _ hv).mono ?_;rintro e w1 ⟨rfl,hb1⟩;(have hz1:=hb1.sz;obtain⟨eA,fb,fc,fA⟩:=hb1.lay (w.heap.size);obtain⟨ff,fE,fR,fS⟩:=hb1.lay (q);obtain⟨iM,jx,ko,kp⟩:=hb1.lay (b1));rw[HW.out]) | (go_at_call 108;refine (dR _ _).mono ?_;rintro e w2 ⟨rfl,rfl⟩;rw[nX])))))
  all_goals
   go_returns
   exact⟨by rw[RR.out];first | done | rfl,bl⟩):p:=h
theorem adw {p:Prop} (h:p:=by
  go_enter Tryz.func45,Tryz.ntmps45
  have fg:=True.intro
  repeat (any_goals ((first | clear fg | go_quiet (fail));(try go_wp2_with (first | (go_at_call 107;refine (cU _ _ hv).mono ?_;rintro e w1 ⟨rfl,hb1⟩;(have hz1:=hb1.sz;obtain⟨eA,fb,fc,fA⟩:=hb1.lay (w.heap.size);obtain⟨ff,fE,fR,fS⟩:=hb1.lay (q);obtain⟨iM,jx,ko,kp⟩:=hb1.lay (b1));rw[HW.out]) | (go_at_call 108;refine (dR _ _).mono ?_;rintro e w2 ⟨rfl,rfl⟩;rw[nY])))))
  all_goals
   go_returns
   exact⟨by rw[RR.out];first | done | rfl,bl⟩):p:=h
theorem adz {p:Prop} (h:p:=by
  go_enter Tryz.func45,Tryz.ntmps45
  have fg:=True.intro
  repeat (any_goals ((first | clear fg | go_quiet (fail));(try go_wp2_with (first | (go_at_call 107;refine (cU _ _ hv).mono ?_;rintro e w1 ⟨rfl,hb1⟩;(have hz1:=hb1.sz;obtain⟨eA,fb,fc,fA⟩:=hb1.lay (w.heap.size);obtain⟨ff,fE,fR,fS⟩:=hb1.lay (q);obtain⟨iM,jx,ko,kp⟩:=hb1.lay (b1));rw[HW.out]) | (go_at_call 108;refine (dR _ _).mono ?_;rintro e w2 ⟨rfl,rfl⟩;rw[lS])))))
  all_goals
   go_returns
   exact⟨by rw[RR.out];first | done | rfl,bl⟩):p:=h
theorem adB {p:Prop} (h:p:=by
  go_enter Tryz.func45,Tryz.ntmps45
  have fg:=True.intro
  repeat (any_goals ((first | clear fg | go_quiet (fail));(try go_wp2_with (first | (go_at_call 107;refine (cU _ _ hv).mono ?_;rintro e w1 ⟨rfl,hb1⟩;(have hz1:=hb1.sz;obtain⟨eA,fb,fc,fA⟩:=hb1.lay (w.heap.size);obtain⟨ff,fE,fR,fS⟩:=hb1.lay (q);obtain⟨iM,jx,ko,kp⟩:=hb1.lay (b1));rw[HW.out]) | (go_at_call 108;refine (dR _ _).mono ?_;rintro e w2 ⟨rfl,rfl⟩;rw[nZ])))))
  all_goals
   go_returns
   exact⟨by rw[RR.out];first | done | rfl,bl⟩):p:=h
theorem adD {p:Prop} (h:p:=by
  go_enter Tryz.func45,Tryz.ntmps45
  have fg:=True.intro
  repeat (any_goals ((first | clear fg | go_quiet (fail));(try go_wp2_with (first | (go_at_call 107;refine (cU _ _ hv).mono ?_;rintro e w1 ⟨rfl,hb1⟩;(have hz1:=hb1.sz;obtain⟨eA,fb,fc,fA⟩:=hb1.lay (w.heap.size);obtain⟨ff,fE,fR,fS⟩:=hb1.lay (q);obtain⟨iM,jx,ko,kp⟩:=hb1.lay (b1));rw[HW.out]) | (go_at_call 108;refine (dR _ _).mono ?_;rintro e w2 ⟨rfl,rfl⟩;rw[oa])))))
  all_goals
   go_returns
   exact⟨by rw[RR.out];first | done | rfl,bl⟩):p:=h
theorem adi {p:Prop} (h:p:=by
  go_enter Tryz.func45,Tryz.ntmps45
  have fg:=True.intro
  repeat (any_goals ((first | clear fg | go_quiet (fail));(try go_wp2_with (first | (go_at_call 107;refine (cU _ _ hv).mono ?_;rintro e w1 ⟨rfl,hb1⟩;(have hz1:=hb1.sz;obtain⟨eA,fb,fc,fA⟩:=hb1.lay (w.heap.size);obtain⟨ff,fE,fR,fS⟩:=hb1.lay (q);obtain⟨iM,jx,ko,kp⟩:=hb1.lay (b1));rw[HW.out]) | (go_at_call 108;refine (dR _ _).mono ?_;rintro e w2 ⟨rfl,rfl⟩;rw[p9])))))
  all_goals
   go_returns
   exact⟨by rw[RR.out];first | done | rfl,bl⟩):p:=h
theorem adl {p:Prop} (h:p:=by
  go_enter Tryz.func45,Tryz.ntmps45
  have fg:=True.intro
  repeat (any_goals ((first | clear fg | go_quiet (fail));(try go_wp2_with (first | (go_at_call 107;refine (cU _ _ hv).mono ?_;rintro e w1 ⟨rfl,hb1⟩;(have hz1:=hb1.sz;obtain⟨eA,fb,fc,fA⟩:=hb1.lay (w.heap.size);obtain⟨ff,fE,fR,fS⟩:=hb1.lay (q);obtain⟨iM,jx,ko,kp⟩:=hb1.lay (b1));rw[HW.out]) | (go_at_call 108;refine (dR _ _).mono ?_;rintro e w2 ⟨rfl,rfl⟩;rw[ny])))))
  all_goals
   go_returns
   exact⟨by rw[RR.out];first | done | rfl,bl⟩):p:=h
theorem adn {p:Prop} (h:p:=by
  go_enter Tryz.func45,Tryz.ntmps45
  have fg:=True.intro
  repeat (any_goals ((first | clear fg | go_quiet (fail));(try go_wp2_with (first | (go_at_call 107;refine (cU _ _ hv).mono ?_;rintro e w1 ⟨rfl,hb1⟩;(have hz1:=hb1.sz;obtain⟨eA,fb,fc,fA⟩:=hb1.lay (w.heap.size);obtain⟨ff,fE,fR,fS⟩:=hb1.lay (q);obtain⟨iM,jx,ko,kp⟩:=hb1.lay (b1));rw[HW.out]) | (go_at_call 108;refine (dR _ _).mono ?_;rintro e w2 ⟨rfl,rfl⟩;rw[qa])))))
  all_goals
   go_returns
   exact⟨by rw[RR.out];first | done | rfl,bl⟩):p:=h
theorem adp {p:Prop} (h:p:=by
  go_enter Tryz.func45,Tryz.ntmps45
  have fg:=True.intro
  repeat (any_goals ((first | clear fg | go_quiet (fail));(try go_wp2_with (first | (go_at_call 107;refine (cU _ _ hv).mono ?_;rintro e w1 ⟨rfl,hb1⟩;(have hz1:=hb1.sz;obtain⟨eA,fb,fc,fA⟩:=hb1.lay (w.heap.size);obtain⟨ff,fE,fR,fS⟩:=hb1.lay (q);obtain⟨iM,jx,ko,kp⟩:=hb1.lay (b1));rw[HW.out]) | (go_at_call 108;refine (dR _ _).mono ?_;rintro e w2 ⟨rfl,rfl⟩;rw[qb])))))
  all_goals
   go_returns
   exact⟨by rw[RR.out];first | done | rfl,bl⟩):p:=h
theorem abG {p:Prop} (h:p:=by
  go_enter Tryz.func92,Tryz.ntmps92
  go_wp2_with (first | (go_at_call 91;refine (oP ⟨k,n,i,t,lo,hi⟩ _ hv).mono ?_;rintro e w1 ⟨rfl,hb1⟩;have hz1:=hb1.sz;obtain⟨eA,fb,fc,fA⟩:=hb1.lay (w.heap.size);(try simp only[cV.val]));(try simp only[HB.out]) | (go_at_call 126;refine (Ev (tM ⟨k,n,i,t,lo,hi⟩) _ hT).mono ?_;rintro e w2 ⟨rfl,hb2⟩;have hz2:=hb2.sz;obtain⟨gO,lJ,mG,mH⟩:=hb2.lay (w.heap.size);(try simp only[cV.val])))
  all_goals
   go_returns
   rw[R0.out,R1.out]
   exact⟨rfl,bl⟩):p:=h
theorem adg {p:Prop} (h:p:=by
  clear hw
  go_enter Tryz.func45,Tryz.ntmps45
  have fg:=True.intro
  repeat (any_goals ((first | clear fg | go_quiet (fail));(try go_wp2_with (first | (go_at_call 107;refine (cU _ _ hv).mono ?_;rintro e w1 ⟨rfl,hb1⟩;(have hz1:=hb1.sz;obtain⟨eA,fb,fc,fA⟩:=hb1.lay (w.heap.size);obtain⟨ff,fE,fR,fS⟩:=hb1.lay (q));rw[HW.out]) | (go_at_call 108;refine (dR _ _).mono ?_;rintro e w2 ⟨rfl,rfl⟩;rw[Av])))))
  all_goals
   go_returns
   exact⟨by rw[RR.out];first | done | rfl,bl⟩):p:=h
theorem adb {p:Prop} (h:p:=by
  clear hw
  go_enter Tryz.func45,Tryz.ntmps45
  have fg:=True.intro
  repeat (any_goals ((first | clear fg | go_quiet (fail));(try go_wp2_with (first | (go_at_call 107;refine (cU _ _ hv).mono ?_;rintro e w1 ⟨rfl,hb1⟩;(have hz1:=hb1.sz;obtain⟨eA,fb,fc,fA⟩:=hb1.lay (w.heap.size);obtain⟨ff,fE,fR,fS⟩:=hb1.lay (q));rw[HW.out]) | (go_at_call 108;refine (dR _ _).mono ?_;rintro e w2 ⟨rfl,rfl⟩;rw[DL])))))
  all_goals
   go_returns
   exact⟨by rw[RR.out];first | done | rfl,bl⟩):p:=h
theorem ade {p:Prop} (h:p:=by
  clear hw
  go_enter Tryz.func45,Tryz.ntmps45
  have fg:=True.intro
  repeat (any_goals ((first | clear fg | go_quiet (fail));(try go_wp2_with (first | (go_at_call 107;refine (cU _ _ hv).mono ?_;rintro e w1 ⟨rfl,hb1⟩;(have hz1:=hb1.sz;obtain⟨eA,fb,fc,fA⟩:=hb1.lay (w.heap.size);obtain⟨ff,fE,fR,fS⟩:=hb1.lay (q));rw[HW.out]) | (go_at_call 108;refine (dR _ _).mono ?_;rintro e w2 ⟨rfl,rfl⟩;rw[DM])))))
  all_goals
   go_returns
   exact⟨by rw[RR.out];first | done | rfl,bl⟩):p:=h
theorem adf {p:Prop} (h:p:=by
  clear hw
  go_enter Tryz.func45,Tryz.ntmps45
  have fg:=True.intro
  repeat (any_goals ((first | clear fg | go_quiet (fail));(try go_wp2_with (first | (go_at_call 107;refine (cU _ _ hv).mono ?_;rintro e w1 ⟨rfl,hb1⟩;(have hz1:=hb1.sz;obtain⟨eA,fb,fc,fA⟩:=hb1.lay (w.heap.size);obtain⟨ff,fE,fR,fS⟩:=hb1.lay (q));rw[HW.out]) | (go_at_call 108;refine (dR _ _).mono ?_;rintro e w2 ⟨rfl,rfl⟩;rw[DN])))))
  all_goals
   go_returns
   exact⟨by rw[RR.out];first | done | rfl,bl⟩):p:=h
theorem adq {p:Prop} (h:p:=by
  go_enter Tryz.func45,Tryz.ntmps45
  have fg:=True.intro
  repeat (any_goals ((first | clear fg | go_quiet (fail));(try go_wp2_with (first | (go_at_call 107;refine (cU _ _ hv).mono ?_;rintro e w1 ⟨rfl,hb1⟩;(have hz1:=hb1.sz;obtain⟨eA,fb,fc,fA⟩:=hb1.lay (w.heap.size);obtain⟨ff,fE,fR,fS⟩:=hb1.lay (q));rw[HW.out]) | (go_at_call 108;refine (dR _ _).mono ?_;rintro e w2 ⟨rfl,rfl⟩;rw[nW])))))
  all_goals
   go_returns
   exact⟨by rw[RR.out];first | done | rfl,bl⟩):p:=h
theorem ads {p:Prop} (h:p:=by
  go_enter Tryz.func45,Tryz.ntmps45
  have fg:=True.intro
  repeat (any_goals ((first | clear fg | go_quiet (fail));(try go_wp2_with (first | (go_at_call 107;refine (cU _ _ hv).mono ?_;rintro e w1 ⟨rfl,hb1⟩;(have hz1:=hb1.sz;obtain⟨eA,fb,fc,fA⟩:=hb1.lay (w.heap.size);obtain⟨ff,fE,fR,fS⟩:=hb1.lay (q));rw[HW.out]) | (go_at_call 108;refine (dR _ _).mono ?_;rintro e w2 ⟨rfl,rfl⟩;rw[nX])))))
  all_goals
   go_returns
   exact⟨by rw[RR.out];first | done | rfl,bl⟩):p:=h
theorem adu {p:Prop} (h:p:=by
  go_enter Tryz.func45,Tryz.ntmps45
  have fg:=True.intro
  repeat (any_goals ((first | clear fg | go_quiet (fail));(try go_wp2_with (first | (go_at_call 107;refine (cU _ _ hv).mono ?_;rintro e w1 ⟨rfl,hb1⟩;(have hz1:=hb1.sz;obtain⟨eA,fb,fc,fA⟩:=hb1.lay (w.heap.size);obtain⟨ff,fE,fR,fS⟩:=hb1.lay (q));rw[HW.out]) | (go_at_call 108;refine (dR _ _).mono ?_;rintro e w2 ⟨rfl,rfl⟩;rw[lQ])))))
  all_goals
   go_returns
   exact⟨by rw[RR.out];first | done | rfl,bl⟩):p:=h
theorem adv {p:Prop} (h:p:=by
  go_enter Tryz.func45,Tryz.ntmps45
  have fg:=True.intro
  repeat (any_goals ((first | clear fg | go_quiet (fail));(try go_wp2_with (first | (go_at_call 107;refine (cU _ _ hv).mono ?_;rintro e w1 ⟨rfl,hb1⟩;(have hz1:=hb1.sz;obtain⟨eA,fb,fc,fA⟩:=hb1.lay (w.heap.size);obtain⟨ff,fE,fR,fS⟩:=hb1.lay (q));rw[HW.out]) | (go_at_call 108;refine (dR _ _).mono ?_;rintro e w2 ⟨rfl,rfl⟩;rw[nY])))))
  all_goals
   go_returns
   exact⟨by rw[RR.out];first | done | rfl,bl⟩):p:=h
theorem adx {p:Prop} (h:p:=by
  go_enter Tryz.func45,Tryz.ntmps45
  have fg:=True.intro
  repeat (any_goals ((first | clear fg | go_quiet (fail));(try go_wp2_with (first | (go_at_call 107;refine (cU _ _ hv).mono ?_;rintro e w1 ⟨rfl,hb1⟩;(have hz1:=hb1.sz;obtain⟨eA,fb,fc,fA⟩:=hb1.lay (w.heap.size);obtain⟨ff,fE,fR,fS⟩:=hb1.lay (q));rw[HW.out]) | (go_at_call 108;refine (dR _ _).mono ?_;rintro e w2 ⟨rfl,rfl⟩;rw[lR])))))
  all_goals
   go_returns
   exact⟨by rw[RR.out];first | done | rfl,bl⟩):p:=h
theorem ady {p:Prop} (h:p:=by
  go_enter Tryz.func45,Tryz.ntmps45
  have fg:=True.intro
  repeat (any_goals ((first | clear fg | go_quiet (fail));(try go_wp2_with (first | (go_at_call 107;refine (cU _ _ hv).mono ?_;rintro e w1 ⟨rfl,hb1⟩;(have hz1:=hb1.sz;obtain⟨eA,fb,fc,fA⟩:=hb1.lay (w.heap.size);obtain⟨ff,fE,fR,fS⟩:=hb1.lay (q));rw[HW.out]) | (go_at_call 108;refine (dR _ _).mono ?_;rintro e w2 ⟨rfl,rfl⟩;rw[lS])))))
  all_goals
   go_returns
   exact⟨by rw[RR.out];first | done | rfl,bl⟩):p:=h
theorem adA {p:Prop} (h:p:=by
  go_enter Tryz.func45,Tryz.ntmps45
  have fg:=True.intro
  repeat (any_goals ((first | clear fg | go_quiet (fail));(try go_wp2_with (first | (go_at_call 107;refine (cU _ _ hv).mono ?_;rintro e w1 ⟨rfl,hb1⟩;(have hz1:=hb1.sz;obtain⟨eA,fb,fc,fA⟩:=hb1.lay (w.heap.size);obtain⟨ff,fE,fR,fS⟩:=hb1.lay (q));rw[HW.out]) | (go_at_call 108;refine (dR _ _).mono ?_;rintro e w2 ⟨rfl,rfl⟩;rw[nZ])))))
  all_goals
   go_returns
   exact⟨by rw[RR.out];first | done | rfl,bl⟩):p:=h
theorem adC {p:Prop} (h:p:=by
  go_enter Tryz.func45,Tryz.ntmps45
  have fg:=True.intro
  repeat (any_goals ((first | clear fg | go_quiet (fail));(try go_wp2_with (first | (go_at_call 107;refine (cU _ _ hv).mono ?_;rintro e w1 ⟨rfl,hb1⟩;(have hz1:=hb1.sz;obtain⟨eA,fb,fc,fA⟩:=hb1.lay (w.heap.size);obtain⟨ff,fE,fR,fS⟩:=hb1.lay (q));rw[HW.out]) | (go_at_call 108;refine (dR _ _).mono ?_;rintro e w2 ⟨rfl,rfl⟩;rw[oa])))))
  all_goals
   go_returns
   exact⟨by rw[RR.out];first | done | rfl,bl⟩):p:=h
theorem adh {p:Prop} (h:p:=by
  go_enter Tryz.func45,Tryz.ntmps45
  have fg:=True.intro
  repeat (any_goals ((first | clear fg | go_quiet (fail));(try go_wp2_with (first | (go_at_call 107;refine (cU _ _ hv).mono ?_;rintro e w1 ⟨rfl,hb1⟩;(have hz1:=hb1.sz;obtain⟨eA,fb,fc,fA⟩:=hb1.lay (w.heap.size);obtain⟨ff,fE,fR,fS⟩:=hb1.lay (q));rw[HW.out]) | (go_at_call 108;refine (dR _ _).mono ?_;rintro e w2 ⟨rfl,rfl⟩;rw[p9])))))
  all_goals
   go_returns
   exact⟨by rw[RR.out];first | done | rfl,bl⟩):p:=h
theorem adk {p:Prop} (h:p:=by
  go_enter Tryz.func45,Tryz.ntmps45
  have fg:=True.intro
  repeat (any_goals ((first | clear fg | go_quiet (fail));(try go_wp2_with (first | (go_at_call 107;refine (cU _ _ hv).mono ?_;rintro e w1 ⟨rfl,hb1⟩;(have hz1:=hb1.sz;obtain⟨eA,fb,fc,fA⟩:=hb1.lay (w.heap.size);obtain⟨ff,fE,fR,fS⟩:=hb1.lay (q));rw[HW.out]) | (go_at_call 108;refine (dR _ _).mono ?_;rintro e w2 ⟨rfl,rfl⟩;rw[ny])))))
  all_goals
   go_returns
   exact⟨by rw[RR.out];first | done | rfl,bl⟩):p:=h
theorem adm {p:Prop} (h:p:=by
  go_enter Tryz.func45,Tryz.ntmps45
  have fg:=True.intro
  repeat (any_goals ((first | clear fg | go_quiet (fail));(try go_wp2_with (first | (go_at_call 107;refine (cU _ _ hv).mono ?_;rintro e w1 ⟨rfl,hb1⟩;(have hz1:=hb1.sz;obtain⟨eA,fb,fc,fA⟩:=hb1.lay (w.heap.size);obtain⟨ff,fE,fR,fS⟩:=hb1.lay (q));rw[HW.out]) | (go_at_call 108;refine (dR _ _).mono ?_;rintro e w2 ⟨rfl,rfl⟩;rw[qa])))))
  all_goals
   go_returns
   exact⟨by rw[RR.out];first | done | rfl,bl⟩):p:=h
theorem ado {p:Prop} (h:p:=by
  go_enter Tryz.func45,Tryz.ntmps45
  have fg:=True.intro
  repeat (any_goals ((first | clear fg | go_quiet (fail));(try go_wp2_with (first | (go_at_call 107;refine (cU _ _ hv).mono ?_;rintro e w1 ⟨rfl,hb1⟩;(have hz1:=hb1.sz;obtain⟨eA,fb,fc,fA⟩:=hb1.lay (w.heap.size);obtain⟨ff,fE,fR,fS⟩:=hb1.lay (q));rw[HW.out]) | (go_at_call 108;refine (dR _ _).mono ?_;rintro e w2 ⟨rfl,rfl⟩;rw[qb])))))
  all_goals
   go_returns
   exact⟨by rw[RR.out];first | done | rfl,bl⟩):p:=h
theorem QW {p:Prop} (h:p:=by
  go_enter Tryz.func93,Tryz.ntmps93
  go_wp2_with (fail)
  all_goals
   go_returns
   exact⟨by (rw[HE.out.1,HE.out.2] <;> rfl),bl⟩):p:=h
theorem QX {p:Prop} (h:p:=by
  go_enter Tryz.func88,Tryz.ntmps88
  go_wp2_with (fail)
  all_goals
   go_returns
   exact⟨by (rw[HE.out.1,HE.out.2] <;> rfl),bl⟩):p:=h
theorem afk {p:Prop} (h:p:=by
  have d40:decide ((40:Int)<=(keys.length:Int))=true:=aD
  have RR:=hide (R2.out aB h40)
  go_wp2_with (fail)
  all_goals
   go_returns
   exact⟨by (rw[RR.out] <;> rfl),⟨_,_,by rw[RR.out];exact W2.out.on bl⟩,lK.gI (cE.trans hbw2 bl) hN⟩):p:=h
theorem abA {p:Prop} (h:p:=by
  have ho:=World.ownsRow_made (base:=w.heap.size+1) (e:=5) (size:=1) (w.alloc (.cells #[.int .i64 lo,.int .i64 hi] 32)) #[] 0 aK aF rfl
  rw[World.size_alloc]at ho
  exact⟨0,rfl,by omega,ho,by simp,by simp,bl,by simp;omega⟩):p:=h
theorem afe {p:Prop} (h:p:=by
  have dj:decide ((it.length:Int)<=(j:Int))=true:=aD
  have R1:=R1.out aB
  go_wp2_with (fail)
  all_goals
   go_returns
   exact⟨by (rw[R1] <;> rfl),⟨_,_,by rw[R1];exact W1.out.on bl⟩,lK.gI bl hN⟩):p:=h
theorem ya {p:Prop} (h:p:=by
  have HI:=hide hi
  clear hi hk
  have fg:=True.intro
  repeat (any_goals ((first | clear fg | go_quiet (fail));(try go_wp2_with (go_at_call 27;(with_reducible refine (eB s ⟨cH,cM,cN,cO,cP,dn⟩ S q _ (cG.bel bl HS.out) ⟨eY,eG,fa,dY,er,gw⟩).mono ?_);rintro e xO ⟨rfl,eM⟩;(have mX:=eM.sz;obtain⟨iB,iC,iD,iE⟩:=eM.lay (q);obtain⟨iF,iG,iH,iI⟩:=eM.lay (b1));rw[HI.out]))))
  go_roundw
  case rel=>exact⟨1,rfl,by omega,fun _=>HC,bl⟩
  case measure=>simp[intOf]):p:=h
theorem zx {p:Prop} (h:p:=by
  have fg:=True.intro
  repeat (any_goals ((first | clear fg | go_quiet (fail));(try go_wp2_with (go_at_call 27;(with_reducible refine (eB s ⟨dG,dN,dQ,dV,dW,dZ⟩ S q _ (cG.bel bl HS.out) ⟨kY,km,lh,gY,kn,lH⟩).mono ?_);rintro e Sm ⟨rfl,jj⟩;(have BN:=jj.sz;obtain⟨qB,qC,qD,qE⟩:=jj.lay (q);obtain⟨qF,qG,qH,qI⟩:=jj.lay (b1));rw[HI.out]))))
  all_goals
   go_returns
   exact⟨gG RR.out.symm,bl⟩):p:=h
theorem zy {p:Prop} (h:p:=by
  have fg:=True.intro
  repeat (any_goals ((first | clear fg | go_quiet (fail));(try go_wp2_with (go_at_call 27;(with_reducible refine (eB s ⟨cH,cM,cN,cO,cP,dn⟩ S q _ (cG.bel bl HS.out) ⟨eY,eG,fa,dY,er,gw⟩).mono ?_);rintro e xO ⟨rfl,eM⟩;(have mX:=eM.sz;obtain⟨iB,iC,iD,iE⟩:=eM.lay (q);obtain⟨iF,iG,iH,iI⟩:=eM.lay (b1));rw[HI.out]))))
  all_goals
   go_returns
   exact⟨gG RR.out.symm,bl⟩):p:=h
theorem PM {p:Prop} (h:p:=by
  have fg:=True.intro
  repeat (any_goals ((first | clear fg | go_quiet (fail));(try go_wp2_with (first | (go_at_call 103;refine (mQ cH _).mono ?_;rintro e wa ⟨rfl,hba⟩;(try rw[Tj.out]);(have hza:=hba.sz;obtain⟨PO,PQ,PS,PT⟩:=hba.lay (w.heap.size);obtain⟨PU,PV,PW,PX⟩:=hba.lay (wr.heap.size);obtain⟨adU,adV,adW,adX⟩:=hba.lay (b1))) | (go_at_call 102;refine (qd cM 6 S _ _ _ (Row.bel bl kX.out)).mono ?_;rintro e wb ⟨rfl,hbb⟩;(try rw[Tk.out]);(try rw[dl]);(try simp only[Bool.and_true,Bool.true_and,Bool.and_false,Bool.false_and]);(have hzb:=hbb.sz;obtain⟨PY,P0,P2,P4⟩:=hbb.lay (w.heap.size);obtain⟨P5,P6,P7,P8⟩:=hbb.lay (wr.heap.size);obtain⟨adY,adZ,ad1,ad2⟩:=hbb.lay (b1))) | (go_at_call 104;refine (yH cM S _ _ _ (Row.bel bl kX.out)).mono ?_;rintro e wc ⟨rfl,hbc⟩;(try rw[Tl.out]);(have hzc:=hbc.sz;obtain⟨P9,Qa,Qb,Qc⟩:=hbc.lay (w.heap.size);obtain⟨Qd,Qe,Qf,Qg⟩:=hbc.lay (wr.heap.size);obtain⟨ad3,ad4,ad5,ad6⟩:=hbc.lay (b1)))))))
  all_goals
   go_returns
   exact⟨gG (Tt (s:=(cv.mk x0 x1 x2 x3 x4 x5 x6 x7 x8 x9 x10 x11 x12)) m h1 HR0.out).symm,bl⟩):p:=h
theorem aof {p:Prop} (h:p:=by
  obtain⟨l,f,c0,c1,c2,c3,c4,c5,c6,c7,c8,c9,c10,c11,c12⟩:=h
  exact⟨by simpa using l,fun o=>by simp[f],by simp[c0,go_sem],by simp[c1,go_sem],by simp[c2,go_sem],by simp[c3,go_sem],by simp[c4,go_sem],by simp[c5,go_sem],by simp[c6,go_sem],by simp[c7,go_sem],by simp[c8,go_sem],by simp[c9,go_sem],by simp[c10,go_sem],by simp[c11,go_sem],by simp[c12,go_sem]⟩):p:=h
theorem Qo {p:Prop} (h:p:=by
  have fg:=True.intro
  repeat (any_goals ((first | clear fg | go_quiet (fail));(try go_wp2_with (first | (go_at_call 94;refine (mS cH _ (HT.out.on bl)).mono ?_;rintro e wa ⟨rfl,hba⟩;(try rw[Tj.out]);(have hza:=hba.sz;obtain⟨PO,PQ,PS,PT⟩:=hba.lay (wr.heap.size);obtain⟨PU,PV,PW,PX⟩:=hba.lay (b1))) | (go_at_call 37;refine (mT cM S _ _ _ (Row.bel bl kX.out) (HT.out.on bl)).mono ?_;rintro e wb ⟨rfl,hbb⟩;(try rw[Tk.out]);(have hzb:=hbb.sz;obtain⟨PY,P0,P2,P4⟩:=hbb.lay (wr.heap.size);obtain⟨P5,P6,P7,P8⟩:=hbb.lay (b1))) | (go_at_call 95;refine (xA cM S _ _ _ (Row.bel bl kX.out)).mono ?_;rintro e wc ⟨rfl,hbc⟩;(try rw[Tl.out]);(have hzc:=hbc.sz;obtain⟨P9,Qa,Qb,Qc⟩:=hbc.lay (wr.heap.size);obtain⟨Qd,Qe,Qf,Qg⟩:=hbc.lay (b1)))))))
  all_goals
   go_returns
   exact⟨gG (show (l.all mY&&decide (l.length<=8))=false by rw[show l.all mY=false from List.all_eq_false.2 ⟨_,List.getElem_mem h1,by rw[HR0.out];simp⟩];rfl).symm,bl⟩):p:=h
theorem ov {p:Prop} (h:p:=by
  go_wp2_with (fail)
  repeat (any_goals (go_quiet (fail);(try go_wp2_with (fail))))
  all_goals
   go_returns
   exact⟨gG RR.out.symm,bl⟩):p:=h
theorem afa {p:Prop} (h:p:=by
  have W1:=hide (HW.out.on hbr)
  have hq:q<wr.heap.size:=ak hq hbr.size
  obtain⟨r4,hr4⟩:∃x,w.heap.size=x:=⟨_,rfl⟩
  obtain⟨r5,nt⟩:∃x,w.heap.size+1=x:=⟨_,rfl⟩
  rw[hr4]at R4
  rw[nt]at R5
  simp only[nt]
  simp only[hr4]
  have HR4:=hide hr4
  have TG:=hide nt
  clear hwr hr4 nt
  replace RR:=RR (⟨vk,vn,vi,vt,vl,vh⟩:cV)
  obtain⟨g,o,c2,g3,o3,c3,lN,zE,hg,hg3,⟨hc2,hm2,hc3,sK⟩,hput⟩:=W1.out.CI (al hN hbr.size) hm hx hj
  unfold maxLen at hm2 sK
  have yp:=hide hput
  have dm:decide ((m:Int)<(x2.length:Int))=true:=aD
  have dj:decide ((j:Int)<(it.length:Int))=true:=aD
  clear hput HW
  refine eP 13 (fun s f wq=>(cE wr wq)/\(s 0=true->(f 0)=.pointer (some ⟨q,0,none⟩))/\(s 1=true->(f 1)=.pointer (some ⟨q,0,none⟩))/\(s 2=true->(f 2)=.pointer (some ⟨q,2,none⟩))/\(s 3=true->(f 3)=.slice (some ⟨g,o,none⟩) x2.length c2)/\(s 4=true->(f 4)=.pointer (some ⟨r4,1,none⟩))/\(s 5=true->(f 5)=.int .i64 (m:Int))/\(s 6=true->(f 6)=.pointer (some ⟨g,o+m*5,none⟩))/\(s 7=true->(f 7)=.pointer (some ⟨g,o+m*5+3,none⟩))/\(s 8=true->(f 8)=.slice (some ⟨g3,o3,none⟩) it.length c3)/\(s 9=true->(f 9)=.pointer (some ⟨r4,2,none⟩))/\(s 10=true->(f 10)=.int .i64 (j:Int))/\(s 11=true->(f 11)=.agg #[.int .i64 vk,.int .i64 vn,.int .i64 vi,.string vt,.int .i64 vl,.int .i64 vh])/\(s 12=true->(f 12)=.pointer (some ⟨g3,o3+j*6,none⟩))) [(0,some 20),(1,some 21),(2,some 22),(3,some 23),(4,some 24),(5,some 25),(6,some 26),(7,some 27),(8,some 28),(9,some 29),(10,some 30),(11,some 31),(12,some 32),(13,none)] rfl aC aC ?hJ rfl ?hstep ?hlast
  case hJ=>exact fun u=>⟨bl,(fun h=>absurd h ai),(fun h=>absurd h ai),(fun h=>absurd h ai),(fun h=>absurd h ai),(fun h=>absurd h ai),(fun h=>absurd h ai),(fun h=>absurd h ai),(fun h=>absurd h ai),(fun h=>absurd h ai),(fun h=>absurd h ai),(fun h=>absurd h ai),(fun h=>absurd h ai),(fun h=>absurd h ai)⟩
  case hstep =>
   exact rk0
  case hlast =>
   exact ai6):p:=h
theorem afh {p:Prop} (h:p:=by
  have W1:=hide (HW.out.on hbr)
  have hq:q<wr.heap.size:=ak hq hbr.size
  obtain⟨r4,hr4⟩:∃x,w.heap.size=x:=⟨_,rfl⟩
  obtain⟨r5,nt⟩:∃x,w.heap.size+1=x:=⟨_,rfl⟩
  rw[hr4]at R4
  rw[nt]at R5
  simp only[nt]
  simp only[hr4]
  have HR4:=hide hr4
  have TG:=hide nt
  clear hwr hr4 nt
  replace RR:=RR (⟨vk,vn,vi,vt,vl,vh⟩:cV)
  obtain⟨g,o,c2,g3,o3,c3,lN,zE,hg,hg3,⟨hc2,hm2,hc3,sK⟩,hput⟩:=W1.out.CI (al hN hbr.size) hm hx hj
  unfold maxLen at hm2 sK
  have yp:=hide hput
  have dm:decide ((m:Int)<(x2.length:Int))=true:=aD
  have dj:decide ((j:Int)<(it.length:Int))=true:=aD
  clear hput HW
  refine eP 13 (fun s f wq=>(cE wr wq)/\(s 0=true->(f 0)=.pointer (some ⟨q,0,none⟩))/\(s 1=true->(f 1)=.pointer (some ⟨q,0,none⟩))/\(s 2=true->(f 2)=.pointer (some ⟨q,2,none⟩))/\(s 3=true->(f 3)=.slice (some ⟨g,o,none⟩) x2.length c2)/\(s 4=true->(f 4)=.pointer (some ⟨r4,1,none⟩))/\(s 5=true->(f 5)=.int .i64 (m:Int))/\(s 6=true->(f 6)=.pointer (some ⟨g,o+m*5,none⟩))/\(s 7=true->(f 7)=.pointer (some ⟨g,o+m*5+3,none⟩))/\(s 8=true->(f 8)=.slice (some ⟨g3,o3,none⟩) it.length c3)/\(s 9=true->(f 9)=.pointer (some ⟨r4,2,none⟩))/\(s 10=true->(f 10)=.int .i64 (j:Int))/\(s 11=true->(f 11)=.agg #[.int .i64 vk,.int .i64 vn,.int .i64 vi,.string vt,.int .i64 vl,.int .i64 vh])/\(s 12=true->(f 12)=.pointer (some ⟨g3,o3+j*6,none⟩))) [(0,some 21),(1,some 22),(2,some 23),(3,some 24),(4,some 25),(5,some 26),(6,some 27),(7,some 28),(8,some 29),(9,some 30),(10,some 31),(11,some 32),(12,some 33),(13,none)] rfl aC aC ?hJ rfl ?hstep ?hlast
  case hJ=>exact fun u=>⟨bl,(fun h=>absurd h ai),(fun h=>absurd h ai),(fun h=>absurd h ai),(fun h=>absurd h ai),(fun h=>absurd h ai),(fun h=>absurd h ai),(fun h=>absurd h ai),(fun h=>absurd h ai),(fun h=>absurd h ai),(fun h=>absurd h ai),(fun h=>absurd h ai),(fun h=>absurd h ai),(fun h=>absurd h ai)⟩
  case hstep =>
   exact rk0
  case hlast =>
   exact ai7):p:=h
theorem pV {p:Prop} (h:p:=by
  have RR:=hide (gW (s:=(cv.mk x0 x1 x2 x3 x4 x5 x6 x7 x8 x9 x10 x11 x12)) hw)
  have HW:=hide hw
  exact I5):p:=h
theorem xZ {p:Prop} (h:p:=by
  go_wp2_with (fail)
  repeat (any_goals (go_quiet (fail);(try go_wp2_with (fail))))
  all_goals
   go_returns
   rw[HK.out]
   exact⟨some ⟨w.heap.size,0,none⟩,1,rfl,HR.out,bl⟩):p:=h
theorem Th {p:Prop} (h:p:=by
  have iK:decide ((keys.length:Int)<=40)=true:=ar aB
  have iL:decide (40<(keys.length:Int))=false:=aq aB
  have xy:((its.length:Int)==(keys.length:Int)+1)=false:=aI
  have rS:((its.length:Int)==1+(keys.length:Int))=false:=aI
  have Bq:((its.length:Int)==wrap64 (1+(keys.length:Int)))=false:=by rw[yb aB aB];exact aq kt
  have oh:=hide iZ
  have mj:=hide gQ
  clear dH fM iZ gQ kt
  exact rk9):p:=h
theorem afs {p:Prop} (h:p:=by
  have hno:yo (cv.mk x0 x1 x2 x3 x4 x5 x6 x7 x8 x9 x10 x11 x12) ⟨rk,rn,ri,rt,rl,rh⟩ ⟨vk,vn,vi,vt,vl,vh⟩=false:=cm
  have hc0:BC (cv.mk x0 x1 x2 x3 x4 x5 x6 x7 x8 x9 x10 x11 x12) ⟨rk,rn,ri,rt,rl,rh⟩ ⟨vk,vn,vi,vt,vl,vh⟩=111:=by unfold BC;rw[if_neg cj]
  have ht0:xY (cv.mk x0 x1 x2 x3 x4 x5 x6 x7 x8 x9 x10 x11 x12) ⟨rk,rn,ri,rt,rl,rh⟩ ⟨vk,vn,vi,vt,vl,vh⟩=qR:=by unfold xY;rw[if_neg bC]
  have mz:=hide hc0
  have HT0:=hide ht0
  clear hc0 ht0 hno
  go_wp2_with (first | (go_at_call 13;refine (mf (cv.mk x0 x1 x2 x3 x4 x5 x6 x7 x8 x9 x10 x11 x12) ⟨rk,rn,ri,rt,rl,rh⟩ S _ _ (Dat.cC.bel (cE.trans hbw bl) HV.out) HR.out).mono ?_;rintro e w2 ⟨rfl,hb2⟩;rw[HIV.out];have mn:cE w1 w2:=cE.trans bl hb2;have Yk:cE w w2:=cE.trans hbw mn;obtain⟨Cc,Cd,uX,uY,sx,qV,qW,qX,qY,qZ,q9,ra,nh,ni,nj⟩:=HA.out.on mn;obtain⟨Ce,Cf,uZ,va,vb,vc,vd,ve⟩:=HB.out.on mn;obtain⟨Cg,Ch,vg,vm,vo,vr,vw,vx⟩:=HD.out.on mn;obtain⟨fB,Ci,vy,vz,vA,vB,vC,vD,vE,vF,vG,vH,qN,qO,qP⟩:=HC.out.on mn;clear hb2))
  all_goals exact bodyPost_ret (v:=.tuple #[.agg #[.slice none 0 0,.slice none 0 0,.slice none 0 0,.slice none 0 0,.string ByteArray.empty,.int .i64 0,.slice none 0 0,.slice none 0 0,.slice none 0 0,.bool false,.int .i64 0,.int .i64 0,.int .i64 0],.int .i64 111]) bF rfl (oC mz.out HT0.out bl)):p:=h
theorem Ti {p:Prop} (h:p:=by
  have iK:decide ((keys.length:Int)<=40)=false:=aq aB
  have iL:decide (40<(keys.length:Int))=true:=ar aB
  have xy:((its.length:Int)==(keys.length:Int)+1)=true:=aE
  have rS:((its.length:Int)==1+(keys.length:Int))=true:=aE
  have Bq:((its.length:Int)==wrap64 (1+(keys.length:Int)))=true:=by rw[yb aB aB];exact ar kt
  have kB:=hide fu
  clear dH fM kt fu
  exact rk7):p:=h
theorem yD {p:Prop} (h:p:=by
  have AA:decide ((its.length:Int)<=24)=true:=ar aB
  have AB:decide (24<(its.length:Int))=false:=aq aB
  have kB:=hide fu
  clear dH dw lT fu
  exact rk7):p:=h
theorem yE {p:Prop} (h:p:=by
  have AA:decide ((its.length:Int)<=40)=true:=ar aB
  have AB:decide (40<(its.length:Int))=false:=aq aB
  have kB:=hide fu
  clear dH dw lT fu
  exact rk7):p:=h
theorem Xn {p:Prop} (h:p:=by
  by_cases mu:its.length=0
  case neg =>
   have RR:=hide (show dx (cv.mk x0 x1 x2 x3 x4 x5 x6 x7 x8 x9 x10 x11 x12) (.mk 4 tag cR its keys)=false by rw[jl];(try simp only[cv.cI,cv.cD,cZ,da,dp]);simp[dH])
   have ec:(tag==0)=false:=aI
   have ed:(tag != 0)=true:=aH
   have iK:decide ((keys.length:Int)<=40)=true:=ar aB
   have iL:decide (40<(keys.length:Int))=false:=aq aB
   have uU:((its.length:Int)==0)=false:=aI
   have uV:((its.length:Int) != 0)=true:=aH
   have oh:=hide iZ
   have mj:=hide gQ
   clear dH fM iZ gQ mu
   exact rk9
  case pos =>
  have RR:=hide (show dx (cv.mk x0 x1 x2 x3 x4 x5 x6 x7 x8 x9 x10 x11 x12) (.mk 4 tag cR its keys)=false by rw[jl];(try simp only[cv.cI,cv.cD,cZ,da,dp]);simp[dH])
  have ec:(tag==0)=false:=aI
  have ed:(tag != 0)=true:=aH
  have iK:decide ((keys.length:Int)<=40)=true:=ar aB
  have iL:decide (40<(keys.length:Int))=false:=aq aB
  have uU:((its.length:Int)==0)=true:=aE
  have uV:((its.length:Int) != 0)=false:=aG
  have oh:=hide iZ
  have mj:=hide gQ
  clear dH fM iZ gQ mu
  exact rk9):p:=h
theorem Cw {p:Prop} (h:p:=by
  have ec:(tag==0)=true:=aE
  have ed:(tag != 0)=false:=aG
  have dD:((keys.length:Int)==0)=false:=aI
  have dE:((keys.length:Int) != 0)=true:=aH
  clear dH dw
  exact sP):p:=h
theorem Ps {p:Prop} (h:p:=by
  have HC:=hide (show eb s 12 ⟨cH,cM,cN,cO,cP,dn⟩=false by unfold eb;rw[hi];simp[hk])
  have HI:=hide hi
  clear hi hk
  have fg:=True.intro
  repeat (any_goals ((first | clear fg | go_quiet (fail));(try go_wp2_with (go_at_call 27;(with_reducible refine (eB s ⟨cH,cM,cN,cO,cP,dn⟩ S q _ (cG.bel bl HS.out) ⟨eY,eG,fa,dY,er,gw⟩).mono ?_);rintro e xO ⟨rfl,eM⟩;(have mX:=eM.sz;obtain⟨iB,iC,iD,iE⟩:=eM.lay (q);obtain⟨iF,iG,iH,iI⟩:=eM.lay (b1));rw[HI.out]))))
  have RR:=hide (show eV s 14 [a,b]=false by rw[HP.out,HC.out];first | done | simp)
  all_goals
   go_returns
   exact⟨gG RR.out.symm,bl⟩):p:=h
theorem Pt {p:Prop} (h:p:=by
  have HC:=hide (show eb s 12 ⟨dG,dN,dQ,dV,dW,dZ⟩=false by unfold eb;rw[hi];simp[hk])
  have HI:=hide hi
  clear hi hk
  have fg:=True.intro
  repeat (any_goals ((first | clear fg | go_quiet (fail));(try go_wp2_with (go_at_call 27;(with_reducible refine (eB s ⟨dG,dN,dQ,dV,dW,dZ⟩ S q _ (cG.bel bl HS.out) ⟨kY,km,lh,gY,kn,lH⟩).mono ?_);rintro e Sm ⟨rfl,jj⟩;(have BN:=jj.sz;obtain⟨qB,qC,qD,qE⟩:=jj.lay (q);obtain⟨qF,qG,qH,qI⟩:=jj.lay (b1));rw[HI.out]))))
  have RR:=hide (show eV s 14 [a,b]=false by rw[HP.out,HC.out];first | done | simp)
  all_goals
   go_returns
   exact⟨gG RR.out.symm,bl⟩):p:=h
theorem Pu {p:Prop} (h:p:=by
  have HC:=hide (show eb s 12 ⟨cH,cM,cN,cO,cP,dn⟩=false by unfold eb;rw[hi];simp[hk])
  have HI:=hide hi
  clear hi hk
  have fg:=True.intro
  repeat (any_goals ((first | clear fg | go_quiet (fail));(try go_wp2_with (go_at_call 27;(with_reducible refine (eB s ⟨cH,cM,cN,cO,cP,dn⟩ S q _ (cG.bel bl HS.out) ⟨eY,eG,fa,dY,er,gw⟩).mono ?_);rintro e xO ⟨rfl,eM⟩;(have mX:=eM.sz;obtain⟨iB,iC,iD,iE⟩:=eM.lay (q);obtain⟨iF,iG,iH,iI⟩:=eM.lay (b1));rw[HI.out]))))
  have RR:=hide (show eV s 15 [a,b]=false by rw[HP.out,HC.out];first | done | simp)
  all_goals
   go_returns
   exact⟨gG RR.out.symm,bl⟩):p:=h
theorem Pv {p:Prop} (h:p:=by
  have HC:=hide (show eb s 12 ⟨dG,dN,dQ,dV,dW,dZ⟩=false by unfold eb;rw[hi];simp[hk])
  have HI:=hide hi
  clear hi hk
  have fg:=True.intro
  repeat (any_goals ((first | clear fg | go_quiet (fail));(try go_wp2_with (go_at_call 27;(with_reducible refine (eB s ⟨dG,dN,dQ,dV,dW,dZ⟩ S q _ (cG.bel bl HS.out) ⟨kY,km,lh,gY,kn,lH⟩).mono ?_);rintro e Sm ⟨rfl,jj⟩;(have BN:=jj.sz;obtain⟨qB,qC,qD,qE⟩:=jj.lay (q);obtain⟨qF,qG,qH,qI⟩:=jj.lay (b1));rw[HI.out]))))
  have RR:=hide (show eV s 15 [a,b]=false by rw[HP.out,HC.out];first | done | simp)
  all_goals
   go_returns
   exact⟨gG RR.out.symm,bl⟩):p:=h
theorem Pw {p:Prop} (h:p:=by
  have HC:=hide (show eb s 12 ⟨cH,cM,cN,cO,cP,dn⟩=false by unfold eb;rw[hi];simp[hk])
  have HI:=hide hi
  clear hi hk
  have fg:=True.intro
  repeat (any_goals ((first | clear fg | go_quiet (fail));(try go_wp2_with (go_at_call 27;(with_reducible refine (eB s ⟨cH,cM,cN,cO,cP,dn⟩ S q _ (cG.bel bl HS.out) ⟨eY,eG,fa,dY,er,gw⟩).mono ?_);rintro e xO ⟨rfl,eM⟩;(have mX:=eM.sz;obtain⟨iB,iC,iD,iE⟩:=eM.lay (q);obtain⟨iF,iG,iH,iI⟩:=eM.lay (b1));rw[HI.out]))))
  have RR:=hide (show eV s 16 [a,b]=false by rw[HP.out,HC.out];first | done | simp)
  all_goals
   go_returns
   exact⟨gG RR.out.symm,bl⟩):p:=h
theorem Px {p:Prop} (h:p:=by
  have HC:=hide (show eb s 12 ⟨cH,cM,cN,cO,cP,dn⟩=false by unfold eb;rw[hi];simp[hk])
  have HI:=hide hi
  clear hi hk
  have fg:=True.intro
  repeat (any_goals ((first | clear fg | go_quiet (fail));(try go_wp2_with (go_at_call 27;(with_reducible refine (eB s ⟨cH,cM,cN,cO,cP,dn⟩ S q _ (cG.bel bl HS.out) ⟨eY,eG,fa,dY,er,gw⟩).mono ?_);rintro e xO ⟨rfl,eM⟩;(have mX:=eM.sz;obtain⟨iB,iC,iD,iE⟩:=eM.lay (q);obtain⟨iF,iG,iH,iI⟩:=eM.lay (b1));rw[HI.out]))))
  have RR:=hide (show eV s 17 [a,b]=false by rw[HP.out,HC.out];first | done | simp)
  all_goals
   go_returns
   exact⟨gG RR.out.symm,bl⟩):p:=h
theorem Xu {p:Prop} (h:p:=by
  by_cases hs:cR=0
  case neg =>
   have e_s:(cR==0)=false:=aD
   have n_s:(cR != 0)=true:=aD
   exact rT
  case pos =>
   have e_s:(cR==0)=true:=aD
   have n_s:(cR != 0)=false:=aD
   by_cases dH:tag=0
   case neg =>
    have ec:(tag==0)=false:=aI
    have ed:(tag != 0)=true:=aH
    by_cases tI:keys.length=0
    case neg =>
     have dD:((keys.length:Int)==0)=false:=aI
     have dE:((keys.length:Int) != 0)=true:=aH
     clear dH tI hs
     exact rT
    case pos =>
     have dD:((keys.length:Int)==0)=true:=aE
     have dE:((keys.length:Int) != 0)=false:=aG
     clear dH tI hs
     exact rT
   case pos =>
    have ec:(tag==0)=true:=aE
    have ed:(tag != 0)=false:=aG
    by_cases tI:keys.length=0
    case neg =>
     have dD:((keys.length:Int)==0)=false:=aI
     have dE:((keys.length:Int) != 0)=true:=aH
     clear dH tI hs
     exact rT
    case pos =>
     have dD:((keys.length:Int)==0)=true:=aE
     have dE:((keys.length:Int) != 0)=false:=aG
     clear dH tI hs
     exact rT):p:=h
theorem Xe {p:Prop} (h:p:=by
  by_cases hs:cR=0
  case neg =>
   have e_s:(cR==0)=false:=aD
   have n_s:(cR != 0)=true:=aD
   exact sP
  case pos =>
   have e_s:(cR==0)=true:=aD
   have n_s:(cR != 0)=false:=aD
   by_cases dH:tag=0
   case neg =>
    have ec:(tag==0)=false:=aI
    have ed:(tag != 0)=true:=aH
    by_cases tI:keys.length=0
    case neg =>
     have dD:((keys.length:Int)==0)=false:=aI
     have dE:((keys.length:Int) != 0)=true:=aH
     clear dH tI hs
     exact sP
    case pos =>
     have dD:((keys.length:Int)==0)=true:=aE
     have dE:((keys.length:Int) != 0)=false:=aG
     clear dH tI hs
     exact sP
   case pos =>
    have ec:(tag==0)=true:=aE
    have ed:(tag != 0)=false:=aG
    by_cases tI:keys.length=0
    case neg =>
     have dD:((keys.length:Int)==0)=false:=aI
     have dE:((keys.length:Int) != 0)=true:=aH
     clear dH tI hs
     exact sP
    case pos =>
     have dD:((keys.length:Int)==0)=true:=aE
     have dE:((keys.length:Int) != 0)=false:=aG
     clear dH tI hs
     exact sP):p:=h
theorem Pr {p:Prop} (h:p:=by
  have HC:=hide (show eb s 12 ⟨cH,cM,cN,cO,cP,dn⟩=false by unfold eb;rw[hi];simp[hk])
  have HI:=hide hi
  clear hi hk
  have fg:=True.intro
  repeat (any_goals ((first | clear fg | go_quiet (fail));(try go_wp2_with (go_at_call 27;(with_reducible refine (eB s ⟨cH,cM,cN,cO,cP,dn⟩ S q _ (cG.bel bl HS.out) ⟨eY,eG,fa,dY,er,gw⟩).mono ?_);rintro e xO ⟨rfl,eM⟩;(have mX:=eM.sz;obtain⟨iB,iC,iD,iE⟩:=eM.lay (q);obtain⟨iF,iG,iH,iI⟩:=eM.lay (b1));rw[HI.out]))))
  have RR:=hide (show eV s 13 [a]=false by rw[HP.out,HC.out];first | done | simp)
  all_goals
   go_returns
   exact⟨gG RR.out.symm,bl⟩):p:=h
theorem Pq {p:Prop} (h:p:=by
  have HC:=hide (show eb s 3 ⟨cH,cM,cN,cO,cP,dn⟩=false by unfold eb;rw[hi];simp[hk])
  have HI:=hide hi
  clear hi hk
  have fg:=True.intro
  repeat (any_goals ((first | clear fg | go_quiet (fail));(try go_wp2_with (go_at_call 27;(with_reducible refine (eB s ⟨cH,cM,cN,cO,cP,dn⟩ S q _ (cG.bel bl HS.out) ⟨eY,eG,fa,dY,er,gw⟩).mono ?_);rintro e xO ⟨rfl,eM⟩;(have mX:=eM.sz;obtain⟨iB,iC,iD,iE⟩:=eM.lay (q);obtain⟨iF,iG,iH,iI⟩:=eM.lay (b1));rw[HI.out]))))
  have RR:=hide (show eV s 10 [a]=false by rw[HP.out,HC.out];first | done | simp)
  all_goals
   go_returns
   exact⟨gG RR.out.symm,bl⟩):p:=h
theorem Pg {p:Prop} (h:p:=by
  have HC:=hide (show eb s 2 ⟨cH,cM,cN,cO,cP,dn⟩=false by unfold eb;rw[hi];simp[hk])
  have HI:=hide hi
  clear hi hk
  have fg:=True.intro
  repeat (any_goals ((first | clear fg | go_quiet (fail));(try go_wp2_with (go_at_call 27;(with_reducible refine (eB s ⟨cH,cM,cN,cO,cP,dn⟩ S q _ (cG.bel bl HS.out) ⟨eY,eG,fa,dY,er,gw⟩).mono ?_);rintro e xO ⟨rfl,eM⟩;(have mX:=eM.sz;obtain⟨iB,iC,iD,iE⟩:=eM.lay (q);obtain⟨iF,iG,iH,iI⟩:=eM.lay (b1));rw[HI.out]))))
  have RR:=hide (show eV s 1 [a]=false by rw[HP.out,HC.out];first | done | simp)
  all_goals
   go_returns
   exact⟨gG RR.out.symm,bl⟩):p:=h
theorem Ph {p:Prop} (h:p:=by
  have HC:=hide (show eb s 1 ⟨cH,cM,cN,cO,cP,dn⟩=false by unfold eb;rw[hi];simp[hk])
  have HI:=hide hi
  clear hi hk
  have fg:=True.intro
  repeat (any_goals ((first | clear fg | go_quiet (fail));(try go_wp2_with (go_at_call 27;(with_reducible refine (eB s ⟨cH,cM,cN,cO,cP,dn⟩ S q _ (cG.bel bl HS.out) ⟨eY,eG,fa,dY,er,gw⟩).mono ?_);rintro e xO ⟨rfl,eM⟩;(have mX:=eM.sz;obtain⟨iB,iC,iD,iE⟩:=eM.lay (q);obtain⟨iF,iG,iH,iI⟩:=eM.lay (b1));rw[HI.out]))))
  have RR:=hide (show eV s 2 [a]=false by rw[HP.out,HC.out];first | done | simp)
  all_goals
   go_returns
   exact⟨gG RR.out.symm,bl⟩):p:=h
theorem Pj {p:Prop} (h:p:=by
  have HC:=hide (show eb s 1 ⟨cH,cM,cN,cO,cP,dn⟩=false by unfold eb;rw[hi];simp[hk])
  have HI:=hide hi
  clear hi hk
  have fg:=True.intro
  repeat (any_goals ((first | clear fg | go_quiet (fail));(try go_wp2_with (go_at_call 27;(with_reducible refine (eB s ⟨cH,cM,cN,cO,cP,dn⟩ S q _ (cG.bel bl HS.out) ⟨eY,eG,fa,dY,er,gw⟩).mono ?_);rintro e xO ⟨rfl,eM⟩;(have mX:=eM.sz;obtain⟨iB,iC,iD,iE⟩:=eM.lay (q);obtain⟨iF,iG,iH,iI⟩:=eM.lay (b1));rw[HI.out]))))
  have RR:=hide (show eV s 3 [a]=false by rw[HP.out,HC.out];first | done | simp)
  all_goals
   go_returns
   exact⟨gG RR.out.symm,bl⟩):p:=h
theorem Pk {p:Prop} (h:p:=by
  have HC:=hide (show eb s 1 ⟨cH,cM,cN,cO,cP,dn⟩=false by unfold eb;rw[hi];simp[hk])
  have HI:=hide hi
  clear hi hk
  have fg:=True.intro
  repeat (any_goals ((first | clear fg | go_quiet (fail));(try go_wp2_with (go_at_call 27;(with_reducible refine (eB s ⟨cH,cM,cN,cO,cP,dn⟩ S q _ (cG.bel bl HS.out) ⟨eY,eG,fa,dY,er,gw⟩).mono ?_);rintro e xO ⟨rfl,eM⟩;(have mX:=eM.sz;obtain⟨iB,iC,iD,iE⟩:=eM.lay (q);obtain⟨iF,iG,iH,iI⟩:=eM.lay (b1));rw[HI.out]))))
  have RR:=hide (show eV s 4 [a]=false by rw[HP.out,HC.out];first | done | simp)
  all_goals
   go_returns
   exact⟨gG RR.out.symm,bl⟩):p:=h
theorem Pl {p:Prop} (h:p:=by
  have HC:=hide (show eb s 1 ⟨cH,cM,cN,cO,cP,dn⟩=false by unfold eb;rw[hi];simp[hk])
  have HI:=hide hi
  clear hi hk
  have fg:=True.intro
  repeat (any_goals ((first | clear fg | go_quiet (fail));(try go_wp2_with (go_at_call 27;(with_reducible refine (eB s ⟨cH,cM,cN,cO,cP,dn⟩ S q _ (cG.bel bl HS.out) ⟨eY,eG,fa,dY,er,gw⟩).mono ?_);rintro e xO ⟨rfl,eM⟩;(have mX:=eM.sz;obtain⟨iB,iC,iD,iE⟩:=eM.lay (q);obtain⟨iF,iG,iH,iI⟩:=eM.lay (b1));rw[HI.out]))))
  have RR:=hide (show eV s 5 [a]=false by rw[HP.out,HC.out];first | done | simp)
  all_goals
   go_returns
   exact⟨gG RR.out.symm,bl⟩):p:=h
theorem Pm {p:Prop} (h:p:=by
  have HC:=hide (show eb s 1 ⟨cH,cM,cN,cO,cP,dn⟩=false by unfold eb;rw[hi];simp[hk])
  have HI:=hide hi
  clear hi hk
  have fg:=True.intro
  repeat (any_goals ((first | clear fg | go_quiet (fail));(try go_wp2_with (go_at_call 27;(with_reducible refine (eB s ⟨cH,cM,cN,cO,cP,dn⟩ S q _ (cG.bel bl HS.out) ⟨eY,eG,fa,dY,er,gw⟩).mono ?_);rintro e xO ⟨rfl,eM⟩;(have mX:=eM.sz;obtain⟨iB,iC,iD,iE⟩:=eM.lay (q);obtain⟨iF,iG,iH,iI⟩:=eM.lay (b1));rw[HI.out]))))
  have RR:=hide (show eV s 6 [a]=false by rw[HP.out,HC.out];first | done | simp)
  all_goals
   go_returns
   exact⟨gG RR.out.symm,bl⟩):p:=h
theorem Pn {p:Prop} (h:p:=by
  have HC:=hide (show eb s 3 ⟨cH,cM,cN,cO,cP,dn⟩=false by unfold eb;rw[hi];simp[hk])
  have HI:=hide hi
  clear hi hk
  have fg:=True.intro
  repeat (any_goals ((first | clear fg | go_quiet (fail));(try go_wp2_with (go_at_call 27;(with_reducible refine (eB s ⟨cH,cM,cN,cO,cP,dn⟩ S q _ (cG.bel bl HS.out) ⟨eY,eG,fa,dY,er,gw⟩).mono ?_);rintro e xO ⟨rfl,eM⟩;(have mX:=eM.sz;obtain⟨iB,iC,iD,iE⟩:=eM.lay (q);obtain⟨iF,iG,iH,iI⟩:=eM.lay (b1));rw[HI.out]))))
  have RR:=hide (show eV s 7 [a]=false by rw[HP.out,HC.out];first | done | simp)
  all_goals
   go_returns
   exact⟨gG RR.out.symm,bl⟩):p:=h
theorem Po {p:Prop} (h:p:=by
  have HC:=hide (show eb s 3 ⟨cH,cM,cN,cO,cP,dn⟩=false by unfold eb;rw[hi];simp[hk])
  have HI:=hide hi
  clear hi hk
  have fg:=True.intro
  repeat (any_goals ((first | clear fg | go_quiet (fail));(try go_wp2_with (go_at_call 27;(with_reducible refine (eB s ⟨cH,cM,cN,cO,cP,dn⟩ S q _ (cG.bel bl HS.out) ⟨eY,eG,fa,dY,er,gw⟩).mono ?_);rintro e xO ⟨rfl,eM⟩;(have mX:=eM.sz;obtain⟨iB,iC,iD,iE⟩:=eM.lay (q);obtain⟨iF,iG,iH,iI⟩:=eM.lay (b1));rw[HI.out]))))
  have RR:=hide (show eV s 8 [a]=false by rw[HP.out,HC.out];first | done | simp)
  all_goals
   go_returns
   exact⟨gG RR.out.symm,bl⟩):p:=h
theorem Pp {p:Prop} (h:p:=by
  have HC:=hide (show eb s 3 ⟨cH,cM,cN,cO,cP,dn⟩=false by unfold eb;rw[hi];simp[hk])
  have HI:=hide hi
  clear hi hk
  have fg:=True.intro
  repeat (any_goals ((first | clear fg | go_quiet (fail));(try go_wp2_with (go_at_call 27;(with_reducible refine (eB s ⟨cH,cM,cN,cO,cP,dn⟩ S q _ (cG.bel bl HS.out) ⟨eY,eG,fa,dY,er,gw⟩).mono ?_);rintro e xO ⟨rfl,eM⟩;(have mX:=eM.sz;obtain⟨iB,iC,iD,iE⟩:=eM.lay (q);obtain⟨iF,iG,iH,iI⟩:=eM.lay (b1));rw[HI.out]))))
  have RR:=hide (show eV s 9 [a]=false by rw[HP.out,HC.out];first | done | simp)
  all_goals
   go_returns
   exact⟨gG RR.out.symm,bl⟩):p:=h
theorem rm {p:Prop} (h:p:=by
  have hv1:(a:cw).v=⟨cH,cM,cN,cO,cP,dn⟩:=by rw[show a=_ from gv.out];rfl
  simp[all2,hv1]):p:=h
theorem zV {p:Prop} (h:p:=by
  intro u wa hG hf K hK
  clear hf
  clear hG
  simp only[Act.put,aa,ab,ae,af,ag,ah]at hK |-
  go_simp
  exact hK.out _ _ (cE.refl _) rfl):p:=h
theorem Xo {p:Prop} (h:p:=by
  have iK:decide ((keys.length:Int)<=40)=true:=ar aB
  have iL:decide (40<(keys.length:Int))=false:=aq aB
  have uU:((its.length:Int)==0)=false:=aI
  have uV:((its.length:Int) != 0)=true:=aH
  have oh:=hide iZ
  have mj:=hide gQ
  clear dH fM iZ gQ mu
  exact rk9):p:=h
theorem Xp {p:Prop} (h:p:=by
  have iK:decide ((keys.length:Int)<=40)=true:=ar aB
  have iL:decide (40<(keys.length:Int))=false:=aq aB
  have uU:((its.length:Int)==0)=true:=aE
  have uV:((its.length:Int) != 0)=false:=aG
  have oh:=hide iZ
  have mj:=hide gQ
  clear dH fM iZ gQ mu
  exact rk9):p:=h
theorem XY {p:Prop} (h:p:=by
  intro u wa s hs ha cl hJ K hK
  obtain⟨jB,il,lW,iJ,im,dC,iq,eC,cQ,ik,iu,iw,iR⟩:=hJ
  simp only[Act.put,aa,ab,ae,af,ag,ah]at hK |-
  have hz:=jB.size
  have hbx:cE wa (wa.alloc (.cells #[.slice none 0 0,.slice none 0 0,.slice none 0 0,.slice none 0 0,.string ByteArray.empty,.int .i64 0,.slice none 0 0,.slice none 0 0,.slice none 0 0,.bool false,.int .i64 0,.int .i64 0,.int .i64 0] 30)):=bl
  go_simp
  have hsS:s 11=false:=by
   cases hq:s 11 with
   | false=>rfl
   | true=>exact absurd (cl 11 hq 10 aC) aZ
  exact hK.out _ _ ⟨jB.trans hbx,il,fun h1 h2=>(lW h1 h2).on hbx,iJ,im,dC,iq,fun h=>(eC h).on hbx (fun b hb=>Or.inr (Nat.le_of_eq (PtrTo.inj (v:=.pointer (some ⟨wa.heap.size,0,none⟩)) rfl hb.2))),cQ,ik,iu,fun _ _=>⟨wa.heap.size,rfl,hz,SB.new _ _⟩,fun h=>absurd (hsS.symm.trans h) ai⟩):p:=h
theorem TU {p:Prop} (h:p:=by
  intro v' w2 hown2 hgrow _
  have hbw2:cE w w2:=Below.grown (cE.alloc (hbw.trans hb1) _) hgrow aD (fun q hq=>by have:=(hown1.lt q hq).1;omega)
  have hsz2:w1.heap.size<w2.heap.size:=by have:=hgrow.size;simp at this;omega
  have hne:some w.heap.size≠u3.ownBlock:=fun hq=>by have:=(hown1.lt _ hq.symm).1;omega
  have hd0:w2.cell? ⟨w.heap.size,0,none⟩=some (.int .i64 lo):=World.grownBy.cell hgrow (((cE.alloc (cE.refl w1) _).box w.heap.size fc 0).trans ((eA 0).trans hc0)) hne
  have hd1:w2.cell? ⟨w.heap.size,1,none⟩=some (.int .i64 hi):=World.grownBy.cell hgrow (((cE.alloc (cE.refl w1) _).box w.heap.size fc 1).trans ((eA 1).trans hc1)) hne
  have hown3:w2.ownsRow (w.heap.size+1) 5 1 v' (csB lo hi (k+1)).length ((csB lo hi (k+1)).map fun b:Nat=>Value.int .u8 (b:Int)):=by
   rw[Ss HB.out,List.length_append,List.map_append];exact hown2
  clear hgrow hown2 hown1 hown hne
  go_wp2_with (fail)
  exact⟨⟨k+1,rfl,by omega,hown3,hd0,hd1,hbw2,by omega⟩,by simp only[intOf];omega⟩):p:=h
theorem Jq {p:Prop} (h:p:=by
  have RR:=hide (show dx (cv.mk x0 x1 x2 x3 x4 x5 x6 x7 x8 x9 x10 x11 x12) (.mk 3 tag cR its keys)=false by rw[gU];(try simp only[cv.cI,cv.cD,cZ,da,dp]);simp[dH])
  have ec:(tag==0)=false:=aI
  have ed:(tag != 0)=true:=aH
  exact rk5):p:=h
theorem yB {p:Prop} (h:p:=by
  have ec:(tag==0)=false:=aI
  have ed:(tag != 0)=true:=aH
  clear dH
  exact sP):p:=h
theorem Pf {p:Prop} (h:p:=by
  have fg:=True.intro
  repeat (any_goals ((first | clear fg | go_quiet (fail));(try go_wp2_with (go_at_call 45;refine (gp s ⟨dG,dN,dQ,dV,dW,dZ⟩ S q _ (cG.bel bl HS.out) ⟨kY,km,lh,gY,kn,lH⟩).mono ?_;rintro e w4 ⟨rfl,hb4⟩;rw[HN.out];(have Sz:=hb4.sz;obtain⟨oZ,xe,zR,zS⟩:=hb4.lay (wr.heap.size);obtain⟨mr,yy,EJ,EK⟩:=hb4.lay (b3))))))
  all_goals
   go_returns
   exact⟨by rw[HA.out];first | done | rfl,bl⟩):p:=h
theorem Jo {p:Prop} (h:p:=by
  have RR:=hide (show dx (cv.mk x0 x1 x2 x3 x4 x5 x6 x7 x8 x9 x10 x11 x12) (.mk 3 tag cR its keys)=false by rw[gU];show (decide (1<=cR/\cR<=x12)&&_)=false;rw[aq (show ¬(1<=cR/\cR<=x12) by omega)];rfl)
  have ds2:decide (x12<cR)=true:=aD
  exact rT):p:=h
theorem Jn {p:Prop} (h:p:=by
  have RR:=hide (show dx (cv.mk x0 x1 x2 x3 x4 x5 x6 x7 x8 x9 x10 x11 x12) (.mk 3 tag cR its keys)=false by rw[gU];show (decide (1<=cR/\cR<=x12)&&_)=false;rw[aq (show ¬(1<=cR/\cR<=x12) by omega)];rfl)
  have ds1:decide (cR<1)=true:=aD
  exact rT):p:=h
theorem alc {p:Prop} (h:p:=by
  go_wp2_with (fail)
  go_returns
  obtain⟨L,q1,q2,q3⟩:=ez.done lO.out hge rfl aV
  exact⟨some ⟨w.heap.size,0,none⟩,ks.length,L,by rw[aj];rfl,q1,q2,q3,hbw⟩):p:=h
theorem yF {p:Prop} (h:p:=by
  have j6:=hide fT
  have oe:=hide iA
  have JM:=hide sA
  clear dw fT iA sA DS
  exact rk1):p:=h
theorem ald {p:Prop} (h:p:=by
  obtain⟨l,f,c0,c1,c2,c3,c4⟩:=h
  exact⟨by simpa using l,fun o=>by simp[f],by simp[c0,go_sem],by simp[c1,go_sem],by simp[c2,go_sem],by simp[c3,go_sem],by simp[c4,go_sem]⟩):p:=h
theorem ale {p:Prop} (h:p:=by
  have hd:decide ((i:Int)<(ks.length:Int))=false:=aD
  obtain rfl:i=ks.length:=by omega
  go_wp2_with (fail)
  go_returns
  rw[List.take_of_length_le aK]
  exact⟨rfl,hbw⟩):p:=h
theorem W9 {p:Prop} (h:p:=by
  have fk:(dG != 12)=false:=aL
  have HC:=hide (show eb s 12 ⟨dG,dN,dQ,dV,dW,dZ⟩=true by unfold eb;rw[hi];simp[hk])
  have HI:=hide hi
  clear hi hk
  have fg:=True.intro
  repeat (any_goals ((first | clear fg | go_quiet (fail));(try go_wp2_with (go_at_call 27;(with_reducible refine (eB s ⟨dG,dN,dQ,dV,dW,dZ⟩ S q _ (cG.bel bl HS.out) ⟨kY,km,lh,gY,kn,lH⟩).mono ?_);rintro e Sm ⟨rfl,jj⟩;(have BN:=jj.sz;obtain⟨qB,qC,qD,qE⟩:=jj.lay (q);obtain⟨qF,qG,qH,qI⟩:=jj.lay (b1));rw[HI.out]))))
  go_roundw
  case rel=>exact⟨2,rfl,by omega,⟨fun _=>(hm.out.1) aB,fun _=>HC⟩,bl⟩
  case measure=>simp[intOf]):p:=h
theorem W8 {p:Prop} (h:p:=by
  have fk:(cH != 12)=false:=aL
  have HC:=hide (show eb s 12 ⟨cH,cM,cN,cO,cP,dn⟩=true by unfold eb;rw[hi];simp[hk])
  have HI:=hide hi
  clear hi hk
  have fg:=True.intro
  repeat (any_goals ((first | clear fg | go_quiet (fail));(try go_wp2_with (go_at_call 27;(with_reducible refine (eB s ⟨cH,cM,cN,cO,cP,dn⟩ S q _ (cG.bel bl HS.out) ⟨eY,eG,fa,dY,er,gw⟩).mono ?_);rintro e xO ⟨rfl,eM⟩;(have mX:=eM.sz;obtain⟨iB,iC,iD,iE⟩:=eM.lay (q);obtain⟨iF,iG,iH,iI⟩:=eM.lay (b1));rw[HI.out]))))
  go_roundw
  case rel=>exact⟨1,rfl,by omega,⟨fun _=>HC,fun h=>absurd h aB⟩,bl⟩
  case measure=>simp[intOf]):p:=h
theorem XU {p:Prop} (h:p:=by
  rintro e w5 ⟨us5,L5,rfl,Oi,hN5,hL5,hb5⟩
  rw[HC.out]
  rw[HN.out]at Oi
  have hz:=jB.size
  refine hK.out _ _ ⟨jB.trans hb5,il,fun _ h=>absurd (show true=false from h) aF,iJ,im,dC,iq,fun _=>⟨us5,L5,rfl,Oi,hN5,fun b hb=>⟨by have:=hL5 b hb;omega,?_⟩⟩,(fun h=>absurd (cl 7 h 6 aC) aZ),(fun h=>absurd (cl 7 (cl 8 h 7 aC) 6 aC) aZ),iu,fun h1 h2=>(iw h1 h2).on hb5,fun h=>(iR h).on hb5⟩
  rintro⟨h1,h2⟩
  have hlow:=hL5 b hb
  cases hq:s 11
  ·
   obtain⟨g,e,-,hg⟩:=iw h1 hq
   have:=hg.1
   have:=e.inj h2
   omega
  ·
   obtain⟨g,us,e,-,-,hg,-⟩:=iR hq
   have:=e.inj h2
   omega):p:=h
theorem Ya {p:Prop} (h:p:=by
  refine hK.out undef _ ?_
  obtain⟨⟨L9,rD⟩,rz⟩:=hput (⟨vk,vn,vi,vt,vl,vh⟩:cV) HV.out
  clear hK hput
  obtain⟨wz,hwz⟩:∃x,wa.setCells g3 (o3+j*6) (nr (⟨vk,vn,vi,vt,vl,vh⟩:cV))=x:=⟨_,rfl⟩
  rw[hwz]at rD rz
  rw[show wa.setCells g3 (o3+j*6) (#[Value.int .i64 vk,.int .i64 vn,.int .i64 vi,.string vt,.int .i64 vl,.int .i64 vh]:Array Value).toList=wz from hwz]
  have LY:=hide rD
  have Gm:=hide rz
  clear hwz rD rz hth ry mZ dt
  go_wp2_with (fail)
  all_goals
   go_returns
   exact⟨by (rw[RR.out] <;> rfl),⟨_,_,by rw[RR.out];exact LY.out.on bl⟩,(lK.gI Ib hN).trans (Gm.out.trans (lK.gI bl (al (al hN Ib.size) Gm.out.size)))⟩):p:=h
theorem alf {p:Prop} (h:p:=by
  refine wpAnyH_done aC ?_ _
  clear hHeld
  have mK:=hide (show fp w8 109 3 v8 (L++L6) ((xs.take (i+1)).map cA.D) by rw[zU cA.D h,gv.out];exact Ol)
  have Zu:=El.size
  have Ez:=hide (show ∀b,mW v8 (L++L6) b->w.heap.size<=b from fun b hb=>hb.elim (fun q=>(hw8 b q).elim (fun q=>HB.out b (Or.inl q)) (fun q=>by have:=(cE.trans El hb3).size;omega)) (fun q=>(List.mem_append.1 q).elim (fun q=>HB.out b (Or.inr q)) (fun q=>by have:=HK6.out b q;omega)))
  clear Ol WI hw8 e8
  go_wp2_with (fail)
  all_goals go_roundw
  case rel=>exact⟨i+1,_,_,rfl,by go_num,by omega,hide (mK.out.bel bl),hide Ez.out,hide (cE.trans hb8 bl)⟩
  case measure=>simp[intOf];omega):p:=h
theorem X9 {p:Prop} (h:p:=by
  refine hK.out undef _ ?_
  obtain⟨⟨L9,rD⟩,rz⟩:=hput (⟨vk,vn,vi,vt,vl,vh⟩:cV) HV.out
  clear hK hput
  obtain⟨wz,hwz⟩:∃x,wa.setCells g3 (o3+j*6) (nr (⟨vk,vn,vi,vt,vl,vh⟩:cV))=x:=⟨_,rfl⟩
  rw[hwz]at rD rz
  rw[show wa.setCells g3 (o3+j*6) (#[Value.int .i64 vk,.int .i64 vn,.int .i64 vi,.string vt,.int .i64 vl,.int .i64 vh]:Array Value).toList=wz from hwz]
  have LY:=hide rD
  have Gm:=hide rz
  clear hwz rD rz hth ry mZ dt
  go_wp2_with (fail)
  all_goals
   go_returns
   exact⟨by (rw[RR.out] <;> rfl),⟨_,_,by rw[RR.out];exact LY.out.on bl⟩,(lK.gI hbr hN).trans (Gm.out.trans (lK.gI bl (al (al hN hbr.size) Gm.out.size)))⟩):p:=h
theorem JK {p:Prop} (h:p:=by
  go_returns
  exact⟨by (rw[RR.out] <;> rfl),⟨_,_,by rw[RR.out];exact W2.out.on bl⟩,lK.trans (lK.gI hbr hN) (lK.trans (lK.gI k1 (al hN hbr.size)) (lK.gI bl (al (al hN hbr.size) k1.size)))⟩):p:=h
theorem Yh {p:Prop} (h:p:=by
  refine hK.out undef _ ?_
  obtain⟨⟨L9,rD⟩,rz⟩:=hput (⟨vk,vn,vi,vt,vl,vh⟩:cV) HV.out
  clear hK hput
  obtain⟨wz3,hwz⟩:∃x,wa.setCells g3 (TH+d*6) (nr (⟨vk,vn,vi,vt,vl,vh⟩:cV))=x:=⟨_,rfl⟩
  rw[hwz]at rD rz
  rw[show wa.setCells g3 (TH+d*6) (#[Value.int .i64 vk,.int .i64 vn,.int .i64 vi,.string vt,.int .i64 vl,.int .i64 vh]:Array Value).toList=wz3 from hwz]
  have LY:=hide rD
  have Gm:=hide rz
  clear hwz rD rz hth ry mZ dt
  go_wp2_with (fail)
  all_goals
   go_returns
   exact⟨by (rw[RR.out] <;> rfl),⟨_,_,by rw[RR.out];exact LY.out.on bl⟩,(lK.gI hbw2 hN).trans (Gm.out.trans (lK.gI bl (al hNw Gm.out.size)))⟩):p:=h
theorem I9 {p:Prop} (h:p:=by
  have hv1:(a:cw).v=⟨cH,cM,cN,cO,cP,dn⟩:=by rw[show a=_ from gv.out];rfl
  have hv2:(b:cw).v=⟨dG,dN,dQ,dV,dW,dZ⟩:=by rw[show b=_ from oz.out];rfl
  simp[all2,hv1,hv2]):p:=h
theorem XT {p:Prop} (h:p:=by
  intro u wa s hs ha cl hJ K hK
  obtain⟨jB,il,lW,iJ,im,dC,iq,eC,cQ,ik,iu,iw,iR⟩:=hJ
  have mZ:=dC (ha 4 aC)
  simp only[Act.put,aa,ab,ae,af,ag,ah]at hK |-
  rw[mZ]at hK |-
  go_simp
  go_at_call 18
  refine (pY ⟨vk,vn,vi,vt,vl,vh⟩ _).mono ?_
  rintro e w5 ⟨rfl,hb5⟩
  exact hK.out _ _ ⟨jB.trans hb5,il,fun h1 h2=>(lW h1 h2).on hb5,iJ,im,dC,fun _=>rfl,fun h=>(eC h).on hb5 (fun b hb=>Or.inl hb),cQ,ik,iu,fun h1 h2=>(iw h1 h2).on hb5,fun h=>(iR h).on hb5⟩):p:=h
theorem XR {p:Prop} (h:p:=by
  intro u wa s hs ha cl hJ K hK
  obtain⟨jB,il,lW,iJ,im,dC,iq,eC,cQ,ik,iu,iw,iR⟩:=hJ
  have Z2:=iJ (ha 2 aC)
  simp only[Act.put,aa,ab,ae,af,ag,ah]at hK |-
  rw[Z2]at hK |-
  go_simp
  go_at_call 18
  refine (pY ⟨k,n,i,t,lo,hi⟩ _).mono ?_
  rintro e w5 ⟨rfl,hb5⟩
  exact hK.out _ _ ⟨jB.trans hb5,il,fun h1 h2=>(lW h1 h2).on hb5,iJ,fun _=>rfl,dC,iq,fun h=>(eC h).on hb5 (fun b hb=>Or.inl hb),cQ,ik,iu,fun h1 h2=>(iw h1 h2).on hb5,fun h=>(iR h).on hb5⟩):p:=h
theorem Jg {p:Prop} (h:p:=by
  have ahz:(j4==1)=false:=aI
  have ahA:(j4 != 1)=true:=aH
  have j6:=hide fT
  have oe:=hide iA
  clear dw fT iA yc
  exact aa1):p:=h
theorem XW {p:Prop} (h:p:=by
  intro u wa s hs ha cl hJ K hK
  obtain⟨jB,il,lW,iJ,im,dC,iq,eC,cQ,ik,iu,iw,iR⟩:=hJ
  simp only[Act.put,aa,ab,ae,af,ag,ah]at hK |-
  obtain⟨us,L,jo,hO,hN,hL⟩:=eC (ha 6 aC)
  have nm:=cQ (ha 7 aC)
  rw[nm,jo]at hK |-
  go_simp
  exact hK.out _ _ ⟨jB,il,lW,iJ,im,dC,iq,eC,cQ,fun _=>jo,iu,iw,(fun h=>absurd (cl 11 h 8 aC) aZ)⟩):p:=h
theorem Yi {p:Prop} (h:p:=by
  rw[ME]at rD rz uG hblk LV
  rw[Ei,ME]at hK |-
  have hfz1:=hfz (o1+m2*5+3)
  go_simp
  refine hK.out undef _ ?_
  clear hK
  obtain⟨wz3,afW⟩:∃x,wa.setCell ⟨b1,o1+m2*5+3,none⟩ (.slice A9 (its.length+1) c9)=x:=⟨_,rfl⟩
  rw[afW]at rD rz uG |-
  clear afW hcl hfz hfz1 Ei ME hblk LV
  rw[List.set_set]at rD
  have aja:=hide rD
  have ajb:=hide rz
  clear rD rz
  go_wp2_with (fail)
  all_goals
   go_returns
   exact⟨by (rw[RR.out] <;> rfl),⟨_,_,by rw[RR.out];exact aja.out.on bl⟩,Gm.out.trans (ajb.out.trans (lK.gI bl (al hNz uG)))⟩):p:=h
theorem Jc {p:Prop} (h:p:=by
  have AA:decide ((its.length:Int)<=24)=false:=aq aB
  have AB:decide (24<(its.length:Int))=true:=ar aB
  clear dH dw lT
  exact rT):p:=h
theorem Jd {p:Prop} (h:p:=by
  have AA:decide ((its.length:Int)<=40)=false:=aq aB
  have AB:decide (40<(its.length:Int))=true:=ar aB
  clear dH dw lT
  exact rT):p:=h
theorem XG {p:Prop} (h:p:=by
  have iK:decide ((keys.length:Int)<=40)=true:=ar aB
  have iL:decide (40<(keys.length:Int))=false:=aq aB
  have xy:((its.length:Int)==(keys.length:Int)+1)=false:=aI
  have rS:((its.length:Int)==1+(keys.length:Int))=false:=aI
  have Bq:((its.length:Int)==wrap64 (1+(keys.length:Int)))=false:=by rw[yb aB aB];exact aq kt
  have oh:=hide iZ
  clear dH fM iZ kt
  exact aa3):p:=h
theorem Ji {p:Prop} (h:p:=by
  have dD:((keys.length:Int)==0)=false:=aI
  have dE:((keys.length:Int) != 0)=true:=aH
  clear ku dH dw
  exact rT):p:=h
theorem Jj {p:Prop} (h:p:=by
  have dD:((keys.length:Int)==0)=true:=aE
  have dE:((keys.length:Int) != 0)=false:=aG
  clear ku dH dw
  exact rT):p:=h
theorem Jb {p:Prop} (h:p:=by
  have hw:dS ⟨2,u1,u2,u3,u4,u5⟩=true:=(by cases hw:dS ⟨2,u1,u2,u3,u4,u5⟩ <;> first | rfl | (rw[gW hw]at fT;cases fT))
  unfold dS at hw
  simp at hw
  omega):p:=h
theorem XE {p:Prop} (h:p:=by
  have RR:=hide (show dx (cv.mk x0 x1 x2 x3 x4 x5 x6 x7 x8 x9 x10 x11 x12) (.mk 8 tag cR [.mk 5 cM cN cO cP dn,.mk dG dN dQ dV dW dZ] keys)=false by rw[je];(try simp only[cv.cI,cv.cD,cZ,da,dp]);simp[dw])
  have ec:(tag==0)=true:=aE
  have ed:(tag != 0)=false:=aG
  have dD:((keys.length:Int)==0)=false:=aI
  have dE:((keys.length:Int) != 0)=true:=aH
  exact TN):p:=h
theorem XC {p:Prop} (h:p:=by
  have RR:=hide (show dx (cv.mk x0 x1 x2 x3 x4 x5 x6 x7 x8 x9 x10 x11 x12) (.mk 8 tag cR [.mk 5 cM cN cO cP dn,.mk dG dN dQ dV dW dZ] keys)=false by rw[je];(try simp only[cv.cI,cv.cD,cZ,da,dp]);simp[dH])
  have ec:(tag==0)=false:=aI
  have ed:(tag != 0)=true:=aH
  have dD:((keys.length:Int)==0)=false:=aI
  have dE:((keys.length:Int) != 0)=true:=aH
  exact TN):p:=h
theorem XD {p:Prop} (h:p:=by
  have RR:=hide (show dx (cv.mk x0 x1 x2 x3 x4 x5 x6 x7 x8 x9 x10 x11 x12) (.mk 8 tag cR [.mk 5 cM cN cO cP dn,.mk dG dN dQ dV dW dZ] keys)=false by rw[je];(try simp only[cv.cI,cv.cD,cZ,da,dp]);simp[dH])
  have ec:(tag==0)=false:=aI
  have ed:(tag != 0)=true:=aH
  have dD:((keys.length:Int)==0)=true:=aE
  have dE:((keys.length:Int) != 0)=false:=aG
  exact TN):p:=h
theorem Jf {p:Prop} (h:p:=by
  have ZP:(dG==19)=false:=aI
  have ZQ:(dG != 19)=true:=aH
  have j6:=hide fT
  clear dw fT nk
  exact aa2):p:=h
theorem XI {p:Prop} (h:p:=by
  have iK:decide ((keys.length:Int)<=40)=false:=aq aB
  have iL:decide (40<(keys.length:Int))=true:=ar aB
  have xy:((its.length:Int)==(keys.length:Int)+1)=false:=aI
  have rS:((its.length:Int)==1+(keys.length:Int))=false:=aI
  have Bq:((its.length:Int)==wrap64 (1+(keys.length:Int)))=false:=by rw[yb aB aB];exact aq kt
  clear dH fM kt
  exact rT):p:=h
theorem alh {p:Prop} (h:p:=by
  go_roundw
  case rel=>exact⟨i+1,by omega,by go_num,bB,bl⟩
  case measure=>simp[intOf];omega):p:=h
theorem Ja {p:Prop} (h:p:=by
  have dD:((keys.length:Int)==0)=false:=aI
  have dE:((keys.length:Int) != 0)=true:=aH
  clear dw
  exact sP):p:=h
theorem XX {p:Prop} (h:p:=by
  intro u wa s hs ha cl hJ K hK
  obtain⟨jB,il,lW,iJ,im,dC,iq,eC,cQ,ik,iu,iw,iR⟩:=hJ
  simp only[Act.put,aa,ab,ae,af,ag,ah]at hK |-
  obtain⟨us,L,jo,hO,hN,hL⟩:=eC (ha 6 aC)
  have nm:=cQ (ha 7 aC)
  rw[nm,jo]at hK |-
  go_simp
  exact hK.out _ _ ⟨jB,il,lW,iJ,im,dC,iq,eC,cQ,ik,fun _=>rfl,iw,iR⟩):p:=h
theorem I8 {p:Prop} (h:p:=by
  go_wp2_with (fail)
  repeat (any_goals (go_quiet (fail);(try go_wp2_with (fail))))
  all_goals
   go_returns
   rw[HK.out]
   exact⟨some ⟨w.heap.size,0,none⟩,2,rfl,HR.out,bl⟩):p:=h
theorem Xa {p:Prop} (h:p:=by
  have ec:(tag==0)=true:=aE
  have ed:(tag != 0)=false:=aG
  have dD:((keys.length:Int)==0)=true:=aE
  have dE:((keys.length:Int) != 0)=false:=aG
  have AA:decide ((its.length:Int)<=24)=true:=ar aB
  have AB:decide (24<(its.length:Int))=false:=aq aB
  have kB:=hide fu
  clear dH dw lT fu
  exact ZK):p:=h
theorem Xb {p:Prop} (h:p:=by
  have ec:(tag==0)=true:=aE
  have ed:(tag != 0)=false:=aG
  have dD:((keys.length:Int)==0)=true:=aE
  have dE:((keys.length:Int) != 0)=false:=aG
  have AA:decide ((its.length:Int)<=40)=true:=ar aB
  have AB:decide (40<(its.length:Int))=false:=aq aB
  have kB:=hide fu
  clear dH dw lT fu
  exact ZK):p:=h
theorem XF {p:Prop} (h:p:=by
  have dD:((keys.length:Int)==0)=true:=aE
  have dE:((keys.length:Int) != 0)=false:=aG
  exact TN):p:=h
theorem WX {p:Prop} (h:p:=by
  go_wp2_with (first | (go_at_call 83;refine (iU _ _ hv).mono ?_;rintro e w1 ⟨rfl,hb1⟩;(have hz1:=hb1.sz;obtain⟨eA,fb,fc,fA⟩:=hb1.lay (w.heap.size);obtain⟨ff,fE,fR,fS⟩:=hb1.lay (q));rw[HW.out])) 
  go_quiet ((go_at_call 39;refine Calls.quiet_of (HQ.out _ bl)))
  go_wp2_with (fail)
  repeat (any_goals (go_quiet (fail);(try go_wp2_with (fail))))
  all_goals
   go_returns
   exact⟨by rw[RR.out];first | done | rfl,bl⟩):p:=h
theorem Jk {p:Prop} (h:p:=by
  have PK:(cH==5)=false:=aI
  have PL:(cH != 5)=true:=aH
  clear dH dw j5
  exact rT):p:=h
theorem Jl {p:Prop} (h:p:=by
  have PK:(cH==2)=false:=aI
  have PL:(cH != 2)=true:=aH
  clear dH dw j5
  exact rT):p:=h
theorem Jm {p:Prop} (h:p:=by
  have ZP:(dG==1)=false:=aI
  have ZQ:(dG != 1)=true:=aH
  clear dH dw nk
  exact rT):p:=h
theorem Xi {p:Prop} (h:p:=by
  have ec:(tag==0)=true:=aE
  have ed:(tag != 0)=false:=aG
  have dD:((keys.length:Int)==0)=true:=aE
  have dE:((keys.length:Int) != 0)=false:=aG
  have rp:((its.length:Int)==2)=false:=aI
  have rq:((its.length:Int) != 2)=true:=aH
  clear dH dw ku
  exact sP):p:=h
theorem Qh {p:Prop} (h:p:=by
  have fg:=True.intro
  repeat (any_goals ((first | clear fg | go_quiet (fail));(try go_wp2_with (go_at_call 101;refine (oL _ _ _ _).mono ?_;rintro e w9 ⟨rfl,rfl⟩))))
  all_goals
   go_returns
   exact⟨gG RR.out.symm,bl⟩):p:=h
theorem Je {p:Prop} (h:p:=by
  have PK:(cH==19)=false:=aI
  have PL:(cH != 19)=true:=aH
  clear dw j5
  exact rT):p:=h
theorem ali {p:Prop} (h:p:=by
  have hdc:decide ((i:Int)<(xs.length:Int))=false:=aD
  have mK:=hide (show fp wr 109 3 v L (xs.map cA.D) by have:=HO.out;rw[List.take_of_length_le aB]at this;exact this)
  obtain⟨A9,n9,c9,rfl⟩:∃A9 n9 c9,v=.slice A9 n9 c9:=by obtain⟨A0,c0,L0,hv0,_⟩:=HO.out.ownRow;exact⟨_,_,_,hv0⟩
  go_wp2_with (fail)
  all_goals
   go_returns
   exact⟨_,L,rfl,mK.out.bel bl,HB.out,cE.trans HBR.out bl⟩):p:=h
theorem XB {p:Prop} (h:p:=by
  refine eH 33 ?_
  refine eH 34 ?_
  refine sj 35 ?_
  refine sj 36 ?_
  refine sj 37 ?_
  refine sj 38 ?_
  refine sj 39 ?_
  refine sj 40 ?_
  refine sj 41 ?_
  refine sj 42 ?_
  refine sj 43 ?_
  refine sj 44 ?_
  refine sj 45 ?_
  refine sj 46 ?_
  refine sj 47 ?_
  refine eH 48 ?_
  refine eH 49 ?_
  refine wpAnyH_done aC ?_ _
  all_goals (cases bt <;> cases bk)
  all_goals (try (go_wp2_with (fail)))
  all_goals
   go_returns
   exact⟨by rw[RR.out];first | done | rfl,bl⟩):p:=h
theorem WT {p:Prop} (h:p:=by
  go_wp2_with (fail)
  repeat (any_goals (go_quiet (fail);(try go_wp2_with (fail))))
  all_goals
   go_returns
   exact⟨by rw[RR.out];first | done | rfl,bl⟩):p:=h
theorem XZ {p:Prop} (h:p:=by
  have hof:=oD (w:=wa) (b:=g) us
  exact hK.out undef _ ⟨cE.setCells hgN us 0 wa jB,il,fun _ h=>absurd ((ha 6 aC).symm.trans h) aF,iJ,im,dC,iq,fun h=>(eC h).off hof (fun b hf q=>hf ⟨(ha 10 aC),q▸eg⟩),cQ,ik,iu,fun _ h=>absurd (show true=false from h) aF,fun _=>(by show xt _ _ (u 10) (u 8);rw[uF];exact DJ.fill eg hgN hgz hlen)⟩):p:=h
theorem Xg {p:Prop} (h:p:=by
  refine eH 35 ?_
  refine eH 36 ?_
  refine sj 37 ?_
  refine sj 38 ?_
  refine sj 39 ?_
  refine sj 40 ?_
  refine sj 41 ?_
  refine sj 42 ?_
  refine sj 43 ?_
  refine sj 44 ?_
  refine sj 45 ?_
  refine sj 46 ?_
  refine sj 47 ?_
  refine sj 48 ?_
  refine sj 49 ?_
  refine eH 50 ?_
  refine eH 51 ?_
  refine wpAnyH_done aC ?_ _
  all_goals (try (go_wp2_with (fail)))
  all_goals
   go_returns
   exact⟨by rw[RR.out];first | done | rfl,bl⟩):p:=h
theorem Xq {p:Prop} (h:p:=by
  have AR:decide (0<=tag)=true:=ar aB
  have ja:decide (tag<(x1.length:Int))=true:=ar aB
  have PD:((its.length:Int)==(gA.length:Int))=true:=aE
  clear hx
  subst hm
  have dD:((keys.length:Int)==0)=false:=aI
  have dE:((keys.length:Int) != 0)=true:=aH
  exact afM):p:=h
theorem Xr {p:Prop} (h:p:=by
  have AR:decide (0<=tag)=true:=ar aB
  have ja:decide (tag<(x1.length:Int))=true:=ar aB
  have PD:((its.length:Int)==(gA.length:Int))=true:=aE
  clear hx
  subst hm
  have dD:((keys.length:Int)==0)=true:=aE
  have dE:((keys.length:Int) != 0)=false:=aG
  exact afM):p:=h
theorem alj {p:Prop} (h:p:=by
  have:(List.range ops.size).countP (fun j=>!(listed.setIfInBounds i true).getD j true)<(List.range ops.size).countP (fun j=>!listed.getD j true):=by
   refine tP (List.mem_range.2 hi1) (by rw[hjun];rfl) ?_ (fun j hj=>?_)
   ·
    rw[fH aB,Array.getElem_setIfInBounds_self]
    rfl
   ·
    by_cases h:i=j
    ·
     subst h;rw[hjun];rfl
    ·
     rw[getD_set_ne true h]at hj;exact hj
  omega):p:=h
theorem Jp {p:Prop} (h:p:=by
  have ec:(tag==0)=true:=aE
  have ed:(tag != 0)=false:=aG
  exact rk5):p:=h
theorem XV {p:Prop} (h:p:=by
  intro u wa s hs ha cl hJ K hK
  obtain⟨jB,il,lW,iJ,im,dC,iq,eC,cQ,ik,iu,iw,iR⟩:=hJ
  simp only[Act.put,aa,ab,ae,af,ag,ah]at hK |-
  go_simp
  exact hK.out _ _ ⟨jB,il,lW,iJ,im,dC,iq,eC,fun _=>rfl,ik,iu,iw,iR⟩):p:=h
theorem Yc {p:Prop} (h:p:=by
  go_returns
  obtain⟨⟨us9,L9,rD⟩,rz⟩:=W2.out.text (al (al hN hbr.size) k1.size) hNq (t:=tx) MD.out
  exact⟨by (rw[RR.out] <;> rfl),⟨_,_,by rw[RR.out];exact rD.on bl⟩,lK.trans (lK.gI hbr hN) (lK.trans (lK.gI k1 (al hN hbr.size)) (rz.trans (lK.gI bl (al (al (al hN hbr.size) k1.size) rz.size))))⟩):p:=h
theorem Xl {p:Prop} (h:p:=by
  have iK:decide ((keys.length:Int)<=40)=true:=ar aB
  have iL:decide (40<(keys.length:Int))=false:=aq aB
  have uU:((its.length:Int)==0)=false:=aI
  have uV:((its.length:Int) != 0)=true:=aH
  have oh:=hide iZ
  clear dH fM iZ mu
  exact aa3):p:=h
theorem Xm {p:Prop} (h:p:=by
  have iK:decide ((keys.length:Int)<=40)=true:=ar aB
  have iL:decide (40<(keys.length:Int))=false:=aq aB
  have uU:((its.length:Int)==0)=true:=aE
  have uV:((its.length:Int) != 0)=false:=aG
  have oh:=hide iZ
  clear dH fM iZ mu
  exact aa3):p:=h
theorem Ye {p:Prop} (h:p:=by
  go_returns
  obtain⟨⟨us9,L9,rD⟩,rz⟩:=W3.out.pos (al (al hN hbr.size) k2.size) hNq SI.out
  exact⟨by (rw[RR.out] <;> rfl),⟨_,_,by rw[RR.out];exact rD.on bl⟩,lK.trans (lK.gI hbr hN) (lK.trans (lK.gI k2 (al hN hbr.size)) (rz.trans (lK.gI bl (al (al (al hN hbr.size) k2.size) rz.size))))⟩):p:=h
theorem Xs {p:Prop} (h:p:=by
  have RR:=hide (show dx (cv.mk x0 x1 x2 x3 x4 x5 x6 x7 x8 x9 x10 x11 x12) (.mk 7 tag cR its keys)=false by rw[qw];(try simp only[cv.cI,cv.cD,cZ,da,dp]);simp[dw])
  have dD:((keys.length:Int)==0)=false:=aI
  have dE:((keys.length:Int) != 0)=true:=aH
  exact afN):p:=h
theorem Xf {p:Prop} (h:p:=by
  have dD:((keys.length:Int)==0)=true:=aE
  have dE:((keys.length:Int) != 0)=false:=aG
  have ja:decide (1<=tag)=false:=aq aB
  have jO:decide (tag<1)=true:=ar aB
  have jP:decide (0<tag)=false:=aq aB
  clear dw
  exact K1):p:=h
theorem XM {p:Prop} (h:p:=by
  have Sn:=hsw
  have fg:=True.intro
  repeat (any_goals ((first | clear fg | go_quiet (fail));(try go_wp2_with (go_at_call 106;refine (jN (cv.mk x0 x1 x2 x3 x4 x5 x6 x7 x8 x9 x10 x11 x12) x3 S S w.heap.size _ _ _ (cG.bel bl Sn.out) (Row.bel bl HR3.out)).mono ?_;rintro e wz ⟨rfl,hbz⟩;rw[HG.out]))))
  all_goals
   go_returns
   exact⟨gG RR.out.symm,bl⟩):p:=h
theorem Xj {p:Prop} (h:p:=by
  have iK:decide ((keys.length:Int)<=40)=false:=aq aB
  have iL:decide (40<(keys.length:Int))=true:=ar aB
  have uU:((its.length:Int)==0)=false:=aI
  have uV:((its.length:Int) != 0)=true:=aH
  clear dH fM mu
  exact rT):p:=h
theorem Xk {p:Prop} (h:p:=by
  have iK:decide ((keys.length:Int)<=40)=false:=aq aB
  have iL:decide (40<(keys.length:Int))=true:=ar aB
  have uU:((its.length:Int)==0)=true:=aE
  have uV:((its.length:Int) != 0)=false:=aG
  clear dH fM mu
  exact rT):p:=h
theorem XH {p:Prop} (h:p:=by
  have RR:=hide (show dx (cv.mk x0 x1 x2 x3 x4 x5 x6 x7 x8 x9 x10 x11 x12) (.mk 3 tag cR its keys)=false by rw[gU];(try simp only[cv.cI,cv.cD,cZ,da,dp]);rw[iZ];simp)
  have ec:(tag==0)=true:=aE
  have ed:(tag != 0)=false:=aG
  exact afL):p:=h
theorem XJ {p:Prop} (h:p:=by
  have RR:=hide (show dx (cv.mk x0 x1 x2 x3 x4 x5 x6 x7 x8 x9 x10 x11 x12) (.mk 3 tag cR its keys)=false by rw[gU];(try simp only[cv.cI,cv.cD,cZ,da,dp]);simp[dH])
  have ec:(tag==0)=false:=aI
  have ed:(tag != 0)=true:=aH
  exact afL):p:=h
theorem Jh {p:Prop} (h:p:=by
  have j6:=hide fT
  have oe:=hide iA
  have JM:=hide sA
  clear dw fT iA sA
  exact rk1):p:=h
theorem XL {p:Prop} (h:p:=by
  go_wp2_with (fail)
  repeat (any_goals (go_quiet (fail);(try go_wp2_with (fail))))
  go_roundw
  case rel=>exact⟨k+1,by go_num,by omega,fun j hj hjm=>by
   by_cases e:j=k
   ·
    subst e;exact HNW.out
   ·
    exact hk.out j aB hjm,bl,hide (cG.bel bl hsw.out)⟩
  case measure=>simp[intOf];omega):p:=h
theorem Ox {p:Prop} (h:p:=by
  go_wp2_with (fail)
  repeat (any_goals (go_quiet (fail);(try go_wp2_with (fail))))
  all_goals
   go_returns
   exact⟨by rw[HA.out];first | done | rfl,bl⟩):p:=h
theorem WW {p:Prop} (h:p:=by
  have hd:decide ((m:Int)<(l.length:Int))=false:=aX
  have HA:=hide (Ta (l:=l) fun i hi k hk=>hm.out i hi k hk aB)
  go_wp2_with (fail)
  repeat (any_goals (go_quiet (fail);(try go_wp2_with (fail))))
  all_goals
   go_returns
   exact⟨by rw[HA.out];first | done | rfl,bl⟩):p:=h
theorem WV {p:Prop} (h:p:=by
  have hd:decide ((m:Int)<(l.length:Int))=false:=aX
  have HA:=hide (ZG (s:=s) (l:=l) fun k hk=>hm.out k hk aB)
  go_wp2_with (fail)
  repeat (any_goals (go_quiet (fail);(try go_wp2_with (fail))))
  all_goals
   go_returns
   exact⟨by rw[HA.out];first | done | rfl,bl⟩):p:=h
theorem XP {p:Prop} (h:p:=by
  rintro e w5 ⟨vs5,rfl,hv5,hb5⟩
  exact hK.out _ _ ⟨jB.trans hb5,il,fun _ _=>⟨vs5,rfl,hv5.wide (fun _ _=>trivial)⟩,iJ,im,dC,iq,fun h=>(eC h).on hb5 (fun b hb=>Or.inl hb),cQ,ik,iu,fun h1 h2=>(iw h1 h2).on hb5,fun h=>(iR h).on hb5⟩):p:=h
theorem alk {p:Prop} (h:p:=by
  intro listed a w hs hc hl hI hn
  exfalso
  have h0:(List.range ops.size).countP (fun j=>!listed.getD j true)=0:=aB
  rw[List.countP_eq_zero]at h0
  have:=h0 m (List.mem_range.2 aB)
  rw[fH aB]at this hl
  rw[hl]at this
  exact this rfl):p:=h
theorem Yb {p:Prop} (h:p:=by
  have hw:=lB hin
  unfold dS at hw
  rw[if_neg aK,if_neg aK,if_neg aK,if_neg aK,if_neg aK,if_neg aK,if_pos rfl]at hw
  simp only[Bool.and_eq_true,Bool.or_eq_true,decide_eq_true_eq]at hw
  exact hw.2):p:=h
theorem TP {p:Prop} (h:p:=by
  go_wp2
  all_goals
   go_returns
   go_light
   refine⟨?_,bl⟩
   have B1:=B1.out
   have B2:=B2.out
   simp only[Array.getD_eq_getD_getElem?,List.getElem?_toArray,List.getElem?_cons_succ,List.getElem?_cons_zero,Option.getD_some]
   unfold rF
   grind):p:=h
theorem Xy {p:Prop} (h:p:=by
  have dD:((keys.length:Int)==0)=false:=aI
  have dE:((keys.length:Int) != 0)=true:=aH
  have j6:=hide fT
  have oe:=hide iA
  clear dw fT iA
  exact aa1):p:=h
theorem XA {p:Prop} (h:p:=by
  have dD:((keys.length:Int)==0)=true:=aE
  have dE:((keys.length:Int) != 0)=false:=aG
  have j6:=hide fT
  have oe:=hide iA
  clear dw fT iA
  exact aa1):p:=h
theorem alm {p:Prop} (h:p:=by
  refine List.eq_nil_iff_forall_not_mem.2 fun k hk=>?_
  obtain⟨h1,ok,hok,-⟩:=mem_ready.1 hk
  have hk1:k<ops.size:=(Array.getElem?_eq_some_iff.1 hok).1
  have h2:=I1 k hk1
  rw[fH aB]at h1 h2
  rw[h2]at h1
  cases h1):p:=h
theorem TX {p:Prop} (h:p:=by
  go_wp2_with (fail)
  go_loopw [4] (fun v wr=>∃m:Nat,v=.int .i64 m/\m<=s.size/\Hid (ld s m=qh s)/\cE w wr) (fun v _=>s.size - (intOf v).toNat)
  case atStart=>exact⟨0,rfl,by omega,rfl,bl⟩
  case round =>
   exact rk6):p:=h
theorem Yd {p:Prop} (h:p:=by
  go_returns
  exact⟨by (rw[RR.out] <;> rfl),⟨_,_,by rw[RR.out];exact W3.out.on bl⟩,lK.trans (lK.gI hbr hN) (lK.trans (lK.gI k2 (al hN hbr.size)) (lK.gI bl (al (al hN hbr.size) k2.size)))⟩):p:=h
theorem XK {p:Prop} (h:p:=by
  go_roundw
  case rel=>exact⟨m+1,by go_num,by omega,fun j hj hjm=>by
   by_cases e:j=m
   ·
    subst e;exact HNW.out
   ·
    exact hm.out j hj aB,bl,hide (cG.bel bl hsw.out)⟩
  case measure=>simp[intOf];omega):p:=h
theorem Xx {p:Prop} (h:p:=by
  have dD:((keys.length:Int)==0)=false:=aI
  have dE:((keys.length:Int) != 0)=true:=aH
  have j6:=hide fT
  clear dw fT
  exact aa2):p:=h
theorem Xz {p:Prop} (h:p:=by
  have dD:((keys.length:Int)==0)=true:=aE
  have dE:((keys.length:Int) != 0)=false:=aG
  have j6:=hide fT
  clear dw fT
  exact aa2):p:=h
theorem TT {p:Prop} (h:p:=by
  have hown1:=Dg hown hb1
  rw[<-MM HB.out]at hown1
  exact⟨⟨k+1,rfl,by omega,hown1,(by rw[eA];exact hc0),(by rw[eA];exact hc1),hbw.trans hb1,fc⟩,by simp only[intOf];omega⟩):p:=h
theorem WU {p:Prop} (h:p:=by
  go_roundw
  case rel=>exact⟨m+1,by go_num,by omega,fun j hj hjm=>by
   by_cases e:j=m
   ·
    subst e;exact HD.out.trans HN.out
   ·
    exact hm.out j hj aB,bl⟩
  case measure=>simp[intOf];omega):p:=h
theorem Xv {p:Prop} (h:p:=by
  have dD:((keys.length:Int)==0)=false:=aI
  have dE:((keys.length:Int) != 0)=true:=aH
  clear ku dw
  exact rT):p:=h
theorem Xw {p:Prop} (h:p:=by
  have dD:((keys.length:Int)==0)=true:=aE
  have dE:((keys.length:Int) != 0)=false:=aG
  clear ku dw
  exact rT):p:=h
theorem WM {p:Prop} (h:p:=by
  obtain⟨us,L,e,ho,hn,hL⟩:=h
  exact⟨us,L,e,ho.bel k,hn,fun b hb=>⟨(hL b hb).1,fun hf=>(hF b hf).elim (hL b hb).2 (fun q=>by have:=ho.lt _ _ _ b hb;omega)⟩⟩):p:=h
theorem Xt {p:Prop} (h:p:=by
  have dD:((keys.length:Int)==0)=true:=aE
  have dE:((keys.length:Int) != 0)=false:=aG
  exact afN):p:=h
theorem WR {p:Prop} (h:p:=by
  unfold dS at hw
  rcases h with h | h
  ·
   repeat rw[if_neg (by simp only;omega)]at hw
   cases hw
  ·
   repeat rw[if_neg (by simp only;omega)]at hw
   cases hw):p:=h
theorem aln {p:Prop} (h:p:=by
  simp only[cA.fU,Dat.ij,Dat.mark,Dat.cnt]
  first | done | rfl | (simp only[Nat.jJ];done) | (simp;done) | (push_cast;simp)):p:=h
theorem Uv {p:Prop} (h:p:=by
  go_wp2_with (fail)
  all_goals go_roundw
  case rel=>exact⟨i+1,_,_,by go_num,by omega,hide HGN.out⟩
  case measure=>simp[intOf];omega):p:=h
theorem alo {p:Prop} (h:p:=by
  simp only[cJ.fU,Dat.ij,Dat.mark,Dat.cnt]
  first | done | rfl | (simp only[Nat.jJ];done) | (simp;done) | (push_cast;simp)):p:=h
theorem alp {p:Prop} (h:p:=by
  simp only[cz.fU,Dat.ij,Dat.mark,Dat.cnt]
  first | done | rfl | (simp only[Nat.jJ];done) | (simp;done) | (push_cast;simp)):p:=h
theorem alq {p:Prop} (h:p:=by
  simp only[cw.fU,Dat.ij,Dat.mark,Dat.cnt]
  first | done | rfl | (simp only[Nat.jJ];done) | (simp;done) | (push_cast;simp)):p:=h
theorem Xd {p:Prop} (h:p:=by
  rw[show tag.toNat=m by omega]
  have:x1.getD m (.mk ByteArray.empty [] 0)=x1[m]:=by simp[List.getD,hlt]
  rw[this,Xc.out];rfl):p:=h
theorem alr {p:Prop} (h:p:=by
  have:=List.countP_le_length (l:=List.range ops.size) (p:=fun j=>!(Array.replicate ops.size false).getD j true)
  simpa using this):p:=h
theorem TV {p:Prop} (h:p:=by
  obtain rfl:k=128:=by omega
  have hT:=MN lo hi wr _ _ hown
  go_wp2_with (fail)
  all_goals
   go_returns
   exact⟨rfl,bl⟩):p:=h
theorem als {p:Prop} (h:p:=by
  simp only[Dat.ij,Dat.mark,Dat.cnt]
  first | done | rfl | (simp only[Nat.jJ];done) | (simp;done) | (push_cast;simp)):p:=h
theorem WZ {p:Prop} (h:p:=by
  have RR:=hide (show eV s tag its=false by unfold eV;rw[aq aB];simp)
  have HL:=hide hl
  exact adG):p:=h
theorem X1 {p:Prop} (h:p:=by
  cases hq:s 10 with
  | false=>rfl
  | true=>exact absurd (cl 10 hq 9 aC) aZ):p:=h
theorem WQ {p:Prop} (h:p:=by
  have RR:=hide (gW (s:=(cv.mk x0 x1 x2 x3 x4 x5 x6 x7 x8 x9 x10 x11 x12)) hw)
  have HW:=hide hw
  exact ada):p:=h
theorem XO {p:Prop} (h:p:=by
  go_simp
  exact hK.out _ _ ⟨jB,fun _=>rfl,lW,iJ,im,dC,iq,eC,cQ,ik,iu,iw,iR⟩):p:=h
theorem XQ {p:Prop} (h:p:=by
  go_simp
  exact hK.out _ _ ⟨jB,il,lW,fun _=>rfl,im,dC,iq,eC,cQ,ik,iu,iw,iR⟩):p:=h
theorem XS {p:Prop} (h:p:=by
  go_simp
  exact hK.out _ _ ⟨jB,il,lW,iJ,im,fun _=>rfl,iq,eC,cQ,ik,iu,iw,iR⟩):p:=h
theorem alu {p:Prop} (h:p:=by
  rcases Nat.lt_or_ge j m with h2 | h2
  ·
   exact h2
  ·
   obtain rfl:j=m:=by omega
   rw[hl]at hj;cases hj):p:=h
theorem WN {p:Prop} (h:p:=by
  obtain⟨us,L,e,ho,hn,hL⟩:=h
  exact⟨us,L,e,ho.gL k (fun b hb=>hF b (hL b hb).2),hn,hL⟩):p:=h
theorem W7 {p:Prop} (h:p:=by
  go_roundw
  case rel=>exact⟨m+1,by go_num,by omega,HM.out,bl⟩
  case measure=>simp[intOf];omega):p:=h
theorem alv {p:Prop} (h:p:=by
  simp[Array.getElem?_eq_none (show (Array.replicate ops.size false).size<=j by simpa using h)]at hj):p:=h
end Go.Proofs.YtjngkknbpfgdcaaGreatDoor
