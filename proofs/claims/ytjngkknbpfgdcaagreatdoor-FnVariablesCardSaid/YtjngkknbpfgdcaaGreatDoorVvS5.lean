import Derived.Test.YtjngkknbpfgdcaaGreatDoorVvS2z
set_option linter.unusedVariables false
set_option linter.unusedSimpArgs false
set_option maxRecDepth 100000
set_option maxHeartbeats 8000000
namespace Go.Proofs.YtjngkknbpfgdcaaGreatDoor
open Go.RowKit Go.Proofs.Tryz
--%quiet
theorem pk (a b c:Int) (w:World):Calls prog 101 #[.int .i64 a,.int .i64 b,.int .i64 c] w fun e w'=>e=.returned (.bool (decide (b<=a)&&decide (a<=c)))/\w=w':=by
 by_cases h:b<=a
 ·
  have hd:decide (b<=a)=true:=by simp[h]
  go_enter func101,ntmps101
  go_wp2
  all_goals
   go_returns
   exact⟨by simp[h],rfl⟩
 ·
  have hd:decide (b<=a)=false:=by simp[h]
  go_enter func101,ntmps101
  go_wp2
  all_goals
   go_returns
   exact⟨by simp[h],rfl⟩
abbrev Rc (l:List Int):List (List Y):=l.map fun x=>[Y.int x]
theorem agV {w:World} {S:Nat->Prop} {A:Option Addr} {c:Nat} {l:List Int} (h:Row w S 1 A c (Rc l)) (i:Nat) (hi:i<l.length) :
  ∃b o,A=some ⟨b,o,none⟩/\S b/\b<w.heap.size/\dT l[i]/\w.cell? ⟨b,o+i,none⟩=some (.int .i64 l[i]):=by
 obtain⟨b,o,vs,hA,hS,hb,hv,hl,hc⟩:=Row.at h i bD
 rw[List.getElem_map]at hv
 match vs,hv with
 | [v],hv =>
  obtain⟨rfl,hs⟩:=Y.db.1 hv.1
  exact⟨b,o,hA,hS,hb,hs,by simpa using hc 0 aI⟩
theorem fQ (l:List Int) (w:World) (E:TypeId) (S:Nat->Prop) (hS:S w.heap.size) (hl:l.length<=maxLen) (hi:∀x∈l,dT x) :
  Row (w.alloc (.cells (l.map (Value.int .i64)).toArray E)) S 1 (some ⟨w.heap.size,0,none⟩) l.length (Rc l):=by
 refine⟨by simp,hl,fun _=>⟨w.heap.size,0,rfl,hS,by simp,Y.fz.mk fun i h=>?_⟩⟩
 simp only[ar]at h
 rw[List.getElem_map]
 refine⟨Y.fL.oY (vs:=[.int .i64 l[i]]) ⟨Y.db.2 ⟨rfl,hi _ (List.getElem_mem h)⟩,trivial⟩ fun j hj=>?_,rfl⟩
 simp only[aD,aE]at hj
 obtain rfl:j=0:=by omega
 rw[World.cell?_alloc_mark]
 simp[h]
theorem fZ (op:Int):∀x∈cM op,dT x:=by
 intro x hx
 have:(cM op).all (fun x=>decide (0<=x/\x<=13))=true:=by
  unfold cM;(repeat' split) <;> decide
 have:=List.all_eq_true.1 this x hx
 simp only[decide_eq_true_eq]at this
 unfold dT;omega
theorem FT (op:Int):(cM op).length<=2:=by unfold cM;(repeat' split) <;> decide
theorem KK {α β:Type} {f:α->β->Bool}:∀(K:List α) (l:List β) (k:Nat) (h1:k<K.length) (h2:k<l.length),f K[k] l[k]=false->sc f K l=false
 | [],_,_,h1,_,_=>absurd h1 aJ
 | _ :: _,[],_,_,h2,_=>absurd h2 aJ
 | a :: r,b :: q,0,_,_,h=>by
  simp only[sc]
  rw[show f a b=false from h]
  rfl
 | a :: r,b :: q,k+1,h1,h2,h=>by
  simp only[sc]
  rw[KK r q k (by simpa using h1) (by simpa using h2) h]
  simp
theorem KL {α β:Type} {f:α->β->Bool}:∀(K:List α) (l:List β),(∀k (h1:k<K.length) (h2:k<l.length),f K[k] l[k]=true)->sc f K l=true
 | [],_,_=>by simp[sc]
 | _ :: _,[],_=>by simp[sc]
 | a :: r,b :: q,h=>by
  simp only[sc]
  rw[show f a b=true from h 0 aJ aJ,KL r q fun k h1 h2=>h (k+1) (by simpa using h1) (by simpa using h2)]
  rfl
theorem Rd {s:O} {op:Int} {its:List R} (hl:(cM op).length=its.length) (k:Nat) (hk:k<its.length) (nF:k<(cM op).length) (h:dG s (cM op)[k] its[k].v=false):ez s op its=false:=by
 unfold ez
 rw[KK (f:=fun k (x:R)=>dG s k x.v) _ _ k nF hk h]
 simp
theorem abA {s:O} {op:Int} {its:List R} (h1:1<=op) (h2:op<=23) (hl:(cM op).length=its.length) (h:∀k (hk:k<its.length) (nF:k<(cM op).length),dG s (cM op)[k] its[k].v=true):ez s op its=true:=by
 unfold ez
 rw[KL (f:=fun k (x:R)=>dG s k x.v) _ _ fun k h1 h2=>h k h2 h1,ay ⟨h1,h2⟩,ay hl]
 rfl
theorem yw (op:Int) (w:World):Calls prog 80 #[.int .i64 op] w (adW w 1 (Rc (cM op))):=by
 by_cases h1:op=1
 ·
  subst h1
  have HK:=I (show cM 1=[2] by decide)
  have HR:=I (fQ [2] w 3 (fun b=>w.heap.size<=b) (Nat.le_refl _) aI (HK.out▸fZ 1))
  go_enter func80,ntmps80
  exact sj
 by_cases h2:op=2
 ·
  subst h2
  have HK:=I (show cM 2=[1] by decide)
  have HR:=I (fQ [1] w 3 (fun b=>w.heap.size<=b) (Nat.le_refl _) aI (HK.out▸fZ 2))
  go_enter func80,ntmps80
  exact sj
 by_cases h3:op=3
 ·
  subst h3
  have HK:=I (show cM 3=[1] by decide)
  have HR:=I (fQ [1] w 3 (fun b=>w.heap.size<=b) (Nat.le_refl _) aI (HK.out▸fZ 3))
  go_enter func80,ntmps80
  exact sj
 by_cases h4:op=4
 ·
  subst h4
  have HK:=I (show cM 4=[1] by decide)
  have HR:=I (fQ [1] w 3 (fun b=>w.heap.size<=b) (Nat.le_refl _) aI (HK.out▸fZ 4))
  go_enter func80,ntmps80
  exact sj
 by_cases h5:op=5
 ·
  subst h5
  have HK:=I (show cM 5=[1] by decide)
  have HR:=I (fQ [1] w 3 (fun b=>w.heap.size<=b) (Nat.le_refl _) aI (HK.out▸fZ 5))
  go_enter func80,ntmps80
  exact sj
 by_cases h6:op=6
 ·
  subst h6
  have HK:=I (show cM 6=[1] by decide)
  have HR:=I (fQ [1] w 3 (fun b=>w.heap.size<=b) (Nat.le_refl _) aI (HK.out▸fZ 6))
  go_enter func80,ntmps80
  exact sj
 by_cases h7:op=7
 ·
  subst h7
  have HK:=I (show cM 7=[3] by decide)
  have HR:=I (fQ [3] w 3 (fun b=>w.heap.size<=b) (Nat.le_refl _) aI (HK.out▸fZ 7))
  go_enter func80,ntmps80
  exact sj
 by_cases h8:op=8
 ·
  subst h8
  have HK:=I (show cM 8=[3] by decide)
  have HR:=I (fQ [3] w 3 (fun b=>w.heap.size<=b) (Nat.le_refl _) aI (HK.out▸fZ 8))
  go_enter func80,ntmps80
  exact sj
 by_cases h9:op=9
 ·
  subst h9
  have HK:=I (show cM 9=[3] by decide)
  have HR:=I (fQ [3] w 3 (fun b=>w.heap.size<=b) (Nat.le_refl _) aI (HK.out▸fZ 9))
  go_enter func80,ntmps80
  exact sj
 by_cases Be:op=10
 ·
  subst Be
  have HK:=I (show cM 10=[3] by decide)
  have HR:=I (fQ [3] w 3 (fun b=>w.heap.size<=b) (Nat.le_refl _) aI (HK.out▸fZ 10))
  go_enter func80,ntmps80
  exact sj
 by_cases GK:op=13
 ·
  subst GK
  have HK:=I (show cM 13=[12] by decide)
  have HR:=I (fQ [12] w 3 (fun b=>w.heap.size<=b) (Nat.le_refl _) aI (HK.out▸fZ 13))
  go_enter func80,ntmps80
  exact sj
 by_cases II:op=14
 ·
  subst II
  have HK:=I (show cM 14=[12,12] by decide)
  have HR:=I (fQ [12,12] w 3 (fun b=>w.heap.size<=b) (Nat.le_refl _) aI (HK.out▸fZ 14))
  go_enter func80,ntmps80
  exact KM
 by_cases Ve:op=15
 ·
  subst Ve
  have HK:=I (show cM 15=[12,12] by decide)
  have HR:=I (fQ [12,12] w 3 (fun b=>w.heap.size<=b) (Nat.le_refl _) aI (HK.out▸fZ 15))
  go_enter func80,ntmps80
  exact KM
 by_cases h16:op=16
 ·
  subst h16
  have HK:=I (show cM 16=[12,13] by decide)
  have HR:=I (fQ [12,13] w 3 (fun b=>w.heap.size<=b) (Nat.le_refl _) aI (HK.out▸fZ 16))
  go_enter func80,ntmps80
  exact KM
 by_cases h17:op=17
 ·
  subst h17
  have HK:=I (show cM 17=[12,13] by decide)
  have HR:=I (fQ [12,13] w 3 (fun b=>w.heap.size<=b) (Nat.le_refl _) aI (HK.out▸fZ 17))
  go_enter func80,ntmps80
  exact KM
 by_cases h18:op=18
 ·
  subst h18
  have HK:=I (show cM 18=[13] by decide)
  have HR:=I (fQ [13] w 3 (fun b=>w.heap.size<=b) (Nat.le_refl _) aI (HK.out▸fZ 18))
  go_enter func80,ntmps80
  exact sj
 by_cases h20:op=20
 ·
  subst h20
  have HK:=I (show cM 20=[13] by decide)
  have HR:=I (fQ [13] w 3 (fun b=>w.heap.size<=b) (Nat.le_refl _) aI (HK.out▸fZ 20))
  go_enter func80,ntmps80
  exact sj
 have HK:=I (show cM op=[] by unfold cM;rw[if_neg aF,if_neg aF,if_neg aF,if_neg aF,if_neg aF,if_neg aF,if_neg aF])
 go_enter func80,ntmps80
 go_wp2_with (fail)
 repeat (any_goals (go_quiet (fail);(try go_wp2_with (fail))))
 all_goals
  go_returns
  rw[HK.out]
  exact⟨none,0,rfl,⟨by simp,by decide,fun h=>absurd rfl h⟩,bl⟩
abbrev alS (f:FuncId) (s:O):Prop:=∀(kd tag J:Int) (its keys:List R) (S S':Nat->Prop) (q:Nat) (w:World) (Ai:Option Addr) (ci:Nat) (Ak:Option Addr) (ck:Nat),cv w S q s->Row w S' 6 Ai ci (its.map R.D) ->
 Calls prog f #[.pointer (some ⟨q,0,none⟩),.agg #[.int .i64 kd,.int .i64 tag,.int .i64 J,.slice Ai its.length ci,.slice Ak keys.length ck]] w fun e w'=>e=.returned (.bool (ez s tag its))/\U w w'
theorem Hi (s:O):alS 142 s:=by
 intro kd tag J its keys S S' q w Ai ci Ak ck hs hR
 have HS:=I hs
 have hq:=hs.1
 have ga:¬q=w.heap.size:=aF
 have HR:=I hR
 have hlen:=hR.1
 have gX:=hR.2.1
 simp only[ar]at hlen
 unfold maxLen at gX
 have UB:=FT tag
 clear hR hs
 by_cases hl:(cM tag).length=its.length
 case neg =>
  have f1:(((cM tag).length:Int) != (its.length:Int))=true:=aH
  have RR:=I (show ez s tag its=false by unfold ez;rw[ax hl];simp)
  exact agW
 case pos =>
 have f1:(((cM tag).length:Int) != (its.length:Int))=false:=aH
 by_cases h1:tag<1
 ·
  exact Yp
 by_cases h2:23<tag
 ·
  exact Yp
 have HL:=I hl
 clear hl
 go_enter func142,ntmps142
 have eF:=True.intro
 repeat (any_goals ((first | clear eF | go_quiet (fail));(try go_wp2_with (go_at_call 80;refine (yw tag _).mono ?_;rintro e w1 ⟨AK,cK,rfl,hRK,dE⟩;(try simp only[ar]);have HRK:=I hRK;clear hRK;(have jZ:=dE.sz;obtain⟨fA,fJ,fI,fP⟩:=dE.lay (w.heap.size);obtain⟨fX,fY,gi,gj⟩:=dE.lay (q))))))
 have HB1:=I (show U w w1 from bl)
 have hcK:=HRK.out.1
 have alU:=HRK.out.2.1
 simp only[ar]at hcK
 unfold maxLen at alU
 go_loopw [6] (fun v wr=>∃m:Nat,v=.int .i64 m/\m<=(cM tag).length/\Hid (∀j (hj:j<its.length) (UP:j<(cM tag).length),j<m->dG s (cM tag)[j] its[j].v=true)/\U w1 wr) (fun v _=>(cM tag).length - (intOf v).toNat)
 case atStart=>exact⟨0,rfl,by omega,fun j _ _ hj=>by omega,bl⟩
 case round =>
  obtain⟨m,rfl,m1,hm,Wd⟩:=hrel
  have dX:U w wr:=U.trans HB1.out Wd
  have sS:=dX.size
  have aqB:=Wd.size
  have hko:=Wd.box w.heap.size aF
  by_cases h3:m<(cM tag).length
  ·
   have hd:decide ((m:Int)<((cM tag).length:Int))=true:=cg
   have hd':decide (m<(cM tag).length)=true:=cg
   have h3':m<its.length:=by rw[<-HL.out];exact h3
   (obtain⟨b2,o2,da,dw,dx,dy,dz,dA,mO,mu,nn,od,vz,kv,kz,kA,iw,kD,kE,jS,jT,jU,jV,jW,j1⟩:=R.el HR.out m h3' dX;subst mO)
   obtain⟨b3,o3,Mw,hS3,yN,hI3,c3⟩:=agV HRK.out m h3
   subst Mw
   replace c3:=(Wd.box b3 yN _).trans c3
   have oC:¬b2=wr.heap.size:=aF
   have Mq:¬b3=wr.heap.size:=aF
   have aqC:b3<wr.heap.size:=aF
   have HC:=I (show dG s (cM tag)[m] its[m].v=dG s (cM tag)[m] ⟨da,dw,dx,dy,dz,dA⟩ by rw[od.out];rfl)
   obtain⟨kx,hkx⟩:∃kx,kx=(cM tag)[m]:=⟨_,rfl⟩
   rw[<-hkx]at c3 HC
   have HKX:=I hkx
   clear hkx
   cases hn:eE s ⟨da,dw,dx,dy,dz,dA⟩
   ·
    have HN:=I hn
    have HA:=I (Rd HL.out m h3' h3 (by rw[<-HKX.out];refine HC.out.trans ?_;unfold dG;rw[hn];rfl))
    clear hn
    exact Re
   have HN:=I hn
   cases hc:dG s kx ⟨da,dw,dx,dy,dz,dA⟩
   ·
    have HA:=I (Rd HL.out m h3' h3 (by rw[<-HKX.out];exact HC.out.trans hc))
    have KN:(if kx=13 then decide (da=13\/da=14) else decide (da=kx))=false:=by
     unfold dG at hc;rw[hn]at hc;simpa using hc
    clear hc hn
    by_cases FU:kx=13
    ·
     subst FU
     rw[if_pos rfl]at KN
     have Hj:=of_decide_eq_false KN
     have f13:(da != 13)=true:=aH
     have f14:(da != 14)=true:=aH
     clear KN Hj
     exact Re
    ·
     rw[if_neg FU]at KN
     have Hj:=of_decide_eq_false KN
     have f13:(kx==13)=false:=by simp[FU]
     have f14:(da != kx)=true:=by simp[Hj]
     clear KN Hj FU
     exact Re
   ·
    have HCT:=I (HC.out.trans hc)
    have KN:(if kx=13 then decide (da=13\/da=14) else decide (da=kx))=true:=by
     unfold dG at hc;rw[hn]at hc;simpa using hc
    clear hc hn
    have HM:=I (show ∀j (hj:j<its.length) (UP:j<(cM tag).length),j<m+1->dG s (cM tag)[j] its[j].v=true from fun j hj UP uy=>by
     by_cases e:j=m
     ·
      subst e;rw[<-HKX.out];exact HCT.out
     ·
      exact hm.out j hj UP aF)
    by_cases FU:kx=13
    ·
     subst FU
     rw[if_pos rfl]at KN
     have Hj:=of_decide_eq_true KN
     clear KN
     rcases Hj with rfl | rfl
     all_goals
      have eF:=True.intro
      repeat (any_goals ((first | clear eF | go_quiet (fail));(try go_wp2_with (go_at_call 45;refine (gq s ⟨_,dw,dx,dy,dz,dA⟩ S q _ (cv.de bl HS.out) ⟨kv,kz,kA,iw,kD,kE⟩).mono ?_;rintro e w4 ⟨rfl,sU⟩;rw[HN.out];(have hz4:=sU.sz;obtain⟨Yq,Yr,Ys,Yt⟩:=sU.lay (wr.heap.size);obtain⟨Yu,Yv,Yw,Yx⟩:=sU.lay (b3))))))
      exact Yy
    ·
     rw[if_neg FU]at KN
     have Hj:=of_decide_eq_true KN
     subst Hj
     have f13:(da==13)=false:=by simp[FU]
     clear KN FU
     have eF:=True.intro
     repeat (any_goals ((first | clear eF | go_quiet (fail));(try go_wp2_with (go_at_call 45;refine (gq s ⟨da,dw,dx,dy,dz,dA⟩ S q _ (cv.de bl HS.out) ⟨kv,kz,kA,iw,kD,kE⟩).mono ?_;rintro e w4 ⟨rfl,sU⟩;rw[HN.out];(have hz4:=sU.sz;obtain⟨Yq,Yr,Ys,Yt⟩:=sU.lay (wr.heap.size);obtain⟨Yu,Yv,Yw,Yx⟩:=sU.lay (b3))))))
     exact Yy
  ·
   have hd:decide ((m:Int)<((cM tag).length:Int))=false:=cg
   have hd':decide (m<(cM tag).length)=false:=cg
   have HA:=I (abA (s:=s) aF aF HL.out fun k hk nF=>hm.out k hk nF aF)
   go_wp2_with (fail)
   repeat (any_goals (go_quiet (fail);(try go_wp2_with (fail))))
   all_goals
    go_returns
    exact⟨by rw[HA.out];first | done | rfl,bl⟩
end Go.Proofs.YtjngkknbpfgdcaaGreatDoor
