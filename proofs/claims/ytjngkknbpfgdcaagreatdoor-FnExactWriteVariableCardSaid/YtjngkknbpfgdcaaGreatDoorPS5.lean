import Derived.Test.YtjngkknbpfgdcaaGreatDoorPr
import Derived.Test.YtjngkknbpfgdcaaGreatDoorPS2z
import Derived.Test.YtjngkknbpfgdcaaGreatDoorPShelf
import Derived.Deep.RegionHeld3
import Derived.Deep.RegionWith
set_option linter.unusedVariables false
set_option linter.unusedSimpArgs false
set_option maxRecDepth 100000
set_option maxHeartbeats 8000000
namespace Go.Proofs.YtjngkknbpfgdcaaGreatDoor
open Go.RowKit
--%quiet
theorem oL (a b c:Int) (w:World):Calls Tryz.prog 101 #[.int .i64 a,.int .i64 b,.int .i64 c] w fun e w'=>e=.returned (.bool (decide (b<=a)&&decide (a<=c)))/\w=w':=by
 by_cases h:b<=a
 ·
  have hd:decide (b<=a)=true:=by simp[h]
  go_enter Tryz.func101,Tryz.ntmps101
  go_wp2
  all_goals
   go_returns
   exact⟨by simp[h],rfl⟩
 ·
  have hd:decide (b<=a)=false:=by simp[h]
  go_enter Tryz.func101,Tryz.ntmps101
  go_wp2
  all_goals
   go_returns
   exact⟨by simp[h],rfl⟩
abbrev Pd (l:List Int):List (List Dat):=l.map fun x=>[Dat.int x]
theorem adF {w:World} {S:Nat->Prop} {A:Option Addr} {c:Nat} {l:List Int} (h:Row w S 1 A c (Pd l)) (i:Nat) (hi:i<l.length) :
  ∃b o,A=some ⟨b,o,none⟩/\S b/\b<w.heap.size/\fD l[i]/\w.cell? ⟨b,o+i,none⟩=some (.int .i64 l[i]):=by
 obtain⟨b,o,vs,hA,hS,hb,hv,hl,hc⟩:=Row.at h i br
 rw[List.getElem_map]at hv
 match vs,hv with
 | [v],hv =>
  obtain⟨rfl,hs⟩:=Dat.dA.1 hv.1
  exact⟨b,o,hA,hS,hb,hs,by simpa using hc 0 aF⟩
theorem fQ (l:List Int) (w:World) (E:TypeId) (S:Nat->Prop) (hS:S w.heap.size) (hl:l.length<=maxLen) (hi:∀x∈l,fD x) :
  Row (w.alloc (.cells (l.map (Value.int .i64)).toArray E)) S 1 (some ⟨w.heap.size,0,none⟩) l.length (Pd l):=by
 refine⟨by simp,hl,fun _=>⟨w.heap.size,0,rfl,hS,by simp,Dat.fI.mk fun i h=>?_⟩⟩
 simp only[aj]at h
 rw[List.getElem_map]
 refine⟨Dat.fN.nu (vs:=[.int .i64 l[i]]) ⟨Dat.dA.2 ⟨rfl,hi _ (List.getElem_mem h)⟩,trivial⟩ fun j hj=>?_,rfl⟩
 simp only[az,aA]at hj
 obtain rfl:j=0:=by omega
 rw[World.cell?_alloc_mark]
 simp[h]
theorem gm (op:Int):∀x∈cW op,fD x:=by
 intro x hx
 have:(cW op).all (fun x=>decide (0<=x/\x<=13))=true:=by
  unfold cW;(repeat' split) <;> decide
 have:=List.all_eq_true.1 this x hx
 simp only[decide_eq_true_eq]at this
 unfold fD;omega
theorem DP (op:Int):(cW op).length<=2:=by unfold cW;(repeat' split) <;> decide
theorem I6 {α β:Type} {f:α->β->Bool}:∀(K:List α) (l:List β) (k:Nat) (h1:k<K.length) (h2:k<l.length),f K[k] l[k]=false->all2 f K l=false
 | [],_,_,h1,_,_=>absurd h1 aK
 | _ :: _,[],_,_,h2,_=>absurd h2 aK
 | a :: r,b :: q,0,_,_,h=>by
  simp only[all2]
  rw[show f a b=false from h]
  rfl
 | a :: r,b :: q,k+1,h1,h2,h=>by
  simp only[all2]
  rw[I6 r q k (by simpa using h1) (by simpa using h2) h]
  simp
theorem I7 {α β:Type} {f:α->β->Bool}:∀(K:List α) (l:List β),(∀k (h1:k<K.length) (h2:k<l.length),f K[k] l[k]=true)->all2 f K l=true
 | [],_,_=>by simp[all2]
 | _ :: _,[],_=>by simp[all2]
 | a :: r,b :: q,h=>by
  simp only[all2]
  rw[show f a b=true from h 0 aK aK,I7 r q fun k h1 h2=>h (k+1) (by simpa using h1) (by simpa using h2)]
  rfl
theorem Pe {s:cv} {op:Int} {its:List cw} (hl:(cW op).length=its.length) (k:Nat) (hk:k<its.length) (hk2:k<(cW op).length) (h:eb s (cW op)[k] its[k].v=false):eV s op its=false:=by
 unfold eV
 rw[I6 (f:=fun k (x:cw)=>eb s k x.v) _ _ k hk2 hk h]
 simp
theorem ZJ {s:cv} {op:Int} {its:List cw} (h1:1<=op) (h2:op<=23) (hl:(cW op).length=its.length) (h:∀k (hk:k<its.length) (hk2:k<(cW op).length),eb s (cW op)[k] its[k].v=true):eV s op its=true:=by
 unfold eV
 rw[I7 (f:=fun k (x:cw)=>eb s k x.v) _ _ fun k h1 h2=>h k h2 h1,ar ⟨h1,h2⟩,ar hl]
 rfl
theorem xx (op:Int) (w:World):Calls Tryz.prog 80 #[.int .i64 op] w (uI w 1 (Pd (cW op))):=by
 by_cases h1:op=1
 ·
  subst h1
  have HK:=hide (show cW 1=[2] by decide)
  have HR:=hide (fQ [2] w 3 (fun b=>w.heap.size<=b) (Nat.le_refl _) aF (HK.out▸gm 1))
  go_enter Tryz.func80,Tryz.ntmps80
  exact xZ
 by_cases h2:op=2
 ·
  subst h2
  have HK:=hide (show cW 2=[1] by decide)
  have HR:=hide (fQ [1] w 3 (fun b=>w.heap.size<=b) (Nat.le_refl _) aF (HK.out▸gm 2))
  go_enter Tryz.func80,Tryz.ntmps80
  exact xZ
 by_cases h3:op=3
 ·
  subst h3
  have HK:=hide (show cW 3=[1] by decide)
  have HR:=hide (fQ [1] w 3 (fun b=>w.heap.size<=b) (Nat.le_refl _) aF (HK.out▸gm 3))
  go_enter Tryz.func80,Tryz.ntmps80
  exact xZ
 by_cases h4:op=4
 ·
  subst h4
  have HK:=hide (show cW 4=[1] by decide)
  have HR:=hide (fQ [1] w 3 (fun b=>w.heap.size<=b) (Nat.le_refl _) aF (HK.out▸gm 4))
  go_enter Tryz.func80,Tryz.ntmps80
  exact xZ
 by_cases h5:op=5
 ·
  subst h5
  have HK:=hide (show cW 5=[1] by decide)
  have HR:=hide (fQ [1] w 3 (fun b=>w.heap.size<=b) (Nat.le_refl _) aF (HK.out▸gm 5))
  go_enter Tryz.func80,Tryz.ntmps80
  exact xZ
 by_cases h6:op=6
 ·
  subst h6
  have HK:=hide (show cW 6=[1] by decide)
  have HR:=hide (fQ [1] w 3 (fun b=>w.heap.size<=b) (Nat.le_refl _) aF (HK.out▸gm 6))
  go_enter Tryz.func80,Tryz.ntmps80
  exact xZ
 by_cases h7:op=7
 ·
  subst h7
  have HK:=hide (show cW 7=[3] by decide)
  have HR:=hide (fQ [3] w 3 (fun b=>w.heap.size<=b) (Nat.le_refl _) aF (HK.out▸gm 7))
  go_enter Tryz.func80,Tryz.ntmps80
  exact xZ
 by_cases h8:op=8
 ·
  subst h8
  have HK:=hide (show cW 8=[3] by decide)
  have HR:=hide (fQ [3] w 3 (fun b=>w.heap.size<=b) (Nat.le_refl _) aF (HK.out▸gm 8))
  go_enter Tryz.func80,Tryz.ntmps80
  exact xZ
 by_cases h9:op=9
 ·
  subst h9
  have HK:=hide (show cW 9=[3] by decide)
  have HR:=hide (fQ [3] w 3 (fun b=>w.heap.size<=b) (Nat.le_refl _) aF (HK.out▸gm 9))
  go_enter Tryz.func80,Tryz.ntmps80
  exact xZ
 by_cases h10:op=10
 ·
  subst h10
  have HK:=hide (show cW 10=[3] by decide)
  have HR:=hide (fQ [3] w 3 (fun b=>w.heap.size<=b) (Nat.le_refl _) aF (HK.out▸gm 10))
  go_enter Tryz.func80,Tryz.ntmps80
  exact xZ
 by_cases h13:op=13
 ·
  subst h13
  have HK:=hide (show cW 13=[12] by decide)
  have HR:=hide (fQ [12] w 3 (fun b=>w.heap.size<=b) (Nat.le_refl _) aF (HK.out▸gm 13))
  go_enter Tryz.func80,Tryz.ntmps80
  exact xZ
 by_cases h14:op=14
 ·
  subst h14
  have HK:=hide (show cW 14=[12,12] by decide)
  have HR:=hide (fQ [12,12] w 3 (fun b=>w.heap.size<=b) (Nat.le_refl _) aF (HK.out▸gm 14))
  go_enter Tryz.func80,Tryz.ntmps80
  exact I8
 by_cases h15:op=15
 ·
  subst h15
  have HK:=hide (show cW 15=[12,12] by decide)
  have HR:=hide (fQ [12,12] w 3 (fun b=>w.heap.size<=b) (Nat.le_refl _) aF (HK.out▸gm 15))
  go_enter Tryz.func80,Tryz.ntmps80
  exact I8
 by_cases h16:op=16
 ·
  subst h16
  have HK:=hide (show cW 16=[12,13] by decide)
  have HR:=hide (fQ [12,13] w 3 (fun b=>w.heap.size<=b) (Nat.le_refl _) aF (HK.out▸gm 16))
  go_enter Tryz.func80,Tryz.ntmps80
  exact I8
 by_cases h17:op=17
 ·
  subst h17
  have HK:=hide (show cW 17=[12,13] by decide)
  have HR:=hide (fQ [12,13] w 3 (fun b=>w.heap.size<=b) (Nat.le_refl _) aF (HK.out▸gm 17))
  go_enter Tryz.func80,Tryz.ntmps80
  exact I8
 by_cases h18:op=18
 ·
  subst h18
  have HK:=hide (show cW 18=[13] by decide)
  have HR:=hide (fQ [13] w 3 (fun b=>w.heap.size<=b) (Nat.le_refl _) aF (HK.out▸gm 18))
  go_enter Tryz.func80,Tryz.ntmps80
  exact xZ
 by_cases h20:op=20
 ·
  subst h20
  have HK:=hide (show cW 20=[13] by decide)
  have HR:=hide (fQ [13] w 3 (fun b=>w.heap.size<=b) (Nat.le_refl _) aF (HK.out▸gm 20))
  go_enter Tryz.func80,Tryz.ntmps80
  exact xZ
 have HK:=hide (show cW op=[] by unfold cW;rw[if_neg aB,if_neg aB,if_neg aB,if_neg aB,if_neg aB,if_neg aB,if_neg aB])
 go_enter Tryz.func80,Tryz.ntmps80
 go_wp2_with (fail)
 repeat (any_goals (go_quiet (fail);(try go_wp2_with (fail))))
 all_goals
  go_returns
  rw[HK.out]
  exact⟨none,0,rfl,⟨by simp,by decide,fun h=>absurd rfl h⟩,bl⟩
abbrev ahp (f:FuncId) (s:cv):Prop:=∀(kd tag cR:Int) (its keys:List cw) (S S':Nat->Prop) (q:Nat) (w:World) (Ai:Option Addr) (ci:Nat) (Ak:Option Addr) (ck:Nat),cG w S q s->Row w S' 6 Ai ci (its.map cw.D) ->
 Calls Tryz.prog f #[.pointer (some ⟨q,0,none⟩),.agg #[.int .i64 kd,.int .i64 tag,.int .i64 cR,.slice Ai its.length ci,.slice Ak keys.length ck]] w fun e w'=>e=.returned (.bool (eV s tag its))/\cE w w'
theorem E5 (s:cv):ahp 142 s:=by
 intro kd tag cR its keys S S' q w Ai ci Ak ck hs hR
 have HS:=hide hs
 have hq:=hs.1
 have gM:¬q=w.heap.size:=aB
 have HR:=hide hR
 have hlen:=hR.1
 have hcm:=hR.2.1
 simp only[aj]at hlen
 unfold maxLen at hcm
 have hkl:=DP tag
 clear hR hs
 by_cases hl:(cW tag).length=its.length
 case neg =>
  have f1:(((cW tag).length:Int) != (its.length:Int))=true:=aD
  have RR:=hide (show eV s tag its=false by unfold eV;rw[aq hl];simp)
  exact adG
 case pos =>
 have f1:(((cW tag).length:Int) != (its.length:Int))=false:=aD
 by_cases h1:tag<1
 ·
  exact WZ
 by_cases h2:23<tag
 ·
  exact WZ
 have HL:=hide hl
 clear hl
 go_enter Tryz.func142,Tryz.ntmps142
 have fg:=True.intro
 repeat (any_goals ((first | clear fg | go_quiet (fail));(try go_wp2_with (go_at_call 80;refine (xx tag _).mono ?_;rintro e w1 ⟨AK,cK,rfl,hRK,hb1⟩;(try simp only[aj]);have HRK:=hide hRK;clear hRK;(have hz1:=hb1.sz;obtain⟨eA,fb,fc,fA⟩:=hb1.lay (w.heap.size);obtain⟨ff,fE,fR,fS⟩:=hb1.lay (q))))))
 have HB1:=hide (show cE w w1 from bl)
 have hcK:=HRK.out.1
 have ahr:=HRK.out.2.1
 simp only[aj]at hcK
 unfold maxLen at ahr
 go_loopw [6] (fun v wr=>∃m:Nat,v=.int .i64 m/\m<=(cW tag).length/\Hid (∀j (hj:j<its.length) (hj2:j<(cW tag).length),j<m->eb s (cW tag)[j] its[j].v=true)/\cE w1 wr) (fun v _=>(cW tag).length - (intOf v).toNat)
 case atStart=>exact⟨0,rfl,by omega,fun j _ _ hj=>by omega,bl⟩
 case round =>
  obtain⟨m,rfl,m1,hm,Tc⟩:=hrel
  have hbw:cE w wr:=cE.trans HB1.out Tc
  have hbz:=hbw.size
  have amm:=Tc.size
  have hko:=Tc.box w.heap.size aB
  by_cases h3:m<(cW tag).length
  ·
   have hd:decide ((m:Int)<((cW tag).length:Int))=true:=ct
   have hd':decide (m<(cW tag).length)=true:=ct
   have h3':m<its.length:=by rw[<-HL.out];exact h3
   (obtain⟨b2,o2,dG,dN,dQ,dV,dW,dZ,hA2,hS2,hl2,hx2,hv2,kY,km,lh,gY,kn,lH,fq,ft,fC,fF,fG,fK⟩:=cw.at HR.out m h3';subst hA2;have xN:=hide (Dat.cC.bel hbw hv2);have hh2:=hbw.box b2 hl2;have hw2:=ak hl2 (cE.size hbw);replace fq:=(hh2 _).trans fq;replace ft:=(hh2 _).trans ft;replace fC:=(hh2 _).trans fC;replace fF:=(hh2 _).trans fF;replace fG:=(hh2 _).trans fG;replace fK:=(hh2 _).trans fK;have oz:=hide hx2;clear hh2 hv2 hx2 hS2)
   obtain⟨b3,o3,hA3,hS3,hl3,hI3,c3⟩:=adF HRK.out m h3
   subst hA3
   replace c3:=(Tc.box b3 hl3 _).trans c3
   have hne2:¬b2=wr.heap.size:=aB
   have amn:¬b3=wr.heap.size:=aB
   have amo:b3<wr.heap.size:=aB
   have HC:=hide (show eb s (cW tag)[m] its[m].v=eb s (cW tag)[m] ⟨dG,dN,dQ,dV,dW,dZ⟩ by rw[oz.out];rfl)
   obtain⟨kx,hkx⟩:∃kx,kx=(cW tag)[m]:=⟨_,rfl⟩
   rw[<-hkx]at c3 HC
   have HKX:=hide hkx
   clear hkx
   cases hn:inB s ⟨dG,dN,dQ,dV,dW,dZ⟩
   ·
    have HN:=hide hn
    have HA:=hide (Pe HL.out m h3' h3 (by rw[<-HKX.out];refine HC.out.trans ?_;unfold eb;rw[hn];rfl))
    clear hn
    exact Pf
   have HN:=hide hn
   cases hc:eb s kx ⟨dG,dN,dQ,dV,dW,dZ⟩
   ·
    have HA:=hide (Pe HL.out m h3' h3 (by rw[<-HKX.out];exact HC.out.trans hc))
    have hcc:(if kx=13 then decide (dG=13\/dG=14) else decide (dG=kx))=false:=by
     unfold eb at hc;rw[hn]at hc;simpa using hc
    clear hc hn
    by_cases DQ:kx=13
    ·
     subst DQ
     rw[if_pos rfl]at hcc
     have E9:=of_decide_eq_false hcc
     have f13:(dG != 13)=true:=aD
     have f14:(dG != 14)=true:=aD
     clear hcc E9
     exact Pf
    ·
     rw[if_neg DQ]at hcc
     have E9:=of_decide_eq_false hcc
     have f13:(kx==13)=false:=by simp[DQ]
     have f14:(dG != kx)=true:=by simp[E9]
     clear hcc E9 DQ
     exact Pf
   ·
    have HCT:=hide (HC.out.trans hc)
    have hcc:(if kx=13 then decide (dG=13\/dG=14) else decide (dG=kx))=true:=by
     unfold eb at hc;rw[hn]at hc;simpa using hc
    clear hc hn
    have HM:=hide (show ∀j (hj:j<its.length) (hj2:j<(cW tag).length),j<m+1->eb s (cW tag)[j] its[j].v=true from fun j hj hj2 hjm=>by
     by_cases e:j=m
     ·
      subst e;rw[<-HKX.out];exact HCT.out
     ·
      exact hm.out j hj hj2 aB)
    by_cases DQ:kx=13
    ·
     subst DQ
     rw[if_pos rfl]at hcc
     have E9:=of_decide_eq_true hcc
     clear hcc
     rcases E9 with rfl | rfl
     all_goals
      have fg:=True.intro
      repeat (any_goals ((first | clear fg | go_quiet (fail));(try go_wp2_with (go_at_call 45;refine (gp s ⟨_,dN,dQ,dV,dW,dZ⟩ S q _ (cG.bel bl HS.out) ⟨kY,km,lh,gY,kn,lH⟩).mono ?_;rintro e w4 ⟨rfl,hb4⟩;rw[HN.out];(have Sz:=hb4.sz;obtain⟨oZ,xe,zR,zS⟩:=hb4.lay (wr.heap.size);obtain⟨mr,yy,EJ,EK⟩:=hb4.lay (b3))))))
      exact W7
    ·
     rw[if_neg DQ]at hcc
     have E9:=of_decide_eq_true hcc
     subst E9
     have f13:(dG==13)=false:=by simp[DQ]
     clear hcc DQ
     have fg:=True.intro
     repeat (any_goals ((first | clear fg | go_quiet (fail));(try go_wp2_with (go_at_call 45;refine (gp s ⟨dG,dN,dQ,dV,dW,dZ⟩ S q _ (cG.bel bl HS.out) ⟨kY,km,lh,gY,kn,lH⟩).mono ?_;rintro e w4 ⟨rfl,hb4⟩;rw[HN.out];(have Sz:=hb4.sz;obtain⟨oZ,xe,zR,zS⟩:=hb4.lay (wr.heap.size);obtain⟨mr,yy,EJ,EK⟩:=hb4.lay (b3))))))
     exact W7
  ·
   have hd:decide ((m:Int)<((cW tag).length:Int))=false:=ct
   have hd':decide (m<(cW tag).length)=false:=ct
   have HA:=hide (ZJ (s:=s) aB aB HL.out fun k hk hk2=>hm.out k hk hk2 aB)
   go_wp2_with (fail)
   repeat (any_goals (go_quiet (fail);(try go_wp2_with (fail))))
   all_goals
    go_returns
    exact⟨by rw[HA.out];first | done | rfl,bl⟩
end Go.Proofs.YtjngkknbpfgdcaaGreatDoor
