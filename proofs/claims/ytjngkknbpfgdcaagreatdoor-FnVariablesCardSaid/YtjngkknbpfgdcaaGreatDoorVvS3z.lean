import Derived.Test.YtjngkknbpfgdcaaGreatDoorVvS3
import Derived.Test.YtjngkknbpfgdcaaGreatDoorVvS5
set_option linter.unusedVariables false
set_option linter.unusedSimpArgs false
set_option maxRecDepth 100000
set_option maxHeartbeats 8000000
namespace Go.Proofs.YtjngkknbpfgdcaaGreatDoor
open Go.RowKit Go.Proofs.Tryz
--%quiet
theorem ee (s:O) (v:cC):qx 27 s v:=by
 obtain⟨k,n,i,t,lo,hi⟩:=v
 rcases pt k with rfl | rfl | rfl | rfl | rfl | rfl | rfl | rfl | rfl | rfl | rfl | rfl | rfl | rfl | rfl | rfl | rfl | rfl | rfl | rfl | rfl | h | h
 ·
  exact QZ n i t lo hi s
 ·
  exact Q0 n i t lo hi s
 ·
  exact Q1 n i t lo hi s
 ·
  exact Q2 n i t lo hi s
 ·
  exact Q5 n i t lo hi s
 ·
  exact Q6 n i t lo hi s
 ·
  exact Q7 n i t lo hi s
 ·
  exact Q8 n i t lo hi s
 ·
  exact Q3 n i t lo hi s
 ·
  exact Q4 n i t lo hi s
 ·
  exact Nj n i t lo hi s
 ·
  exact Nn n i t lo hi s
 ·
  exact Np n i t lo hi s
 ·
  exact Nq n i t lo hi s
 ·
  exact Nk n i t lo hi s
 ·
  exact Nr n i t lo hi s
 ·
  exact Ns n i t lo hi s
 ·
  exact Nt n i t lo hi s
 ·
  exact Nl n i t lo hi s
 ·
  exact Nu n i t lo hi s
 ·
  exact Nv n i t lo hi s
 ·
  exact B5 k (Or.inl h) n i t lo hi s
 ·
  exact B5 k (Or.inr h) n i t lo hi s
theorem pe (s:O) (v:cC):Yh 28 s v:=by
 intro S q w hs hv
 have HS:=I hs
 have hq:=hs.1
 clear hs
 have HV:=I hv
 have fx:=hv.t
 unfold maxLen at fx
 clear hv
 obtain⟨k,n,i,t,lo,hi⟩:=v
 simp only at fx |-
 have ga:¬q=w.heap.size:=aF
 by_cases hk:k<=12
 ·
  have RR:=I (show gn s ⟨k,n,i,t,lo,hi⟩=eE s ⟨k,n,i,t,lo,hi⟩ by unfold gn;rw[ay hk];rfl)
  go_enter func28,ntmps28
  have eF:=True.intro
  repeat (any_goals ((first | clear eF | go_quiet (fail));(try go_wp2_with (go_at_call 27;refine (ee s ⟨k,n,i,t,lo,hi⟩ S q _ (cv.de bl HS.out) HV.out).mono ?_;rintro e w1 ⟨rfl,dE⟩))))
  all_goals
   go_returns
   exact⟨by rw[RR.out];first | done | rfl,bl⟩
 ·
  have RR:=I (show gn s ⟨k,n,i,t,lo,hi⟩=false by unfold gn;rw[ax hk];rfl)
  go_enter func28,ntmps28
  exact Yi
--%quiet
abbrev Q9 (s:O) (l:List R):Prop:=∀(S S':Nat->Prop) (q:Nat) (w:World) (A:Option Addr) (c:Nat),cv w S q s->Row w S' 6 A c (l.map R.D) ->
 Calls prog 40 #[.pointer (some ⟨q,0,none⟩),.slice A l.length c] w fun e w'=>e=.returned (.bool (fS s l))/\U w w'
theorem gY (s:O) (l:List R):Q9 s l:=by
 intro S S' q w A c hs hR
 have HS:=I hs
 have hq:=hs.1
 have ga:¬q=w.heap.size:=aF
 have HR:=I hR
 have hlen:=hR.1
 have gX:=hR.2.1
 simp only[ar]at hlen
 unfold maxLen at gX
 clear hR hs
 go_enter func40,ntmps40
 go_wp2_with (fail)
 repeat (any_goals (go_quiet (fail);(try go_wp2_with (fail))))
 go_loopw [9] (fun v wr=>∃m:Nat,v=.int .i64 m/\m<=l.length/\Hid (∀j (hj:j<l.length),j<m->gn s l[j].v=true)/\U w wr) (fun v _=>l.length - (intOf v).toNat)
 case atStart=>exact⟨0,rfl,by omega,fun j _ hj=>by omega,U.refl _⟩
 case round =>
  obtain⟨m,rfl,m1,hm,dX⟩:=hrel
  have sS:=dX.size
  by_cases h1:m<l.length
  ·
   have hd:decide ((m:Int)<(l.length:Int))=true:=aV
   (obtain⟨b1,o1,cz,cD,cE,cB,cF,cO,gb,dS,gy,gF,kP,eN,fi,eO,fT,gD,gE,fD,fE,fG,fK,fN,jy⟩:=R.el HR.out m h1 dX;subst gb)
   have iH:¬b1=wr.heap.size:=aF
   have HD:=I (show gn s l[m].v=gn s ⟨cz,cD,cE,cB,cF,cO⟩ by rw[gF.out];rfl)
   cases hn:gn s ⟨cz,cD,cE,cB,cF,cO⟩
   ·
    have HN:=I hn
    have HA:=I (QX m h1 (HD.out.trans hn))
    clear hn
    have eF:=True.intro
    repeat (any_goals ((first | clear eF | go_quiet (fail));(try go_wp2_with ((go_at_call 28;refine (pe s ⟨cz,cD,cE,cB,cF,cO⟩ S q _ (cv.de bl HS.out) ⟨eN,fi,eO,fT,gD,gE⟩).mono ?_;rintro e w1 ⟨rfl,dE⟩);rw[HN.out]))))
    all_goals
     go_returns
     exact⟨by rw[HA.out];first | done | rfl,bl⟩
   ·
    have HN:=I hn
    clear hn
    have eF:=True.intro
    repeat (any_goals ((first | clear eF | go_quiet (fail));(try go_wp2_with ((go_at_call 28;refine (pe s ⟨cz,cD,cE,cB,cF,cO⟩ S q _ (cv.de bl HS.out) ⟨eN,fi,eO,fT,gD,gE⟩).mono ?_;rintro e w1 ⟨rfl,dE⟩);rw[HN.out]))))
    exact Yj
  ·
   exact Yk
theorem zG {b o len c m:Nat} (h:m<=c) (w:World):(Instr.slice 27 (.slice (some ⟨b,o,none⟩) len c) none (some (.int .i64 (m:Int))) none).run prog w=.ok (.slice (some ⟨b,o,none⟩) m c) w:=by
 rw[run_slice_h (P:=prog) (ht:=by rw[underlying27];kernel_rfl) (h0:=by omega) (h2:=by omega)]
 simp[sliced,go_sem,sizeOf34,Addr.add]
def lN (l:List R) (x:cC):Int:=match l.findIdx? (fun y=>y.v.pn x)with | some k=>k | none=>-1
theorem BG {l:List R} {x:cC} (k:Nat) (hk:k<l.length) (h:l[k].v.pn x=true) (hb:∀j (hj:j<l.length),j<k->l[j].v.pn x=false):lN l x=k:=by
 unfold lN
 rw[(List.findIdx?_eq_some_iff_getElem (xs:=l) (p:=fun y:R=>y.v.pn x) (i:=k)).2 ⟨hk,h,fun j hj=>by rw[hb j aF hj];simp⟩]
theorem D2 {l:List R} {x:cC} (h:∀j (hj:j<l.length),l[j].v.pn x=false):lN l x = -1:=by
 unfold lN
 rw[List.findIdx?_eq_none_iff.2 fun y hy=>by
  obtain⟨k,hk,rfl⟩:=List.mem_iff_getElem.1 hy
  exact h k hk]
theorem Ra (l:List R) (x:cC):decide (0<=lN l x)=l.any fun y=>y.v.pn x:=by
 unfold lN
 cases hf:l.findIdx? (fun y=>y.v.pn x)with
 | none =>
  rw[List.findIdx?_eq_none_iff]at hf
  rw[List.any_eq_false.2 fun y hy=>by rw[hf y hy];simp]
  rfl
 | some k =>
  obtain⟨h1,h2,-⟩:=List.findIdx?_eq_some_iff_getElem.1 hf
  rw[List.any_eq_true.2 ⟨l[k],List.getElem_mem h1,h2⟩]
  simp
theorem xO (l:List R) (x:cC) (S:Nat->Prop) (w:World) (A:Option Addr) (c:Nat) (hR:Row w S 6 A c (l.map R.D)) :
  Calls prog 85 #[.slice A l.length c,.agg #[.int .i64 x.k,.int .i64 x.n,.int .i64 x.i,.string x.t,.int .i64 x.lo,.int .i64 x.hi]] w fun e w'=>e=.returned (.int .i64 (lN l x))/\U w w':=by
 have HR:=I hR
 have hlen:=hR.1
 have gX:=hR.2.1
 simp only[ar]at hlen
 unfold maxLen at gX
 clear hR
 obtain⟨y0,y1,y2,y3,y4,y5⟩:=x
 simp only
 go_enter func85,ntmps85
 go_wp2_with (fail)
 repeat (any_goals (go_quiet (fail);(try go_wp2_with (fail))))
 go_loopw [8] (fun v wr=>∃m:Nat,v=.int .i64 m/\m<=l.length/\Hid (∀j (hj:j<l.length),j<m->l[j].v.pn ⟨y0,y1,y2,y3,y4,y5⟩=false)/\U (w.alloc (.cells #[.int .i64 y0,.int .i64 y1,.int .i64 y2,.string y3,.int .i64 y4,.int .i64 y5] 34)) wr) (fun v _=>l.length - (intOf v).toNat)
 case atStart=>exact⟨0,rfl,by omega,fun j _ hj=>by omega,bl⟩
 case round =>
  obtain⟨m,rfl,m1,hm,jl⟩:=hrel
  have dX:U w wr:=U.trans (U.alloc (U.refl w) _) jl
  have hz:=jl.size
  simp only[World.size_alloc]at hz
  have Xe:=jl.box w.heap.size aJ
  by_cases h1:m<l.length
  ·
   have hd:decide ((m:Int)<(l.length:Int))=true:=aV
   (obtain⟨b1,o1,cz,cD,cE,cB,cF,cO,gb,dS,gy,gF,kP,eN,fi,eO,fT,gD,gE,fD,fE,fG,fK,fN,jy⟩:=R.el HR.out m h1 dX;subst gb)
   have HQ:=I (show l[m].v.pn ⟨y0,y1,y2,y3,y4,y5⟩=cC.pn ⟨y0,y1,y2,y3,y4,y5⟩ ⟨cz,cD,cE,cB,cF,cO⟩ by rw[cC.Hg,gF.out];rfl)
   cases hn:cC.pn ⟨y0,y1,y2,y3,y4,y5⟩ ⟨cz,cD,cE,cB,cF,cO⟩
   ·
    have HQ2:=I (HQ.out.trans hn)
    have sH:=fun w=>(nu y0 y1 y2 y3 y4 y5 cz cD cE cB cF cO w).trans (by rw[hn])
    clear hn
    go_wp2_with (fail)
    repeat (any_goals (go_quiet (fail);(try go_wp2_with (fail))))
    go_roundw
    case rel=>exact⟨m+1,by go_num,by omega,fun j hj uy=>by
     by_cases e:j=m
     ·
      subst e;exact HQ2.out
     ·
      exact hm.out j hj aF,bl⟩
    case measure=>simp[intOf];omega
   ·
    have HA:=I (BG m h1 (HQ.out.trans hn) fun j hj uy=>hm.out j hj uy)
    have sH:=fun w=>(nu y0 y1 y2 y3 y4 y5 cz cD cE cB cF cO w).trans (by rw[hn])
    clear hn
    exact Qt
  ·
   have hd:decide ((m:Int)<(l.length:Int))=false:=aV
   have HA:=I (D2 (l:=l) fun k hk=>hm.out k hk aF)
   go_wp2_with (fail)
   repeat (any_goals (go_quiet (fail);(try go_wp2_with (fail))))
   all_goals
    go_returns
    exact⟨by rw[HA.out];first | done | rfl,bl⟩
theorem Dg (l:List R) (x:cC) (S:Nat->Prop) (w:World) (A:Option Addr) (c:Nat) (hR:Row w S 6 A c (l.map R.D)) :
  Calls prog 131 #[.slice A l.length c,.agg #[.int .i64 x.k,.int .i64 x.n,.int .i64 x.i,.string x.t,.int .i64 x.lo,.int .i64 x.hi]] w fun e w'=>e=.returned (.bool (l.any fun y=>y.v.pn x))/\U w w':=by
 have HR:=I hR
 have hlen:=hR.1
 have gX:=hR.2.1
 simp only[ar]at hlen
 unfold maxLen at gX
 clear hR
 have HI:=I (Ra l x)
 obtain⟨y0,y1,y2,y3,y4,y5⟩:=x
 simp only
 go_enter func131,ntmps131
 have eF:=True.intro
 repeat (any_goals ((first | clear eF | go_quiet (fail));(try go_wp2_with (go_at_call 85;refine (xO l ⟨y0,y1,y2,y3,y4,y5⟩ S _ _ _ (Row.de bl HR.out)).mono ?_;rintro e w1 ⟨rfl,dE⟩))))
 all_goals
  go_returns
  exact⟨by rw[<-HI.out];first | done | rfl,bl⟩
theorem Row.taken {w:World} {S:Nat->Prop} {k c:Nat} {A:Option Addr} {xs:List (List Y)} (h:Row w S k A c xs) (n:Nat):Row w S k A c (xs.take n):=by
 obtain⟨h1,h2,h3⟩:=h
 refine⟨by rw[List.length_take];omega,h2,fun iP=>?_⟩
 obtain⟨b,o,hA,hS,hb,hr⟩:=h3 (fun e=>iP (by rw[e];simp))
 refine⟨b,o,hA,hS,hb,Y.fz.mk fun i hi=>?_⟩
 have hi2:i<xs.length:=by simp at hi;omega
 rw[List.getElem_take]
 exact hr.get i hi2
theorem pf (l:List R) (S:Nat->Prop) (w:World) (A:Option Addr) (c:Nat) (hR:Row w S 6 A c (l.map R.D)) :
  Calls prog 96 #[.slice A l.length c] w fun e w'=>e=.returned (.bool (mv l))/\U w w':=by
 have HR:=I hR
 have hlen:=hR.1
 have gX:=hR.2.1
 simp only[ar]at hlen
 unfold maxLen at gX
 clear hR
 go_enter func96,ntmps96
 go_wp2_with (fail)
 repeat (any_goals (go_quiet (fail);(try go_wp2_with (fail))))
 go_loopw [6] (fun v wr=>∃m:Nat,v=.int .i64 m/\m<=l.length/\Hid (∀i (hi:i<l.length) k (hk:k<i),i<m->(l[k]' aF).v.pn l[i].v=false)/\U w wr) (fun v _=>l.length - (intOf v).toNat)
 case atStart=>exact⟨0,rfl,by omega,fun j _ _ _ hj=>by omega,U.refl _⟩
 case round =>
  obtain⟨m,rfl,m1,hm,dX⟩:=hrel
  by_cases h1:m<l.length
  ·
   have hd:decide ((m:Int)<(l.length:Int))=true:=aV
   (obtain⟨b1,o1,cz,cD,cE,cB,cF,cO,gb,dS,gy,gF,kP,eN,fi,eO,fT,gD,gE,fD,fE,fG,fK,fN,jy⟩:=R.el HR.out m h1 dX;subst gb)
   obtain⟨lt,jP⟩:∃lt,lt=l.take m:=⟨_,rfl⟩
   have oj:lt.length=m:=by rw[jP,List.length_take];omega
   have HRT:=I (show Row w S 6 (some ⟨b1,o1,none⟩) c (lt.map R.D) by rw[jP,List.map_take];exact Row.taken HR.out m)
   have HC:=I (fun (wx:World) (hwx:Row wx S 6 (some ⟨b1,o1,none⟩) c (lt.map R.D))=>by have:=Dg lt ⟨cz,cD,cE,cB,cF,cO⟩ S wx _ _ hwx;rw[oj]at this;exact this)
   have HX:=I (show (⟨cz,cD,cE,cB,cF,cO⟩:cC)=l[m].v by rw[gF.out];rfl)
   have Yo:=I jP
   clear jP oj
   cases hn:(lt.any fun y=>y.v.pn ⟨cz,cD,cE,cB,cF,cO⟩)
   ·
    have HN:=I hn
    clear hn
    have hsl:=fun wx=>zG (b:=b1) (o:=o1) (len:=l.length) (c:=c) (m:=m) aF wx
    go_wp2_with (fail)
    repeat (any_goals (go_quiet (fail);(try go_wp2_with (fail))))
    go_region_held3 (fun w'=>w'.cell? ⟨b1,o1+m*6,none⟩=some (.int .i64 cz)/\w'.cell? ⟨b1,o1+m*6+1,none⟩=some (.int .i64 cD)/\w'.cell? ⟨b1,o1+m*6+2,none⟩=some (.int .i64 cE)/\w'.cell? ⟨b1,o1+m*6+3,none⟩=some (.string cB)/\w'.cell? ⟨b1,o1+m*6+4,none⟩=some (.int .i64 cF)/\w'.cell? ⟨b1,o1+m*6+5,none⟩=some (.int .i64 cO)) (go_keep) (first | (go_at_call 131;refine (HC.out _ (Row.de bl HRT.out)).mono ?_;rintro e w1 ⟨rfl,dE⟩;rw[HN.out];have Dh:=dE.box b1 aH;simp only[World.cell?_drew]at Dh))
    go_wp2_with (fail)
    repeat (any_goals (go_quiet (fail);(try go_wp2_with (fail))))
    go_roundw
    case rel=>exact⟨m+1,by go_num,by omega,fun i hi k hk him=>by
     by_cases e:i=m
     ·
      subst e
      have:=HN.out
      rw[Yo.out,List.any_eq_false]at this
      have h:=this (l[k]' aF) (List.mem_iff_getElem.2 ⟨k,by simp;omega,by simp⟩)
      rw[HX.out]at h
      simpa using h
     ·
      exact hm.out i hi k hk aF,bl⟩
    case measure=>simp[intOf];omega
   ·
    have HN:=I hn
    have HA:=I (show mv l=false by
     have h2:=hn
     rw[Yo.out,List.any_eq_true]at h2
     obtain⟨y,hy,he⟩:=h2
     obtain⟨k,hk,rfl⟩:=List.mem_iff_getElem.1 hy
     rw[List.getElem_take,HX.out]at he
     exact Fj m k h1 (by simp at hk;omega) he)
    clear hn
    have hsl:=fun wx=>zG (b:=b1) (o:=o1) (len:=l.length) (c:=c) (m:=m) aF wx
    go_wp2_with (fail)
    repeat (any_goals (go_quiet (fail);(try go_wp2_with (fail))))
    go_region_held3 (fun w'=>w'.cell? ⟨b1,o1+m*6,none⟩=some (.int .i64 cz)/\w'.cell? ⟨b1,o1+m*6+1,none⟩=some (.int .i64 cD)/\w'.cell? ⟨b1,o1+m*6+2,none⟩=some (.int .i64 cE)/\w'.cell? ⟨b1,o1+m*6+3,none⟩=some (.string cB)/\w'.cell? ⟨b1,o1+m*6+4,none⟩=some (.int .i64 cF)/\w'.cell? ⟨b1,o1+m*6+5,none⟩=some (.int .i64 cO)) (go_keep) (first | (go_at_call 131;refine (HC.out _ (Row.de bl HRT.out)).mono ?_;rintro e w1 ⟨rfl,dE⟩;rw[HN.out];have Dh:=dE.box b1 aH;simp only[World.cell?_drew]at Dh))
    go_wp2_with (fail)
    repeat (any_goals (go_quiet (fail);(try go_wp2_with (fail))))
    all_goals
     go_returns
     exact⟨by rw[HA.out];first | done | rfl,bl⟩
  ·
   exact Yl
--%quiet
abbrev jL (s:O) (tag:Int) (its:List R):Prop:=∀(S S':Nat->Prop) (q:Nat) (w:World) (Ai:Option Addr) (ci:Nat),cv w S q s->Row w S' 6 Ai ci (its.map R.D) ->
 Calls prog 97 #[.pointer (some ⟨q,0,none⟩),.int .i64 tag,.slice Ai its.length ci] w fun e w'=>e=.returned (.bool (ez s tag its))/\U w w'
theorem gz {s:O} {op:Int} {its:List R} (h:(cM op).length≠its.length):ez s op its=false:=by unfold ez;rw[ax h];simp
theorem Rb {s:O} {op:Int} {its:List R} (h:op<1\/23<op):ez s op its=false:=by unfold ez;rw[ax (show ¬(1<=op/\op<=23) by omega)];simp
theorem Hh (s:O) (tag:Int) (its:List R) (h:tag<1\/23<tag):jL s tag its:=by
 intro S S' q w Ai ci hs hR
 have HS:=I hs
 have hq:=hs.1
 have ga:¬q=w.heap.size:=aF
 have HR:=I hR
 have hlen:=hR.1
 have gX:=hR.2.1
 simp only[ar,aD,aE,Nat.reduceAdd]at hlen
 unfold maxLen at gX
 clear hR hs
 have RR:=I (Rb (s:=s) (its:=its) h)
 rcases h with h | h
 all_goals
  go_enter func97,ntmps97
  exact lj
end Go.Proofs.YtjngkknbpfgdcaaGreatDoor
