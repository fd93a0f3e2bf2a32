import Derived.Test.YtjngkknbpfgdcaaGreatDoorVvS2a
import Derived.Test.YtjngkknbpfgdcaaGreatDoorVvS2b
set_option linter.unusedVariables false
set_option linter.unusedSimpArgs false
set_option maxRecDepth 100000
set_option maxHeartbeats 8000000
namespace Go.Proofs.YtjngkknbpfgdcaaGreatDoor
open Go.RowKit Go.Proofs.Tryz
--%quiet
theorem gq (s:O) (v:cC):qx 45 s v:=by
 obtain⟨k,n,i,t,lo,hi⟩:=v
 rcases pt k with rfl | rfl | rfl | rfl | rfl | rfl | rfl | rfl | rfl | rfl | rfl | rfl | rfl | rfl | rfl | rfl | rfl | rfl | rfl | rfl | rfl | h | h
 ·
  exact QN n i t lo hi s
 ·
  exact QO n i t lo hi s
 ·
  exact QP n i t lo hi s
 ·
  exact QQ n i t lo hi s
 ·
  exact QT n i t lo hi s
 ·
  exact QU n i t lo hi s
 ·
  exact QV n i t lo hi s
 ·
  exact QW n i t lo hi s
 ·
  exact QR n i t lo hi s
 ·
  exact QS n i t lo hi s
 ·
  exact MX n i t lo hi s
 ·
  exact Na n i t lo hi s
 ·
  exact Nb n i t lo hi s
 ·
  exact Nc n i t lo hi s
 ·
  exact MY n i t lo hi s
 ·
  exact Nd n i t lo hi s
 ·
  exact Nf n i t lo hi s
 ·
  exact Ng n i t lo hi s
 ·
  exact MZ n i t lo hi s
 ·
  exact Nh n i t lo hi s
 ·
  exact Ni n i t lo hi s
 ·
  exact BZ k (Or.inl h) n i t lo hi s
 ·
  exact BZ k (Or.inr h) n i t lo hi s
theorem kK (s:O) (v:cC):Yh 31 s v:=by
 intro S q w hs hv
 have HS:=I hs
 have hq:=hs.1
 clear hs
 have HV:=I hv
 have fx:=hv.t
 unfold maxLen at fx
 clear hv
 obtain⟨k,n,i,t,lo,hi⟩:=v
 simp only at fx |-
 have ga:¬q=w.heap.size:=aF
 by_cases hk:k<=12
 ·
  have RR:=I (show gn s ⟨k,n,i,t,lo,hi⟩=eE s ⟨k,n,i,t,lo,hi⟩ by unfold gn;rw[ay hk];rfl)
  go_enter func31,ntmps31
  have eF:=True.intro
  repeat (any_goals ((first | clear eF | go_quiet (fail));(try go_wp2_with (go_at_call 45;refine (gq s ⟨k,n,i,t,lo,hi⟩ S q _ (cv.de bl HS.out) HV.out).mono ?_;rintro e w1 ⟨rfl,dE⟩))))
  all_goals
   go_returns
   exact⟨by rw[RR.out];first | done | rfl,bl⟩
 ·
  have RR:=I (show gn s ⟨k,n,i,t,lo,hi⟩=false by unfold gn;rw[ax hk];rfl)
  go_enter func31,ntmps31
  exact Yi
--%quiet
theorem QX {s:O} {l:List R} (k:Nat) (hk:k<l.length) (h:gn s l[k].v=false):fS s l=false:=by
 unfold fS
 exact List.all_eq_false.2 ⟨l[k],List.getElem_mem hk,by rw[h];simp⟩
theorem abx {s:O} {l:List R} (h:∀k (hk:k<l.length),gn s l[k].v=true):fS s l=true:=by
 unfold fS
 refine List.all_eq_true.2 fun x hx=>?_
 obtain⟨k,hk,rfl⟩:=List.mem_iff_getElem.1 hx
 exact h k hk
theorem Hf (l:List R) (k:Nat) (h:k<l.length) (d:R):l.getD k d=l[k]:=by simp[List.getD,h]
theorem Fj {l:List R} (i k:Nat) (hi:i<l.length) (hk:k<i) (h:(l[k]' aF).v.pn l[i].v=true):mv l=false:=by
 unfold mv
 refine List.all_eq_false.2 ⟨i,List.mem_range.2 hi,?_⟩
 rw[Hf l i hi]
 have:((l.take i).any fun y=>y.v.pn l[i].v)=true:=List.any_eq_true.2 ⟨l[k]' aF,List.mem_iff_getElem.2 ⟨k,by simp;omega,by simp⟩,h⟩
 rw[this]
 simp
theorem Kx {l:List R} (h:∀i (hi:i<l.length) k (hk:k<i),(l[k]' aF).v.pn l[i].v=false):mv l=true:=by
 unfold mv
 refine List.all_eq_true.2 fun i hi=>?_
 have AF:=List.mem_range.1 hi
 rw[Hf l i AF]
 have:((l.take i).any fun y=>y.v.pn l[i].v)=false:=List.any_eq_false.2 fun y hy=>by
  obtain⟨k,hk,rfl⟩:=List.mem_iff_getElem.1 hy
  rw[List.getElem_take]
  rw[h i AF k (by simp at hk;omega)]
  simp
 rw[this]
 rfl
theorem cC.Hg (a b:cC):a.pn b=b.pn a:=by
 unfold cC.pn
 simp only[eq_comm]
theorem nu (k n i:Int) (t:cx) (lo hi k' n' i':Int) (t':cx) (lo' AF:Int) (w:World) :
  (binOp .eql 34 (.agg #[.int .i64 k,.int .i64 n,.int .i64 i,.string t,.int .i64 lo,.int .i64 hi]) (.agg #[.int .i64 k',.int .i64 n',.int .i64 i',.string t',.int .i64 lo',.int .i64 AF])).run prog w=.ok (.bool (cC.pn ⟨k,n,i,t,lo,hi⟩ ⟨k',n',i',t',lo',AF⟩)) w:=by
 have hS:prog.underlying 34=some (.struct (prog.fieldsOf 34)):=aG
 have hp:prog.stoodInHeld 34=false:=aG
 unfold cC.pn
 rw[run_eql_struct,show (10000:Nat)=9999+1 from rfl,run_equalIn_agg w 9999 34 _ _ hS hp]
 simp only[Program.fieldsOf,underlying34]
 go_simp
 by_cases h1:k=k' <;> by_cases h2:n=n' <;> by_cases h3:i=i' <;> by_cases h4:t=t' <;> by_cases h5:lo=lo' <;> by_cases h6:hi=AF <;> simp_all [Pd]
abbrev QY (s:O) (l:List R):Prop:=∀(S S':Nat->Prop) (q:Nat) (w:World) (A:Option Addr) (c:Nat),cv w S q s->Row w S' 6 A c (l.map R.D) ->
 Calls prog 106 #[.pointer (some ⟨q,0,none⟩),.slice A l.length c] w fun e w'=>e=.returned (.bool (fS s l))/\U w w'
theorem kj (s:O) (l:List R):QY s l:=by
 intro S S' q w A c hs hR
 have HS:=I hs
 have hq:=hs.1
 have ga:¬q=w.heap.size:=aF
 have HR:=I hR
 have hlen:=hR.1
 have gX:=hR.2.1
 simp only[ar]at hlen
 unfold maxLen at gX
 clear hR hs
 go_enter func106,ntmps106
 go_wp2_with (fail)
 repeat (any_goals (go_quiet (fail);(try go_wp2_with (fail))))
 go_loopw [5] (fun v wr=>∃m:Nat,v=.int .i64 m/\m<=l.length/\Hid (∀j (hj:j<l.length),j<m->gn s l[j].v=true)/\U w wr) (fun v _=>l.length - (intOf v).toNat)
 case atStart=>exact⟨0,rfl,by omega,fun j _ hj=>by omega,U.refl _⟩
 case round =>
  obtain⟨m,rfl,m1,hm,dX⟩:=hrel
  have sS:=dX.size
  by_cases h1:m<l.length
  ·
   have hd:decide ((m:Int)<(l.length:Int))=true:=aV
   (obtain⟨b1,o1,cz,cD,cE,cB,cF,cO,gb,dS,gy,gF,kP,eN,fi,eO,fT,gD,gE,fD,fE,fG,fK,fN,jy⟩:=R.el HR.out m h1 dX;subst gb)
   have iH:¬b1=wr.heap.size:=aF
   have HD:=I (show gn s l[m].v=gn s ⟨cz,cD,cE,cB,cF,cO⟩ by rw[gF.out];rfl)
   cases hn:gn s ⟨cz,cD,cE,cB,cF,cO⟩
   ·
    have HN:=I hn
    have HA:=I (QX m h1 (HD.out.trans hn))
    clear hn
    have eF:=True.intro
    repeat (any_goals ((first | clear eF | go_quiet (fail));(try go_wp2_with ((go_at_call 31;refine (kK s ⟨cz,cD,cE,cB,cF,cO⟩ S q _ (cv.de bl HS.out) ⟨eN,fi,eO,fT,gD,gE⟩).mono ?_;rintro e w1 ⟨rfl,dE⟩);rw[HN.out]))))
    all_goals
     go_returns
     exact⟨by rw[HA.out];first | done | rfl,bl⟩
   ·
    have HN:=I hn
    clear hn
    have eF:=True.intro
    repeat (any_goals ((first | clear eF | go_quiet (fail));(try go_wp2_with ((go_at_call 31;refine (kK s ⟨cz,cD,cE,cB,cF,cO⟩ S q _ (cv.de bl HS.out) ⟨eN,fi,eO,fT,gD,gE⟩).mono ?_;rintro e w1 ⟨rfl,dE⟩);rw[HN.out]))))
    exact Yj
  ·
   exact Yk
theorem yv (l:List R) (S:Nat->Prop) (w:World) (A:Option Addr) (c:Nat) (hR:Row w S 6 A c (l.map R.D)) :
  Calls prog 141 #[.slice A l.length c] w fun e w'=>e=.returned (.bool (mv l))/\U w w':=by
 have HR:=I hR
 have hlen:=hR.1
 have gX:=hR.2.1
 simp only[ar]at hlen
 unfold maxLen at gX
 clear hR
 have HE:=@nu
 go_enter func141,ntmps141
 go_wp2_with (fail)
 repeat (any_goals (go_quiet (fail);(try go_wp2_with (fail))))
 go_loopw [3] (fun v wr=>∃m:Nat,v=.int .i64 m/\m<=l.length/\Hid (∀i (hi:i<l.length) k (hk:k<i),i<m->(l[k]' aF).v.pn l[i].v=false)/\U w wr) (fun v _=>l.length - (intOf v).toNat)
 case atStart=>exact⟨0,rfl,by omega,fun j _ _ _ hj=>by omega,U.refl _⟩
 case round =>
  obtain⟨m,rfl,m1,hm,dX⟩:=hrel
  by_cases h1:m<l.length
  ·
   have hd:decide ((m:Int)<(l.length:Int))=true:=aV
   go_wp2_with (fail)
   repeat (any_goals (go_quiet (fail);(try go_wp2_with (fail))))
   have HB:=I dX
   go_loopw [4] (fun v wr2=>∃k:Nat,v=.int .i64 k/\k<=m/\Hid (∀j (hj:j<k) (uy:j<l.length),l[j].v.pn l[m].v=false)/\U w wr2) (fun v _=>m - (intOf v).toNat)
   case atStart=>exact⟨0,rfl,by omega,fun j hj _=>by omega,bl⟩
   case round =>
    obtain⟨k,rfl,k1,hk,tU⟩:=hrel
    by_cases h2:k<m
    ·
     have GC:decide ((k:Int)<(m:Int))=true:=by simp[h2]
     have h2':k<l.length:=aF
     (obtain⟨b1,o1,cz,cD,cE,cB,cF,cO,gb,dS,gy,gF,kP,eN,fi,eO,fT,gD,gE,fD,fE,fG,fK,fN,jy⟩:=R.el HR.out m h1 tU;subst gb)
     (obtain⟨b2,o2,da,dw,dx,dy,dz,dA,mO,mu,nn,od,vz,kv,kz,kA,iw,kD,kE,jS,jT,jU,jV,jW,j1⟩:=R.el HR.out k h2' tU;injection Option.some.inj mO with qb2 tm _;subst qb2 tm)
     have HQ:=I (show l[k].v.pn l[m].v=cC.pn ⟨cz,cD,cE,cB,cF,cO⟩ ⟨da,dw,dx,dy,dz,dA⟩ by rw[cC.Hg,gF.out,od.out];rfl)
     cases hn:cC.pn ⟨cz,cD,cE,cB,cF,cO⟩ ⟨da,dw,dx,dy,dz,dA⟩
     ·
      have HQ2:=I (HQ.out.trans hn)
      have sH:=fun w=>(nu cz cD cE cB cF cO da dw dx dy dz dA w).trans (by rw[hn])
      clear HE hn
      go_wp2_with (fail)
      repeat (any_goals (go_quiet (fail);(try go_wp2_with (fail))))
      go_roundw
      case rel=>exact⟨k+1,by go_num,by omega,fun j hj uy=>by
       by_cases e:j=k
       ·
        subst e;exact HQ2.out
       ·
        exact hk.out j aF uy,bl⟩
      case measure=>simp[intOf];omega
     ·
      have HA:=I (Fj m k h1 h2 (HQ.out.trans hn))
      have sH:=fun w=>(nu cz cD cE cB cF cO da dw dx dy dz dA w).trans (by rw[hn])
      clear HE hn
      exact Qt
    ·
     have GC:decide ((k:Int)<(m:Int))=false:=by simp[h2]
     go_wp2_with (fail)
     repeat (any_goals (go_quiet (fail);(try go_wp2_with (fail))))
     go_roundw
     case rel=>exact⟨m+1,by go_num,by omega,fun i hi j hj him=>by
      by_cases e:i=m
      ·
       subst e;exact hk.out j aF aF
      ·
       exact hm.out i hi j hj aF,bl⟩
     case measure=>simp[intOf];omega
  ·
   exact Yl
--%quiet
theorem GA (kd tag J:Int) (n:Nat) (keys:List R) (k0 n0 i0:Int) (t0:cx) (qA jh:Int) (S:Nat->Prop) (w:World) (Ai Ak:Option Addr) (ci ck:Nat) (hR:Row w S 6 Ak ck (keys.map R.D)) (fx:t0.size<=maxLen) :
  Calls prog 79 #[.agg #[.int .i64 kd,.int .i64 tag,.int .i64 J,.slice Ai n ci,.slice Ak keys.length ck],.agg #[.int .i64 k0,.int .i64 n0,.int .i64 i0,.string t0,.int .i64 qA,.int .i64 jh]] w fun e w'=>(∃y:Int,e=.returned (.int .i64 y))/\U w w':=by
 have HR:=I hR
 have hlen:=hR.1
 have gX:=hR.2.1
 simp only[ar]at hlen
 unfold maxLen at gX fx
 clear hR
 go_enter func79,ntmps79
 go_wp2_with (fail)
 repeat (any_goals (go_quiet (fail);(try go_wp2_with (fail))))
 go_loopw [5] (fun v wr=>∃m:Nat,v=.int .i64 m/\m<=keys.length/\U ((w.alloc (.cells #[.int .i64 kd,.int .i64 tag,.int .i64 J,.slice Ai n ci,.slice Ak keys.length ck] 81)).alloc (.cells #[.int .i64 k0,.int .i64 n0,.int .i64 i0,.string t0,.int .i64 qA,.int .i64 jh] 34)) wr) (fun v _=>keys.length - (intOf v).toNat)
 case atStart=>exact⟨0,rfl,by omega,U.refl _⟩
 case round =>
  obtain⟨m,rfl,m1,Gz⟩:=hrel
  have dX:U w wr:=bl
  have WN:=Gz.size
  simp only[World.size_alloc]at WN
  have afM:=Gz.box w.heap.size aH
  have afN:=Gz.box (w.heap.size+1) aJ
  have XW:w.heap.size<wr.heap.size:=aF
  have dS:w.heap.size+1<wr.heap.size:=aF
  by_cases h1:m<keys.length
  ·
   have hd:decide ((m:Int)<(keys.length:Int))=true:=aV
   (obtain⟨b1,o1,cz,cD,cE,cB,cF,cO,gb,dS,gy,gF,kP,eN,fi,eO,fT,gD,gE,fD,fE,fG,fK,fN,jy⟩:=R.el HR.out m h1 dX;subst gb)
   have iH:¬b1=wr.heap.size:=aF
   have hQ:=I (fun W=>nu cz cD cE cB cF cO k0 n0 i0 t0 qA jh W)
   have hQ2:=hQ.out
   cases hn:cC.pn ⟨cz,cD,cE,cB,cF,cO⟩ ⟨k0,n0,i0,t0,qA,jh⟩
   ·
    rw[hn]at hQ2
    clear hn
    go_wp2_with (fail)
    repeat (any_goals (go_quiet (fail);(try go_wp2_with (fail))))
    go_roundw
    case rel=>exact⟨m+1,by go_num,by omega,bl⟩
    case measure=>simp[intOf];omega
   ·
    rw[hn]at hQ2
    clear hn
    exact Ym
  ·
   have hd:decide ((m:Int)<(keys.length:Int))=false:=aV
   exact Ym
--%quiet
theorem Wb (k n i:Int) (t:cx) (lo hi k' n' i':Int) (t':cx) (lo' AF:Int) (w:World) :
  (binOp .neq 34 (.agg #[.int .i64 k,.int .i64 n,.int .i64 i,.string t,.int .i64 lo,.int .i64 hi]) (.agg #[.int .i64 k',.int .i64 n',.int .i64 i',.string t',.int .i64 lo',.int .i64 AF])).run prog w=.ok (.bool (!(cC.pn ⟨k,n,i,t,lo,hi⟩ ⟨k',n',i',t',lo',AF⟩))) w:=by
 have h:=nu k n i t lo hi k' n' i' t' lo' AF w
 rw[run_eql_struct]at h
 rw[run_neq_struct]
 generalize Sem.run prog (Op.equalIn 10000 _ _ _) w=r at h |-
 cases r <;> simp_all [Result.andThen]
end Go.Proofs.YtjngkknbpfgdcaaGreatDoor
