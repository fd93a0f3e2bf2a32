import Derived.Test.YtjngkknbpfgdcaaGreatDoorPr
import Derived.Test.YtjngkknbpfgdcaaGreatDoorPS2a
import Derived.Test.YtjngkknbpfgdcaaGreatDoorPS2b
import Derived.Test.YtjngkknbpfgdcaaGreatDoorPS2c
import Derived.Laws.StructEq
set_option linter.unusedVariables false
set_option linter.unusedSimpArgs false
set_option maxRecDepth 100000
set_option maxHeartbeats 8000000
namespace Go.Proofs.YtjngkknbpfgdcaaGreatDoor
open Go.RowKit
--%quiet
theorem gp (s:cv) (v:cV):pU 45 s v:=by
 obtain⟨k,n,i,t,lo,hi⟩:=v
 rcases rE k with rfl | rfl | rfl | rfl | rfl | rfl | rfl | rfl | rfl | rfl | rfl | rfl | rfl | rfl | rfl | rfl | rfl | rfl | rfl | rfl | rfl | h | h
 ·
  exact OM n i t lo hi s
 ·
  exact OO n i t lo hi s
 ·
  exact OP n i t lo hi s
 ·
  exact OQ n i t lo hi s
 ·
  exact OU n i t lo hi s
 ·
  exact OV n i t lo hi s
 ·
  exact OW n i t lo hi s
 ·
  exact OX n i t lo hi s
 ·
  exact OS n i t lo hi s
 ·
  exact OT n i t lo hi s
 ·
  exact Kn n i t lo hi s
 ·
  exact Kq n i t lo hi s
 ·
  exact Kr n i t lo hi s
 ·
  exact Ks n i t lo hi s
 ·
  exact Ko n i t lo hi s
 ·
  exact Kt n i t lo hi s
 ·
  exact Ku n i t lo hi s
 ·
  exact Kv n i t lo hi s
 ·
  exact Kp n i t lo hi s
 ·
  exact Kw n i t lo hi s
 ·
  exact Kx n i t lo hi s
 ·
  exact Ax k (Or.inl h) n i t lo hi s
 ·
  exact Ax k (Or.inr h) n i t lo hi s
theorem lG (s:cv) (v:cV):WS 31 s v:=by
 intro S q w hs hv
 have HS:=hide hs
 have hq:=hs.1
 clear hs
 have HV:=hide hv
 have hts:=hv.t
 unfold maxLen at hts
 clear hv
 obtain⟨k,n,i,t,lo,hi⟩:=v
 simp only at hts |-
 have gM:¬q=w.heap.size:=aB
 by_cases hk:k<=12
 ·
  have RR:=hide (show iX s ⟨k,n,i,t,lo,hi⟩=inB s ⟨k,n,i,t,lo,hi⟩ by unfold iX;rw[ar hk];rfl)
  go_enter Tryz.func31,Tryz.ntmps31
  have fg:=True.intro
  repeat (any_goals ((first | clear fg | go_quiet (fail));(try go_wp2_with (go_at_call 45;refine (gp s ⟨k,n,i,t,lo,hi⟩ S q _ (cG.bel bl HS.out) HV.out).mono ?_;rintro e w1 ⟨rfl,hb1⟩))))
  all_goals
   go_returns
   exact⟨by rw[RR.out];first | done | rfl,bl⟩
 ·
  have RR:=hide (show iX s ⟨k,n,i,t,lo,hi⟩=false by unfold iX;rw[aq hk];rfl)
  go_enter Tryz.func31,Tryz.ntmps31
  exact WT
--%quiet
theorem OY {s:cv} {l:List cw} (k:Nat) (hk:k<l.length) (h:iX s l[k].v=false):allB s l=false:=by
 unfold allB
 exact List.all_eq_false.2 ⟨l[k],List.getElem_mem hk,by rw[h];simp⟩
theorem ZG {s:cv} {l:List cw} (h:∀k (hk:k<l.length),iX s l[k].v=true):allB s l=true:=by
 unfold allB
 refine List.all_eq_true.2 fun x hx=>?_
 obtain⟨k,hk,rfl⟩:=List.mem_iff_getElem.1 hx
 exact h k hk
theorem EY (l:List cw) (k:Nat) (h:k<l.length) (d:cw):l.getD k d=l[k]:=by simp[List.getD,h]
theorem I4 {l:List cw} (i k:Nat) (hi:i<l.length) (hk:k<i) (h:(l[k]' aB).v.tL l[i].v=true):oc l=false:=by
 unfold oc
 refine List.all_eq_false.2 ⟨i,List.mem_range.2 hi,?_⟩
 rw[EY l i hi]
 have:((l.take i).any fun y=>y.v.tL l[i].v)=true:=List.any_eq_true.2 ⟨l[k]' aB,List.mem_iff_getElem.2 ⟨k,by simp;omega,by simp⟩,h⟩
 rw[this]
 simp
theorem Ta {l:List cw} (h:∀i (hi:i<l.length) k (hk:k<i),(l[k]' aB).v.tL l[i].v=false):oc l=true:=by
 unfold oc
 refine List.all_eq_true.2 fun i hi=>?_
 have hi':=List.mem_range.1 hi
 rw[EY l i hi']
 have:((l.take i).any fun y=>y.v.tL l[i].v)=false:=List.any_eq_false.2 fun y hy=>by
  obtain⟨k,hk,rfl⟩:=List.mem_iff_getElem.1 hy
  rw[List.getElem_take]
  rw[h i hi' k (by simp at hk;omega)]
  simp
 rw[this]
 rfl
theorem cV.EZ (a b:cV):a.tL b=b.tL a:=by
 unfold cV.tL
 simp only[eq_comm]
theorem tQ (k n i:Int) (t:ByteArray) (lo hi k' n' i':Int) (t':ByteArray) (lo' hi':Int) (w:World) :
  (binOp .eql 34 (.agg #[.int .i64 k,.int .i64 n,.int .i64 i,.string t,.int .i64 lo,.int .i64 hi]) (.agg #[.int .i64 k',.int .i64 n',.int .i64 i',.string t',.int .i64 lo',.int .i64 hi'])).run Tryz.prog w=.ok (.bool (cV.tL ⟨k,n,i,t,lo,hi⟩ ⟨k',n',i',t',lo',hi'⟩)) w:=by
 have hS:Tryz.prog.underlying 34=some (.struct (Tryz.prog.fieldsOf 34)):=aC
 have hp:Tryz.prog.stoodInHeld 34=false:=aC
 unfold cV.tL
 rw[run_eql_struct,show (10000:Nat)=9999+1 from rfl,run_equalIn_agg w 9999 34 _ _ hS hp]
 simp only[Program.fieldsOf,Tryz.underlying34]
 go_simp
 by_cases h1:k=k' <;> by_cases h2:n=n' <;> by_cases h3:i=i' <;> by_cases h4:t=t' <;> by_cases h5:lo=lo' <;> by_cases h6:hi=hi' <;> simp_all [ba_eq]
abbrev OZ (s:cv) (l:List cw):Prop:=∀(S S':Nat->Prop) (q:Nat) (w:World) (A:Option Addr) (c:Nat),cG w S q s->Row w S' 6 A c (l.map cw.D) ->
 Calls Tryz.prog 106 #[.pointer (some ⟨q,0,none⟩),.slice A l.length c] w fun e w'=>e=.returned (.bool (allB s l))/\cE w w'
theorem jN (s:cv) (l:List cw):OZ s l:=by
 intro S S' q w A c hs hR
 have HS:=hide hs
 have hq:=hs.1
 have gM:¬q=w.heap.size:=aB
 have HR:=hide hR
 have hlen:=hR.1
 have hcm:=hR.2.1
 simp only[aj]at hlen
 unfold maxLen at hcm
 clear hR hs
 go_enter Tryz.func106,Tryz.ntmps106
 go_wp2_with (fail)
 repeat (any_goals (go_quiet (fail);(try go_wp2_with (fail))))
 go_loopw [5] (fun v wr=>∃m:Nat,v=.int .i64 m/\m<=l.length/\Hid (∀j (hj:j<l.length),j<m->iX s l[j].v=true)/\cE w wr) (fun v _=>l.length - (intOf v).toNat)
 case atStart=>exact⟨0,rfl,by omega,fun j _ hj=>by omega,cE.refl _⟩
 case round =>
  obtain⟨m,rfl,m1,hm,hbw⟩:=hrel
  have hbz:=hbw.size
  by_cases h1:m<l.length
  ·
   have hd:decide ((m:Int)<(l.length:Int))=true:=aX
   (obtain⟨b1,o1,cH,cM,cN,cO,cP,dn,hA1,hS1,hl1,hx1,hv1,eY,eG,fa,dY,er,gw,db,de,dq,dy,dz,dU⟩:=cw.at HR.out m h1;subst hA1;have jh:=hide (Dat.cC.bel hbw hv1);have hh1:=hbw.box b1 hl1;have hw1:=ak hl1 (cE.size hbw);replace db:=(hh1 _).trans db;replace de:=(hh1 _).trans de;replace dq:=(hh1 _).trans dq;replace dy:=(hh1 _).trans dy;replace dz:=(hh1 _).trans dz;replace dU:=(hh1 _).trans dU;have gv:=hide hx1;clear hh1 hv1 hx1 hS1)
   have hne1:¬b1=wr.heap.size:=aB
   have HD:=hide (show iX s l[m].v=iX s ⟨cH,cM,cN,cO,cP,dn⟩ by rw[gv.out];rfl)
   cases hn:iX s ⟨cH,cM,cN,cO,cP,dn⟩
   ·
    have HN:=hide hn
    have HA:=hide (OY m h1 (HD.out.trans hn))
    clear hn
    have fg:=True.intro
    repeat (any_goals ((first | clear fg | go_quiet (fail));(try go_wp2_with ((go_at_call 31;refine (lG s ⟨cH,cM,cN,cO,cP,dn⟩ S q _ (cG.bel bl HS.out) ⟨eY,eG,fa,dY,er,gw⟩).mono ?_;rintro e w1 ⟨rfl,hb1⟩);rw[HN.out]))))
    all_goals
     go_returns
     exact⟨by rw[HA.out];first | done | rfl,bl⟩
   ·
    have HN:=hide hn
    clear hn
    have fg:=True.intro
    repeat (any_goals ((first | clear fg | go_quiet (fail));(try go_wp2_with ((go_at_call 31;refine (lG s ⟨cH,cM,cN,cO,cP,dn⟩ S q _ (cG.bel bl HS.out) ⟨eY,eG,fa,dY,er,gw⟩).mono ?_;rintro e w1 ⟨rfl,hb1⟩);rw[HN.out]))))
    exact WU
  ·
   exact WV
theorem xw (l:List cw) (S:Nat->Prop) (w:World) (A:Option Addr) (c:Nat) (hR:Row w S 6 A c (l.map cw.D)) :
  Calls Tryz.prog 141 #[.slice A l.length c] w fun e w'=>e=.returned (.bool (oc l))/\cE w w':=by
 have HR:=hide hR
 have hlen:=hR.1
 have hcm:=hR.2.1
 simp only[aj]at hlen
 unfold maxLen at hcm
 clear hR
 have HE:=@tQ
 go_enter Tryz.func141,Tryz.ntmps141
 go_wp2_with (fail)
 repeat (any_goals (go_quiet (fail);(try go_wp2_with (fail))))
 go_loopw [3] (fun v wr=>∃m:Nat,v=.int .i64 m/\m<=l.length/\Hid (∀i (hi:i<l.length) k (hk:k<i),i<m->(l[k]' aB).v.tL l[i].v=false)/\cE w wr) (fun v _=>l.length - (intOf v).toNat)
 case atStart=>exact⟨0,rfl,by omega,fun j _ _ _ hj=>by omega,cE.refl _⟩
 case round =>
  obtain⟨m,rfl,m1,hm,hbw⟩:=hrel
  by_cases h1:m<l.length
  ·
   have hd:decide ((m:Int)<(l.length:Int))=true:=aX
   go_wp2_with (fail)
   repeat (any_goals (go_quiet (fail);(try go_wp2_with (fail))))
   have HB:=hide hbw
   go_loopw [4] (fun v wr2=>∃k:Nat,v=.int .i64 k/\k<=m/\Hid (∀j (hj:j<k) (hjm:j<l.length),l[j].v.tL l[m].v=false)/\cE w wr2) (fun v _=>m - (intOf v).toNat)
   case atStart=>exact⟨0,rfl,by omega,fun j hj _=>by omega,bl⟩
   case round =>
    obtain⟨k,rfl,k1,hk,hbw2⟩:=hrel
    by_cases h2:k<m
    ·
     have hd2:decide ((k:Int)<(m:Int))=true:=bu
     have h2':k<l.length:=aB
     (obtain⟨b1,o1,cH,cM,cN,cO,cP,dn,hA1,hS1,hl1,hx1,hv1,eY,eG,fa,dY,er,gw,db,de,dq,dy,dz,dU⟩:=cw.at HR.out m h1;subst hA1;have jh:=hide (Dat.cC.bel hbw2 hv1);have hh1:=hbw2.box b1 hl1;have hw1:=ak hl1 (cE.size hbw2);replace db:=(hh1 _).trans db;replace de:=(hh1 _).trans de;replace dq:=(hh1 _).trans dq;replace dy:=(hh1 _).trans dy;replace dz:=(hh1 _).trans dz;replace dU:=(hh1 _).trans dU;have gv:=hide hx1;clear hh1 hv1 hx1 hS1)
     (obtain⟨b2,o2,dG,dN,dQ,dV,dW,dZ,hA2,hS2,hl2,hx2,hv2,kY,km,lh,gY,kn,lH,fq,ft,fC,fF,fG,fK⟩:=cw.at HR.out k h2';injection Option.some.inj hA2 with qb2 sL _;subst qb2 sL;have xN:=hide (Dat.cC.bel hbw2 hv2);have hh2:=hbw2.box b1 hl2;have hw2:=ak hl2 (cE.size hbw2);replace fq:=(hh2 _).trans fq;replace ft:=(hh2 _).trans ft;replace fC:=(hh2 _).trans fC;replace fF:=(hh2 _).trans fF;replace fG:=(hh2 _).trans fG;replace fK:=(hh2 _).trans fK;have oz:=hide hx2;clear hh2 hv2 hx2 hS2)
     have HQ:=hide (show l[k].v.tL l[m].v=cV.tL ⟨cH,cM,cN,cO,cP,dn⟩ ⟨dG,dN,dQ,dV,dW,dZ⟩ by rw[cV.EZ,gv.out,oz.out];rfl)
     cases hn:cV.tL ⟨cH,cM,cN,cO,cP,dn⟩ ⟨dG,dN,dQ,dV,dW,dZ⟩
     ·
      have xT:=hide (HQ.out.trans hn)
      have hrun:=fun w=>(tQ cH cM cN cO cP dn dG dN dQ dV dW dZ w).trans (by rw[hn])
      clear HE hn
      go_wp2_with (fail)
      repeat (any_goals (go_quiet (fail);(try go_wp2_with (fail))))
      go_roundw
      case rel=>exact⟨k+1,by go_num,by omega,fun j hj hjm=>by
       by_cases e:j=k
       ·
        subst e;exact xT.out
       ·
        exact hk.out j aB hjm,bl⟩
      case measure=>simp[intOf];omega
     ·
      have HA:=hide (I4 m k h1 h2 (HQ.out.trans hn))
      have hrun:=fun w=>(tQ cH cM cN cO cP dn dG dN dQ dV dW dZ w).trans (by rw[hn])
      clear HE hn
      exact Ox
    ·
     have hd2:decide ((k:Int)<(m:Int))=false:=bu
     go_wp2_with (fail)
     repeat (any_goals (go_quiet (fail);(try go_wp2_with (fail))))
     go_roundw
     case rel=>exact⟨m+1,by go_num,by omega,fun i hi j hj him=>by
      by_cases e:i=m
      ·
       subst e;exact hk.out j aB aB
      ·
       exact hm.out i hi j hj aB,bl⟩
     case measure=>simp[intOf];omega
  ·
   exact WW
end Go.Proofs.YtjngkknbpfgdcaaGreatDoor
