import Derived.Test.YtjngkknbpfgdcaaGreatDoorPr
import Derived.Test.YtjngkknbpfgdcaaGreatDoorPS3a
import Derived.Test.YtjngkknbpfgdcaaGreatDoorPS2z
import Derived.Test.YtjngkknbpfgdcaaGreatDoorPS5
set_option linter.unusedVariables false
set_option linter.unusedSimpArgs false
set_option maxRecDepth 100000
set_option maxHeartbeats 8000000
namespace Go.Proofs.YtjngkknbpfgdcaaGreatDoor
open Go.RowKit
--%quiet
theorem eB (s:cv) (v:cV):pU 27 s v:=by
 obtain⟨k,n,i,t,lo,hi⟩:=v
 rcases rE k with rfl | rfl | rfl | rfl | rfl | rfl | rfl | rfl | rfl | rfl | rfl | rfl | rfl | rfl | rfl | rfl | rfl | rfl | rfl | rfl | rfl | h | h
 ·
  exact O0 n i t lo hi s
 ·
  exact O1 n i t lo hi s
 ·
  exact O2 n i t lo hi s
 ·
  exact O3 n i t lo hi s
 ·
  exact O6 n i t lo hi s
 ·
  exact O7 n i t lo hi s
 ·
  exact O8 n i t lo hi s
 ·
  exact O9 n i t lo hi s
 ·
  exact O4 n i t lo hi s
 ·
  exact O5 n i t lo hi s
 ·
  exact Ky n i t lo hi s
 ·
  exact KB n i t lo hi s
 ·
  exact KC n i t lo hi s
 ·
  exact KD n i t lo hi s
 ·
  exact Kz n i t lo hi s
 ·
  exact KE n i t lo hi s
 ·
  exact KF n i t lo hi s
 ·
  exact KG n i t lo hi s
 ·
  exact KA n i t lo hi s
 ·
  exact KH n i t lo hi s
 ·
  exact KI n i t lo hi s
 ·
  exact Ay k (Or.inl h) n i t lo hi s
 ·
  exact Ay k (Or.inr h) n i t lo hi s
theorem oF (s:cv) (v:cV):WS 28 s v:=by
 intro S q w hs hv
 have HS:=hide hs
 have hq:=hs.1
 clear hs
 have HV:=hide hv
 have hts:=hv.t
 unfold maxLen at hts
 clear hv
 obtain⟨k,n,i,t,lo,hi⟩:=v
 simp only at hts |-
 have gM:¬q=w.heap.size:=aB
 by_cases hk:k<=12
 ·
  have RR:=hide (show iX s ⟨k,n,i,t,lo,hi⟩=inB s ⟨k,n,i,t,lo,hi⟩ by unfold iX;rw[ar hk];rfl)
  go_enter Tryz.func28,Tryz.ntmps28
  have fg:=True.intro
  repeat (any_goals ((first | clear fg | go_quiet (fail));(try go_wp2_with (go_at_call 27;refine (eB s ⟨k,n,i,t,lo,hi⟩ S q _ (cG.bel bl HS.out) HV.out).mono ?_;rintro e w1 ⟨rfl,hb1⟩))))
  all_goals
   go_returns
   exact⟨by rw[RR.out];first | done | rfl,bl⟩
 ·
  have RR:=hide (show iX s ⟨k,n,i,t,lo,hi⟩=false by unfold iX;rw[aq hk];rfl)
  go_enter Tryz.func28,Tryz.ntmps28
  exact WT
--%quiet
abbrev Pa (s:cv) (l:List cw):Prop:=∀(S S':Nat->Prop) (q:Nat) (w:World) (A:Option Addr) (c:Nat),cG w S q s->Row w S' 6 A c (l.map cw.D) ->
 Calls Tryz.prog 40 #[.pointer (some ⟨q,0,none⟩),.slice A l.length c] w fun e w'=>e=.returned (.bool (allB s l))/\cE w w'
theorem gP (s:cv) (l:List cw):Pa s l:=by
 intro S S' q w A c hs hR
 have HS:=hide hs
 have hq:=hs.1
 have gM:¬q=w.heap.size:=aB
 have HR:=hide hR
 have hlen:=hR.1
 have hcm:=hR.2.1
 simp only[aj]at hlen
 unfold maxLen at hcm
 clear hR hs
 go_enter Tryz.func40,Tryz.ntmps40
 go_wp2_with (fail)
 repeat (any_goals (go_quiet (fail);(try go_wp2_with (fail))))
 go_loopw [9] (fun v wr=>∃m:Nat,v=.int .i64 m/\m<=l.length/\Hid (∀j (hj:j<l.length),j<m->iX s l[j].v=true)/\cE w wr) (fun v _=>l.length - (intOf v).toNat)
 case atStart=>exact⟨0,rfl,by omega,fun j _ hj=>by omega,cE.refl _⟩
 case round =>
  obtain⟨m,rfl,m1,hm,hbw⟩:=hrel
  have hbz:=hbw.size
  by_cases h1:m<l.length
  ·
   have hd:decide ((m:Int)<(l.length:Int))=true:=aX
   (obtain⟨b1,o1,cH,cM,cN,cO,cP,dn,hA1,hS1,hl1,hx1,hv1,eY,eG,fa,dY,er,gw,db,de,dq,dy,dz,dU⟩:=cw.at HR.out m h1;subst hA1;have jh:=hide (Dat.cC.bel hbw hv1);have hh1:=hbw.box b1 hl1;have hw1:=ak hl1 (cE.size hbw);replace db:=(hh1 _).trans db;replace de:=(hh1 _).trans de;replace dq:=(hh1 _).trans dq;replace dy:=(hh1 _).trans dy;replace dz:=(hh1 _).trans dz;replace dU:=(hh1 _).trans dU;have gv:=hide hx1;clear hh1 hv1 hx1 hS1)
   have hne1:¬b1=wr.heap.size:=aB
   have HD:=hide (show iX s l[m].v=iX s ⟨cH,cM,cN,cO,cP,dn⟩ by rw[gv.out];rfl)
   cases hn:iX s ⟨cH,cM,cN,cO,cP,dn⟩
   ·
    have HN:=hide hn
    have HA:=hide (OY m h1 (HD.out.trans hn))
    clear hn
    have fg:=True.intro
    repeat (any_goals ((first | clear fg | go_quiet (fail));(try go_wp2_with ((go_at_call 28;refine (oF s ⟨cH,cM,cN,cO,cP,dn⟩ S q _ (cG.bel bl HS.out) ⟨eY,eG,fa,dY,er,gw⟩).mono ?_;rintro e w1 ⟨rfl,hb1⟩);rw[HN.out]))))
    all_goals
     go_returns
     exact⟨by rw[HA.out];first | done | rfl,bl⟩
   ·
    have HN:=hide hn
    clear hn
    have fg:=True.intro
    repeat (any_goals ((first | clear fg | go_quiet (fail));(try go_wp2_with ((go_at_call 28;refine (oF s ⟨cH,cM,cN,cO,cP,dn⟩ S q _ (cG.bel bl HS.out) ⟨eY,eG,fa,dY,er,gw⟩).mono ?_;rintro e w1 ⟨rfl,hb1⟩);rw[HN.out]))))
    exact WU
  ·
   exact WV
theorem yA {b o len c m:Nat} (h:m<=c) (w:World):(Instr.slice 27 (.slice (some ⟨b,o,none⟩) len c) none (some (.int .i64 (m:Int))) none).run Tryz.prog w=.ok (.slice (some ⟨b,o,none⟩) m c) w:=by
 rw[run_slice_h (P:=Tryz.prog) (ht:=by rw[Tryz.underlying27];kernel_rfl) (h0:=by omega) (h2:=by omega)]
 simp[sliced,go_sem,Tryz.sizeOf34,Addr.add]
def oB (l:List cw) (x:cV):Int:=match l.findIdx? (fun y=>y.v.tL x)with | some k=>k | none=>-1
theorem EW {l:List cw} {x:cV} (k:Nat) (hk:k<l.length) (h:l[k].v.tL x=true) (hb:∀j (hj:j<l.length),j<k->l[j].v.tL x=false):oB l x=k:=by
 unfold oB
 rw[(List.findIdx?_eq_some_iff_getElem (xs:=l) (p:=fun y:cw=>y.v.tL x) (i:=k)).2 ⟨hk,h,fun j hj=>by rw[hb j aB hj];simp⟩]
theorem Ct {l:List cw} {x:cV} (h:∀j (hj:j<l.length),l[j].v.tL x=false):oB l x = -1:=by
 unfold oB
 rw[List.findIdx?_eq_none_iff.2 fun y hy=>by
  obtain⟨k,hk,rfl⟩:=List.mem_iff_getElem.1 hy
  exact h k hk]
theorem Pb (l:List cw) (x:cV):decide (0<=oB l x)=l.any fun y=>y.v.tL x:=by
 unfold oB
 cases hf:l.findIdx? (fun y=>y.v.tL x)with
 | none =>
  rw[List.findIdx?_eq_none_iff]at hf
  rw[List.any_eq_false.2 fun y hy=>by rw[hf y hy];simp]
  rfl
 | some k =>
  obtain⟨h1,h2,-⟩:=List.findIdx?_eq_some_iff_getElem.1 hf
  rw[List.any_eq_true.2 ⟨l[k],List.getElem_mem h1,h2⟩]
  simp
theorem Az (l:List cw) (x:cV) (S:Nat->Prop) (w:World) (A:Option Addr) (c:Nat) (hR:Row w S 6 A c (l.map cw.D)) :
  Calls Tryz.prog 85 #[.slice A l.length c,.agg #[.int .i64 x.k,.int .i64 x.n,.int .i64 x.i,.string x.t,.int .i64 x.lo,.int .i64 x.hi]] w fun e w'=>e=.returned (.int .i64 (oB l x))/\cE w w':=by
 have HR:=hide hR
 have hlen:=hR.1
 have hcm:=hR.2.1
 simp only[aj]at hlen
 unfold maxLen at hcm
 clear hR
 obtain⟨y0,y1,y2,y3,y4,y5⟩:=x
 simp only
 go_enter Tryz.func85,Tryz.ntmps85
 go_wp2_with (fail)
 repeat (any_goals (go_quiet (fail);(try go_wp2_with (fail))))
 go_loopw [8] (fun v wr=>∃m:Nat,v=.int .i64 m/\m<=l.length/\Hid (∀j (hj:j<l.length),j<m->l[j].v.tL ⟨y0,y1,y2,y3,y4,y5⟩=false)/\cE (w.alloc (.cells #[.int .i64 y0,.int .i64 y1,.int .i64 y2,.string y3,.int .i64 y4,.int .i64 y5] 34)) wr) (fun v _=>l.length - (intOf v).toNat)
 case atStart=>exact⟨0,rfl,by omega,fun j _ hj=>by omega,bl⟩
 case round =>
  obtain⟨m,rfl,m1,hm,hbx⟩:=hrel
  have hbw:cE w wr:=cE.trans (cE.alloc (cE.refl w) _) hbx
  have hz:=hbx.size
  simp only[World.size_alloc]at hz
  have hx0:=hbx.box w.heap.size aK
  by_cases h1:m<l.length
  ·
   have hd:decide ((m:Int)<(l.length:Int))=true:=aX
   (obtain⟨b1,o1,cH,cM,cN,cO,cP,dn,hA1,hS1,hl1,hx1,hv1,eY,eG,fa,dY,er,gw,db,de,dq,dy,dz,dU⟩:=cw.at HR.out m h1;subst hA1;have jh:=hide (Dat.cC.bel hbw hv1);have hh1:=hbw.box b1 hl1;have hw1:=ak hl1 (cE.size hbw);replace db:=(hh1 _).trans db;replace de:=(hh1 _).trans de;replace dq:=(hh1 _).trans dq;replace dy:=(hh1 _).trans dy;replace dz:=(hh1 _).trans dz;replace dU:=(hh1 _).trans dU;have gv:=hide hx1;clear hh1 hv1 hx1 hS1)
   have HQ:=hide (show l[m].v.tL ⟨y0,y1,y2,y3,y4,y5⟩=cV.tL ⟨y0,y1,y2,y3,y4,y5⟩ ⟨cH,cM,cN,cO,cP,dn⟩ by rw[cV.EZ,gv.out];rfl)
   cases hn:cV.tL ⟨y0,y1,y2,y3,y4,y5⟩ ⟨cH,cM,cN,cO,cP,dn⟩
   ·
    have xT:=hide (HQ.out.trans hn)
    have hrun:=fun w=>(tQ y0 y1 y2 y3 y4 y5 cH cM cN cO cP dn w).trans (by rw[hn])
    clear hn
    go_wp2_with (fail)
    repeat (any_goals (go_quiet (fail);(try go_wp2_with (fail))))
    go_roundw
    case rel=>exact⟨m+1,by go_num,by omega,fun j hj hjm=>by
     by_cases e:j=m
     ·
      subst e;exact xT.out
     ·
      exact hm.out j hj aB,bl⟩
    case measure=>simp[intOf];omega
   ·
    have HA:=hide (EW m h1 (HQ.out.trans hn) fun j hj hjm=>hm.out j hj hjm)
    have hrun:=fun w=>(tQ y0 y1 y2 y3 y4 y5 cH cM cN cO cP dn w).trans (by rw[hn])
    clear hn
    exact Ox
  ·
   have hd:decide ((m:Int)<(l.length:Int))=false:=aX
   have HA:=hide (Ct (l:=l) fun k hk=>hm.out k hk aB)
   go_wp2_with (fail)
   repeat (any_goals (go_quiet (fail);(try go_wp2_with (fail))))
   all_goals
    go_returns
    exact⟨by rw[HA.out];first | done | rfl,bl⟩
theorem BM (l:List cw) (x:cV) (S:Nat->Prop) (w:World) (A:Option Addr) (c:Nat) (hR:Row w S 6 A c (l.map cw.D)) :
  Calls Tryz.prog 131 #[.slice A l.length c,.agg #[.int .i64 x.k,.int .i64 x.n,.int .i64 x.i,.string x.t,.int .i64 x.lo,.int .i64 x.hi]] w fun e w'=>e=.returned (.bool (l.any fun y=>y.v.tL x))/\cE w w':=by
 have HR:=hide hR
 have hlen:=hR.1
 have hcm:=hR.2.1
 simp only[aj]at hlen
 unfold maxLen at hcm
 clear hR
 have HI:=hide (Pb l x)
 obtain⟨y0,y1,y2,y3,y4,y5⟩:=x
 simp only
 go_enter Tryz.func131,Tryz.ntmps131
 have fg:=True.intro
 repeat (any_goals ((first | clear fg | go_quiet (fail));(try go_wp2_with (go_at_call 85;refine (Az l ⟨y0,y1,y2,y3,y4,y5⟩ S _ _ _ (Row.bel bl HR.out)).mono ?_;rintro e w1 ⟨rfl,hb1⟩))))
 all_goals
  go_returns
  exact⟨by rw[<-HI.out];first | done | rfl,bl⟩
theorem Row.taken {w:World} {S:Nat->Prop} {k c:Nat} {A:Option Addr} {xs:List (List Dat)} (h:Row w S k A c xs) (n:Nat):Row w S k A c (xs.take n):=by
 obtain⟨h1,h2,h3⟩:=h
 refine⟨by rw[List.length_take];omega,h2,fun hne=>?_⟩
 obtain⟨b,o,hA,hS,hb,hr⟩:=h3 (fun e=>hne (by rw[e];simp))
 refine⟨b,o,hA,hS,hb,Dat.fI.mk fun i hi=>?_⟩
 have hi2:i<xs.length:=by simp at hi;omega
 rw[List.getElem_take]
 exact hr.get i hi2
theorem oG (l:List cw) (S:Nat->Prop) (w:World) (A:Option Addr) (c:Nat) (hR:Row w S 6 A c (l.map cw.D)) :
  Calls Tryz.prog 96 #[.slice A l.length c] w fun e w'=>e=.returned (.bool (oc l))/\cE w w':=by
 have HR:=hide hR
 have hlen:=hR.1
 have hcm:=hR.2.1
 simp only[aj]at hlen
 unfold maxLen at hcm
 clear hR
 go_enter Tryz.func96,Tryz.ntmps96
 go_wp2_with (fail)
 repeat (any_goals (go_quiet (fail);(try go_wp2_with (fail))))
 go_loopw [6] (fun v wr=>∃m:Nat,v=.int .i64 m/\m<=l.length/\Hid (∀i (hi:i<l.length) k (hk:k<i),i<m->(l[k]' aB).v.tL l[i].v=false)/\cE w wr) (fun v _=>l.length - (intOf v).toNat)
 case atStart=>exact⟨0,rfl,by omega,fun j _ _ _ hj=>by omega,cE.refl _⟩
 case round =>
  obtain⟨m,rfl,m1,hm,hbw⟩:=hrel
  by_cases h1:m<l.length
  ·
   have hd:decide ((m:Int)<(l.length:Int))=true:=aX
   (obtain⟨b1,o1,cH,cM,cN,cO,cP,dn,hA1,hS1,hl1,hx1,hv1,eY,eG,fa,dY,er,gw,db,de,dq,dy,dz,dU⟩:=cw.at HR.out m h1;subst hA1;have jh:=hide (Dat.cC.bel hbw hv1);have hh1:=hbw.box b1 hl1;have hw1:=ak hl1 (cE.size hbw);replace db:=(hh1 _).trans db;replace de:=(hh1 _).trans de;replace dq:=(hh1 _).trans dq;replace dy:=(hh1 _).trans dy;replace dz:=(hh1 _).trans dz;replace dU:=(hh1 _).trans dU;have gv:=hide hx1;clear hh1 hv1 hx1 hS1)
   obtain⟨lt,hlt⟩:∃lt,lt=l.take m:=⟨_,rfl⟩
   have hll:lt.length=m:=by rw[hlt,List.length_take];omega
   have HRT:=hide (show Row w S 6 (some ⟨b1,o1,none⟩) c (lt.map cw.D) by rw[hlt,List.map_take];exact Row.taken HR.out m)
   have HC:=hide (fun (wx:World) (hwx:Row wx S 6 (some ⟨b1,o1,none⟩) c (lt.map cw.D))=>by have:=BM lt ⟨cH,cM,cN,cO,cP,dn⟩ S wx _ _ hwx;rw[hll]at this;exact this)
   have HX:=hide (show (⟨cH,cM,cN,cO,cP,dn⟩:cV)=l[m].v by rw[gv.out];rfl)
   have WY:=hide hlt
   clear hlt hll
   cases hn:(lt.any fun y=>y.v.tL ⟨cH,cM,cN,cO,cP,dn⟩)
   ·
    have HN:=hide hn
    clear hn
    have hsl:=fun wx=>yA (b:=b1) (o:=o1) (len:=l.length) (c:=c) (m:=m) aB wx
    go_wp2_with (fail)
    repeat (any_goals (go_quiet (fail);(try go_wp2_with (fail))))
    go_region_held3 (fun w'=>w'.cell? ⟨b1,o1+m*6,none⟩=some (.int .i64 cH)/\w'.cell? ⟨b1,o1+m*6+1,none⟩=some (.int .i64 cM)/\w'.cell? ⟨b1,o1+m*6+2,none⟩=some (.int .i64 cN)/\w'.cell? ⟨b1,o1+m*6+3,none⟩=some (.string cO)/\w'.cell? ⟨b1,o1+m*6+4,none⟩=some (.int .i64 cP)/\w'.cell? ⟨b1,o1+m*6+5,none⟩=some (.int .i64 dn)) (go_keep) (first | (go_at_call 131;refine (HC.out _ (Row.bel bl HRT.out)).mono ?_;rintro e w1 ⟨rfl,hb1⟩;rw[HN.out];have hq1:=hb1.box b1 aD;simp only[World.cell?_drew]at hq1))
    go_wp2_with (fail)
    repeat (any_goals (go_quiet (fail);(try go_wp2_with (fail))))
    go_roundw
    case rel=>exact⟨m+1,by go_num,by omega,fun i hi k hk him=>by
     by_cases e:i=m
     ·
      subst e
      have:=HN.out
      rw[WY.out,List.any_eq_false]at this
      have h:=this (l[k]' aB) (List.mem_iff_getElem.2 ⟨k,by simp;omega,by simp⟩)
      rw[HX.out]at h
      simpa using h
     ·
      exact hm.out i hi k hk aB,bl⟩
    case measure=>simp[intOf];omega
   ·
    have HN:=hide hn
    have HA:=hide (show oc l=false by
     have h2:=hn
     rw[WY.out,List.any_eq_true]at h2
     obtain⟨y,hy,he⟩:=h2
     obtain⟨k,hk,rfl⟩:=List.mem_iff_getElem.1 hy
     rw[List.getElem_take,HX.out]at he
     exact I4 m k h1 (by simp at hk;omega) he)
    clear hn
    have hsl:=fun wx=>yA (b:=b1) (o:=o1) (len:=l.length) (c:=c) (m:=m) aB wx
    go_wp2_with (fail)
    repeat (any_goals (go_quiet (fail);(try go_wp2_with (fail))))
    go_region_held3 (fun w'=>w'.cell? ⟨b1,o1+m*6,none⟩=some (.int .i64 cH)/\w'.cell? ⟨b1,o1+m*6+1,none⟩=some (.int .i64 cM)/\w'.cell? ⟨b1,o1+m*6+2,none⟩=some (.int .i64 cN)/\w'.cell? ⟨b1,o1+m*6+3,none⟩=some (.string cO)/\w'.cell? ⟨b1,o1+m*6+4,none⟩=some (.int .i64 cP)/\w'.cell? ⟨b1,o1+m*6+5,none⟩=some (.int .i64 dn)) (go_keep) (first | (go_at_call 131;refine (HC.out _ (Row.bel bl HRT.out)).mono ?_;rintro e w1 ⟨rfl,hb1⟩;rw[HN.out];have hq1:=hb1.box b1 aD;simp only[World.cell?_drew]at hq1))
    go_wp2_with (fail)
    repeat (any_goals (go_quiet (fail);(try go_wp2_with (fail))))
    all_goals
     go_returns
     exact⟨by rw[HA.out];first | done | rfl,bl⟩
  ·
   exact WW
--%quiet
abbrev js (s:cv) (tag:Int) (its:List cw):Prop:=∀(S S':Nat->Prop) (q:Nat) (w:World) (Ai:Option Addr) (ci:Nat),cG w S q s->Row w S' 6 Ai ci (its.map cw.D) ->
 Calls Tryz.prog 97 #[.pointer (some ⟨q,0,none⟩),.int .i64 tag,.slice Ai its.length ci] w fun e w'=>e=.returned (.bool (eV s tag its))/\cE w w'
theorem gE {s:cv} {op:Int} {its:List cw} (h:(cW op).length≠its.length):eV s op its=false:=by unfold eV;rw[aq h];simp
theorem Pc {s:cv} {op:Int} {its:List cw} (h:op<1\/23<op):eV s op its=false:=by unfold eV;rw[aq (show ¬(1<=op/\op<=23) by omega)];simp
theorem E4 (s:cv) (tag:Int) (its:List cw) (h:tag<1\/23<tag):js s tag its:=by
 intro S S' q w Ai ci hs hR
 have HS:=hide hs
 have hq:=hs.1
 have gM:¬q=w.heap.size:=aB
 have HR:=hide hR
 have hlen:=hR.1
 have hcm:=hR.2.1
 simp only[aj,az,aA,Nat.reduceAdd]at hlen
 unfold maxLen at hcm
 clear hR hs
 have RR:=hide (Pc (s:=s) (its:=its) h)
 rcases h with h | h
 all_goals
  go_enter Tryz.func97,Tryz.ntmps97
  exact ov
end Go.Proofs.YtjngkknbpfgdcaaGreatDoor
