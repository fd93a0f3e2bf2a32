import Derived.Test.YtjngkknbpfgdcaaGreatDoorVvEx
import Derived.Test.YtjngkknbpfgdcaaGreatDoorVvK2b
set_option linter.unusedVariables false
set_option linter.unusedSimpArgs false
set_option maxRecDepth 100000
set_option maxHeartbeats 8000000
namespace Go.Proofs.YtjngkknbpfgdcaaGreatDoor
open Go.RowKit Go.Proofs.Tryz
def WrP (N:Nat) (w:World) (q:Nat) (s:O) (r v:cC) (e:Ending) (w':World):Prop :=
 e=.returned (.int .i64 (lX s r v).2)/\(∃vs L,WO N w' q (lX s r v).1 vs L)/\mf N w w'
abbrev KI (f:FuncId) (s:O) (r:cC):Prop:=∀(v:cC) (N q:Nat) (w:World) (vs:List Value) (L:List Nat),WO N w q s vs L->N<=w.heap.size->N<=q->r.Ok->v.Ok->U7 w->Calls prog f #[.pointer (some ⟨q,0,none⟩),r.val,v.val] w (WrP N w q s r v)
theorem ML (n i:Int) (t:cx) (lo hi:Int) (s:O) (gf:eE s ⟨13,n,i,t,lo,hi⟩=true):KI 34 s ⟨13,n,i,t,lo,hi⟩:=by
 obtain⟨x0,x1,x2,x3,x4,x5,x6,x7,x8,x9,F,G,Z⟩:=s
 obtain⟨m,rfl,hm,-,oQ⟩:=jz gf aF
 have jh:=jr (gg gf) aF
 obtain⟨j,rfl⟩:=Int.eq_ofNat_of_zero_le jh
 have hj:=oQ aF
 clear gf oQ jh
 replace hm:m<x2.length:=hm
 obtain⟨k,tg,sr,it,ky,hx⟩:∃k tg sr it ky,x2[m]=.mk k tg sr it ky:=by cases x2[m];exact⟨_,_,_,_,_,rfl⟩
 replace hj:(j:Int)<((x2[m].items).length:Int):=hj
 rw[hx]at hj
 replace hj:j<it.length:=Int.ofNat_lt.1 hj
 have RR:=fun v:cC=>I (show lX (O.mk x0 x1 x2 x3 x4 x5 x6 x7 x8 x9 F G Z) ⟨13,m,j,t,lo,hi⟩ v=(O.mk x0 x1 (x2.set m (.mk k tg sr (it.set j v.tv) ky)) x3 x4 x5 x6 x7 x8 x9 F G Z,0) by unfold lX;dsimp only;rw[if_pos aJ];simp only[Int.toNat_natCast];unfold vm;rw[List.getD_eq_getElem?_getD,List.getElem?_eq_getElem hm,hx];rfl)
 intro v N q w vs L hW hN Ke hr hv j6
 have HV:=I hv
 obtain⟨vk,vn,vi,vt,vl,vh⟩:=v
 simp only[cC.val]
 have hq:=hW.lt
 have OS:=hW.lt
 have HW:=I hW
 clear hW hv
 go_enter func34,ntmps34
 go_upto_region 4 with (fail)
 refine cZ fun wr jO=>?_
 have jg:U w wr:=by rw[<-jO];exact bl
 have R4:=I (show V6 wr w.heap.size 13 m j t lo hi from by rw[<-jO];exact V6.on (V6.new w 34) (U.alloc (U.refl _) _))
 have R5:=I (show V6 wr (w.heap.size+1) vk vn vi vt vl vh from by rw[<-jO];have h:=V6.new (w.alloc (.cells #[.int .i64 13,.int .i64 m,.int .i64 j,.string t,.int .i64 lo,.int .i64 hi] 34)) 34 (k:=vk) (n:=vn) (i:=vi) (t:=vt) (lo:=vl) (hi:=vh);rw[World.size_alloc]at h;exact h)
 exact Zk
theorem MO (n i:Int) (t:cx) (lo hi:Int) (s:O) (gf:eE s ⟨16,n,i,t,lo,hi⟩=true):KI 34 s ⟨16,n,i,t,lo,hi⟩:=by
 obtain⟨x0,x1,x2,x3,x4,x5,x6,x7,x8,x9,F,G,Z⟩:=s
 obtain⟨m,rfl,hm,-,oQ⟩:=jz gf aF
 have jh:=jr (gg gf) aF
 obtain⟨j,rfl⟩:=Int.eq_ofNat_of_zero_le jh
 have hj:=oQ aF
 clear gf oQ jh
 replace hm:m<x2.length:=hm
 obtain⟨k,tg,sr,it,ky,hx⟩:∃k tg sr it ky,x2[m]=.mk k tg sr it ky:=by cases x2[m];exact⟨_,_,_,_,_,rfl⟩
 replace hj:(j:Int)<((x2[m].items).length:Int):=hj
 rw[hx]at hj
 replace hj:j<it.length:=Int.ofNat_lt.1 hj
 have RR:=fun v:cC=>I (show lX (O.mk x0 x1 x2 x3 x4 x5 x6 x7 x8 x9 F G Z) ⟨16,m,j,t,lo,hi⟩ v=(O.mk x0 x1 (x2.set m (.mk k tg sr (it.set j v.tv) ky)) x3 x4 x5 x6 x7 x8 x9 F G Z,0) by unfold lX;dsimp only;rw[if_pos aJ];simp only[Int.toNat_natCast];unfold vm;rw[List.getD_eq_getElem?_getD,List.getElem?_eq_getElem hm,hx];rfl)
 intro v N q w vs L hW hN Ke hr hv j6
 have HV:=I hv
 obtain⟨vk,vn,vi,vt,vl,vh⟩:=v
 simp only[cC.val]
 have hq:=hW.lt
 have OS:=hW.lt
 have HW:=I hW
 clear hW hv
 go_enter func34,ntmps34
 go_upto_region 4 with (fail)
 refine cZ fun wr jO=>?_
 have jg:U w wr:=by rw[<-jO];exact bl
 have R4:=I (show V6 wr w.heap.size 16 m j t lo hi from by rw[<-jO];exact V6.on (V6.new w 34) (U.alloc (U.refl _) _))
 have R5:=I (show V6 wr (w.heap.size+1) vk vn vi vt vl vh from by rw[<-jO];have h:=V6.new (w.alloc (.cells #[.int .i64 16,.int .i64 m,.int .i64 j,.string t,.int .i64 lo,.int .i64 hi] 34)) 34 (k:=vk) (n:=vn) (i:=vi) (t:=vt) (lo:=vl) (hi:=vh);rw[World.size_alloc]at h;exact h)
 exact Zk
theorem MM (n i:Int) (t:cx) (lo hi:Int) (s:O) (gf:eE s ⟨14,n,i,t,lo,hi⟩=true):KI 34 s ⟨14,n,i,t,lo,hi⟩:=by
 obtain⟨x0,x1,x2,x3,x4,x5,x6,x7,x8,x9,F,G,Z⟩:=s
 have jh:=jr (gg gf) aF
 obtain⟨j,rfl⟩:=Int.eq_ofNat_of_zero_le jh
 have hj:=BF gf
 clear gf jh
 replace hj:j<x3.length:=Int.ofNat_lt.1 hj
 have RR:=fun v:cC=>I (show lX (O.mk x0 x1 x2 x3 x4 x5 x6 x7 x8 x9 F G Z) ⟨14,n,j,t,lo,hi⟩ v=(O.mk x0 x1 x2 (x3.set j v.tv) x4 x5 x6 x7 x8 x9 F G Z,0) by unfold lX;dsimp only;rw[if_neg aJ,if_pos aJ];simp only[Int.toNat_natCast])
 intro v N q w vs L hW hN Ke hr hv j6
 have HV:=I hv
 obtain⟨vk,vn,vi,vt,vl,vh⟩:=v
 simp only[cC.val]
 have hq:=hW.lt
 have OS:=hW.lt
 have HW:=I hW
 clear hW hv
 go_enter func34,ntmps34
 go_upto_region 7 with (fail)
 refine cZ fun wr jO=>?_
 have jg:U w wr:=by rw[<-jO];exact bl
 have R4:=I (show V6 wr w.heap.size 14 n j t lo hi from by rw[<-jO];exact V6.on (V6.new w 34) (U.alloc (U.refl _) _))
 have R5:=I (show V6 wr (w.heap.size+1) vk vn vi vt vl vh from by rw[<-jO];have h:=V6.new (w.alloc (.cells #[.int .i64 14,.int .i64 n,.int .i64 j,.string t,.int .i64 lo,.int .i64 hi] 34)) 34 (k:=vk) (n:=vn) (i:=vi) (t:=vt) (lo:=vl) (hi:=vh);rw[World.size_alloc]at h;exact h)
 have W1:=I (HW.out.on jg)
 have hq:q<wr.heap.size:=au hq jg.size
 obtain⟨r4,nj⟩:∃x,w.heap.size=x:=⟨_,rfl⟩
 obtain⟨r5,nE⟩:∃x,w.heap.size+1=x:=⟨_,rfl⟩
 rw[nj]at R4
 rw[nE]at R5
 simp only[nE]
 simp only[nj]
 have HR4:=I nj
 have OT:=I nE
 clear jO nj nE
 replace RR:=RR (⟨vk,vn,vi,vt,vl,vh⟩:cC)
 obtain⟨g3,o3,c3,ahP,Je,⟨GM,vD⟩,kH⟩:=W1.out.XD (aw hN jg.size) hj
 unfold maxLen at vD
 have zm:=I kH
 have dj:decide ((j:Int)<(x3.length:Int))=true:=aH
 clear kH HW
 refine ea 8 (fun s f wq=>(U wr wq)/\(s 0=true->(f 0)=.pointer (some ⟨q,0,none⟩))/\(s 1=true->(f 1)=.pointer (some ⟨q,0,none⟩))/\(s 2=true->(f 2)=.pointer (some ⟨q,3,none⟩))/\(s 3=true->(f 3)=.slice (some ⟨g3,o3,none⟩) x3.length c3)/\(s 4=true->(f 4)=.pointer (some ⟨r4,2,none⟩))/\(s 5=true->(f 5)=.int .i64 (j:Int))/\(s 6=true->(f 6)=.agg #[.int .i64 vk,.int .i64 vn,.int .i64 vi,.string vt,.int .i64 vl,.int .i64 vh])/\(s 7=true->(f 7)=.pointer (some ⟨g3,o3+j*6,none⟩))) [(0,some 35),(1,some 36),(2,some 37),(3,some 38),(4,some 39),(5,some 40),(6,some 41),(7,some 42),(8,none)] rfl aG aG ?hJ rfl ?hstep ?hlast
 case hJ=>exact fun u=>⟨bl,cS,cS,cS,cS,cS,cS,cS,cS⟩
 case hstep =>
  exact ahQ
 case hlast =>
  simp only[gZ,Act.put,aa,ab,ae,af,ag,aj]
  intro uf wa ⟨s,fh,hJ⟩ K hK
  obtain⟨cQ,cI,cG,cN,dU,eU,eR,dB,eu⟩:=hJ
  have ss:=eu (fh 7 aI)
  have ph:=dB (fh 6 aI)
  clear cI cG cN dU eU eR dB eu fh
  rw[ss,ph]at hK |-
  obtain⟨yK,kH⟩:=zm.out wa cQ
  refine wp_store_mid 34 (.tmp 42) (.tmp 41) rfl g3 (o3+j*6) #[.int .i64 vk,.int .i64 vn,.int .i64 vi,.string vt,.int .i64 vl,.int .i64 vh] rfl rfl yK aG aW ?_
  exact Zl
theorem MN (n i:Int) (t:cx) (lo hi:Int) (s:O) (gf:eE s ⟨15,n,i,t,lo,hi⟩=true):KI 34 s ⟨15,n,i,t,lo,hi⟩:=by
 obtain⟨x0,x1,x2,x3,x4,x5,x6,x7,x8,x9,F,G,Z⟩:=s
 obtain⟨m,rfl,hm,-,-⟩:=jz gf aF
 have jh:=jr (gg gf) aF
 obtain⟨j,rfl⟩:=Int.eq_ofNat_of_zero_le jh
 clear gf jh
 replace hm:m<x2.length:=hm
 obtain⟨k,tg,sr,it,ky,hx⟩:∃k tg sr it ky,x2[m]=.mk k tg sr it ky:=by cases x2[m];exact⟨_,_,_,_,_,rfl⟩
 have Mg:x2.getD m nS=.mk k tg sr it ky:=by rw[List.getD_eq_getElem?_getD,List.getElem?_eq_getElem hm,hx];rfl
 have R1:=fun v:cC=>I (show it.length<=j->lX (O.mk x0 x1 x2 x3 x4 x5 x6 x7 x8 x9 F G Z) ⟨15,m,j,t,lo,hi⟩ v=((O.mk x0 x1 x2 x3 x4 x5 x6 x7 x8 x9 F G Z),205)from fun hj=>by unfold lX;dsimp only;rw[if_neg aJ,if_neg aJ,if_pos aJ];simp only[Int.toNat_natCast,Mg,cr.items];rw[if_pos aF])
 have R2:=fun v:cC=>I (show j<it.length->lX (O.mk x0 x1 x2 x3 x4 x5 x6 x7 x8 x9 F G Z) ⟨15,m,j,t,lo,hi⟩ v=(O.mk x0 x1 (x2.set m (.mk k tg sr (it.set j v.tv) ky)) x3 x4 x5 x6 x7 x8 x9 F G Z,0)from fun hj=>by unfold lX;dsimp only;rw[if_neg aJ,if_neg aJ,if_pos aJ];simp only[Int.toNat_natCast,Mg,cr.items];rw[if_neg aF];unfold vm;rw[Mg];rfl)
 clear Mg
 intro v N q w vs L hW hN Ke hr hv j6
 have HV:=I hv
 obtain⟨vk,vn,vi,vt,vl,vh⟩:=v
 simp only[cC.val]
 have hq:=hW.lt
 have OS:=hW.lt
 have HW:=I hW
 clear hW hv
 go_enter func34,ntmps34
 go_upto_region 10 with (fail)
 refine cZ fun wr jO=>?_
 have jg:U w wr:=by rw[<-jO];exact bl
 have R4:=I (show V6 wr w.heap.size 15 m j t lo hi from by rw[<-jO];exact V6.on (V6.new w 34) (U.alloc (U.refl _) _))
 have R5:=I (show V6 wr (w.heap.size+1) vk vn vi vt vl vh from by rw[<-jO];have h:=V6.new (w.alloc (.cells #[.int .i64 15,.int .i64 m,.int .i64 j,.string t,.int .i64 lo,.int .i64 hi] 34)) 34 (k:=vk) (n:=vn) (i:=vi) (t:=vt) (lo:=vl) (hi:=vh);rw[World.size_alloc]at h;exact h)
 have W1:=I (HW.out.on jg)
 have hq:q<wr.heap.size:=au hq jg.size
 obtain⟨r4,nj⟩:∃x,w.heap.size=x:=⟨_,rfl⟩
 obtain⟨r5,nE⟩:∃x,w.heap.size+1=x:=⟨_,rfl⟩
 rw[nj]at R4
 rw[nE]at R5
 simp only[nE]
 simp only[nj]
 have HR4:=I nj
 have OT:=I nE
 clear jO nj nE
 replace R1:=R1 (⟨vk,vn,vi,vt,vl,vh⟩:cC)
 replace R2:=R2 (⟨vk,vn,vi,vt,vl,vh⟩:cC)
 obtain⟨g,o,c2,A3,c3,L3,A4,c4,L4,mo,hg,-,-,-,⟨-,-,-,AV,-⟩,q3,-,-,-,-,-,⟨BI,qw⟩,-⟩:=W1.out.lists (aw hN jg.size) hm hx
 have GM:=q3.1
 have vD:=q3.2.1
 rw[ar]at GM
 unfold maxLen at qw vD
 have dm:decide ((m:Int)<(x2.length:Int))=true:=aH
 clear HW q3
 refine ea 12 (fun s f wq=>(U wr wq)/\(s 0=true->(f 0)=.pointer (some ⟨r4,2,none⟩))/\(s 1=true->(f 1)=.int .i64 (j:Int))/\(s 2=true->(f 2)=.pointer (some ⟨q,0,none⟩))/\(s 3=true->(f 3)=.pointer (some ⟨q,0,none⟩))/\(s 4=true->(f 4)=.pointer (some ⟨q,2,none⟩))/\(s 5=true->(f 5)=.slice (some ⟨g,o,none⟩) x2.length c2)/\(s 6=true->(f 6)=.pointer (some ⟨r4,1,none⟩))/\(s 7=true->(f 7)=.int .i64 (m:Int))/\(s 8=true->(f 8)=.pointer (some ⟨g,o+m*5,none⟩))/\(s 9=true->(f 9)=.pointer (some ⟨g,o+m*5+3,none⟩))/\(s 10=true->(f 10)=.slice A3 it.length c3)/\(s 11=true->(f 11)=.int .i64 (it.length:Int))) [(0,some 45),(1,some 46),(2,some 47),(3,some 48),(4,some 49),(5,some 50),(6,some 51),(7,some 52),(8,some 53),(9,some 54),(10,some 55),(11,some 56),(12,some 57)] rfl aG aG ?hJ rfl ?hstep ?hlast
 case hJ=>exact fun u=>⟨bl,cS,cS,cS,cS,cS,cS,cS,cS,cS,cS,cS,cS⟩
 case hstep =>
  exact ahR
 case hlast =>
  simp only[gZ,Act.put,aa,ab,ae,af,ag,aj]
  intro uf wa ⟨s,fh,hJ⟩ K hK
  obtain⟨cQ,eU,eR,cI,cG,cN,cR,eQ,ef,dC,eh,dU,dt⟩:=hJ
  have CD:=eR (fh 1 aI)
  have tM:=dt (fh 11 aI)
  clear eU eR cI cG cN cR eQ ef dC eh dU dt fh
  rw[CD,tM]at hK |-
  go_simp
  refine hK.out _ _ ?_
  clear hK CD tM
  generalize uf 0=z0
  generalize uf 1=z1
  generalize uf 2=z2
  generalize uf 3=z3
  generalize uf 4=z4
  generalize uf 5=z5
  generalize uf 6=z6
  generalize uf 7=z7
  generalize uf 8=z8
  generalize uf 9=z9
  generalize uf 10=z10
  generalize uf 11=z11
  clear uf
  have nL:=cQ
  clear cQ
  by_cases hj:j<it.length
  case neg =>
   exact ahS
  have RR:=I (R2.out hj)
  have djn:decide ((it.length:Int)<=(j:Int))=false:=aH
  go_upto_region 12 with (fail)
  (try simp only[djn])
  (try rw[show decide (it.length<=j)=false from ax aF])
  clear djn
  have W2:=I (W1.out.on nL)
  have R4b:=I (R4.out.on nL)
  have qC:=I (R5.out.on nL)
  have Kf:=jg.trans nL
  have P2:=au hq nL.size
  clear W1 R4 R5 jg hq R1 R2 mo AV hg BI qw GM vD nL
  skip
  obtain⟨g,o,c2,g3,o3,c3,mo,AV,hg,Je,⟨BI,qw,GM,vD⟩,kH⟩:=W2.out.DY (aw hN Kf.size) hm hx hj
  unfold maxLen at qw vD
  have zm:=I kH
  have dj:decide ((j:Int)<(it.length:Int))=true:=aH
  clear kH
  obtain⟨wa0,SE⟩:∃x,wa=x:=⟨_,rfl⟩
  rw[SE]at W2 R4b qC Kf P2 mo AV hg Je zm |-
  clear SE wa
  refine ea 13 (fun s f wq=>(U wa0 wq)/\(s 0=true->(f 0)=.pointer (some ⟨q,0,none⟩))/\(s 1=true->(f 1)=.pointer (some ⟨q,0,none⟩))/\(s 2=true->(f 2)=.pointer (some ⟨q,2,none⟩))/\(s 3=true->(f 3)=.slice (some ⟨g,o,none⟩) x2.length c2)/\(s 4=true->(f 4)=.pointer (some ⟨r4,1,none⟩))/\(s 5=true->(f 5)=.int .i64 (m:Int))/\(s 6=true->(f 6)=.pointer (some ⟨g,o+m*5,none⟩))/\(s 7=true->(f 7)=.pointer (some ⟨g,o+m*5+3,none⟩))/\(s 8=true->(f 8)=.slice (some ⟨g3,o3,none⟩) it.length c3)/\(s 9=true->(f 9)=.pointer (some ⟨r4,2,none⟩))/\(s 10=true->(f 10)=.int .i64 (j:Int))/\(s 11=true->(f 11)=.agg #[.int .i64 vk,.int .i64 vn,.int .i64 vi,.string vt,.int .i64 vl,.int .i64 vh])/\(s 12=true->(f 12)=.pointer (some ⟨g3,o3+j*6,none⟩))) [(0,some 58),(1,some 59),(2,some 60),(3,some 61),(4,some 62),(5,some 63),(6,some 64),(7,some 65),(8,some 66),(9,some 67),(10,some 68),(11,some 69),(12,some 70),(13,none)] rfl aG aG ?hJ rfl ?hstep ?hlast
  case hJ=>exact fun u=>⟨bl,cS,cS,cS,cS,cS,cS,cS,cS,cS,cS,cS,cS,cS⟩
  case hstep =>
   exact ahU
  case hlast =>
   simp only[gZ,Act.put,aa,ab,ae,af,ag,aj]
   intro uf wa ⟨s,fh,hJ⟩ K hK
   obtain⟨cQ,cI,cG,cN,cR,eQ,ef,dC,eh,dU,eU,eR,dB,eu⟩:=hJ
   have ss:=eu (fh 12 aI)
   have ph:=dB (fh 11 aI)
   clear cI cG cN cR eQ ef dC eh dU eU eR dB eu fh
   rw[ss,ph]at hK |-
   obtain⟨yK,kH⟩:=zm.out wa cQ
   refine wp_store_mid 34 (.tmp 70) (.tmp 69) rfl g3 (o3+j*6) #[.int .i64 vk,.int .i64 vn,.int .i64 vi,.string vt,.int .i64 vl,.int .i64 vh] rfl rfl yK aG aW ?_
   exact Zm
theorem MR (n i:Int) (t:cx) (lo hi:Int) (s:O) (gf:eE s ⟨13,n,i,t,lo,hi⟩=true):KI 30 s ⟨13,n,i,t,lo,hi⟩:=by
 obtain⟨x0,x1,x2,x3,x4,x5,x6,x7,x8,x9,F,G,Z⟩:=s
 obtain⟨m,rfl,hm,-,oQ⟩:=jz gf aF
 have jh:=jr (gg gf) aF
 obtain⟨j,rfl⟩:=Int.eq_ofNat_of_zero_le jh
 have hj:=oQ aF
 clear gf oQ jh
 replace hm:m<x2.length:=hm
 obtain⟨k,tg,sr,it,ky,hx⟩:∃k tg sr it ky,x2[m]=.mk k tg sr it ky:=by cases x2[m];exact⟨_,_,_,_,_,rfl⟩
 replace hj:(j:Int)<((x2[m].items).length:Int):=hj
 rw[hx]at hj
 replace hj:j<it.length:=Int.ofNat_lt.1 hj
 have RR:=fun v:cC=>I (show lX (O.mk x0 x1 x2 x3 x4 x5 x6 x7 x8 x9 F G Z) ⟨13,m,j,t,lo,hi⟩ v=(O.mk x0 x1 (x2.set m (.mk k tg sr (it.set j v.tv) ky)) x3 x4 x5 x6 x7 x8 x9 F G Z,0) by unfold lX;dsimp only;rw[if_pos aJ];simp only[Int.toNat_natCast];unfold vm;rw[List.getD_eq_getElem?_getD,List.getElem?_eq_getElem hm,hx];rfl)
 intro v N q w vs L hW hN Ke hr hv j6
 have HV:=I hv
 obtain⟨vk,vn,vi,vt,vl,vh⟩:=v
 simp only[cC.val]
 have hq:=hW.lt
 have OS:=hW.lt
 have HW:=I hW
 clear hW hv
 go_enter func30,ntmps30
 go_upto_region 4 with (fail)
 refine cZ fun wr jO=>?_
 have jg:U w wr:=by rw[<-jO];exact bl
 have R4:=I (show V6 wr w.heap.size 13 m j t lo hi from by rw[<-jO];exact V6.on (V6.new w 34) (U.alloc (U.refl _) _))
 have R5:=I (show V6 wr (w.heap.size+1) vk vn vi vt vl vh from by rw[<-jO];have h:=V6.new (w.alloc (.cells #[.int .i64 13,.int .i64 m,.int .i64 j,.string t,.int .i64 lo,.int .i64 hi] 34)) 34 (k:=vk) (n:=vn) (i:=vi) (t:=vt) (lo:=vl) (hi:=vh);rw[World.size_alloc]at h;exact h)
 exact Zn
theorem MU (n i:Int) (t:cx) (lo hi:Int) (s:O) (gf:eE s ⟨16,n,i,t,lo,hi⟩=true):KI 30 s ⟨16,n,i,t,lo,hi⟩:=by
 obtain⟨x0,x1,x2,x3,x4,x5,x6,x7,x8,x9,F,G,Z⟩:=s
 obtain⟨m,rfl,hm,-,oQ⟩:=jz gf aF
 have jh:=jr (gg gf) aF
 obtain⟨j,rfl⟩:=Int.eq_ofNat_of_zero_le jh
 have hj:=oQ aF
 clear gf oQ jh
 replace hm:m<x2.length:=hm
 obtain⟨k,tg,sr,it,ky,hx⟩:∃k tg sr it ky,x2[m]=.mk k tg sr it ky:=by cases x2[m];exact⟨_,_,_,_,_,rfl⟩
 replace hj:(j:Int)<((x2[m].items).length:Int):=hj
 rw[hx]at hj
 replace hj:j<it.length:=Int.ofNat_lt.1 hj
 have RR:=fun v:cC=>I (show lX (O.mk x0 x1 x2 x3 x4 x5 x6 x7 x8 x9 F G Z) ⟨16,m,j,t,lo,hi⟩ v=(O.mk x0 x1 (x2.set m (.mk k tg sr (it.set j v.tv) ky)) x3 x4 x5 x6 x7 x8 x9 F G Z,0) by unfold lX;dsimp only;rw[if_pos aJ];simp only[Int.toNat_natCast];unfold vm;rw[List.getD_eq_getElem?_getD,List.getElem?_eq_getElem hm,hx];rfl)
 intro v N q w vs L hW hN Ke hr hv j6
 have HV:=I hv
 obtain⟨vk,vn,vi,vt,vl,vh⟩:=v
 simp only[cC.val]
 have hq:=hW.lt
 have OS:=hW.lt
 have HW:=I hW
 clear hW hv
 go_enter func30,ntmps30
 go_upto_region 4 with (fail)
 refine cZ fun wr jO=>?_
 have jg:U w wr:=by rw[<-jO];exact bl
 have R4:=I (show V6 wr w.heap.size 16 m j t lo hi from by rw[<-jO];exact V6.on (V6.new w 34) (U.alloc (U.refl _) _))
 have R5:=I (show V6 wr (w.heap.size+1) vk vn vi vt vl vh from by rw[<-jO];have h:=V6.new (w.alloc (.cells #[.int .i64 16,.int .i64 m,.int .i64 j,.string t,.int .i64 lo,.int .i64 hi] 34)) 34 (k:=vk) (n:=vn) (i:=vi) (t:=vt) (lo:=vl) (hi:=vh);rw[World.size_alloc]at h;exact h)
 exact Zn
theorem MS (n i:Int) (t:cx) (lo hi:Int) (s:O) (gf:eE s ⟨14,n,i,t,lo,hi⟩=true):KI 30 s ⟨14,n,i,t,lo,hi⟩:=by
 obtain⟨x0,x1,x2,x3,x4,x5,x6,x7,x8,x9,F,G,Z⟩:=s
 have jh:=jr (gg gf) aF
 obtain⟨j,rfl⟩:=Int.eq_ofNat_of_zero_le jh
 have hj:=BF gf
 clear gf jh
 replace hj:j<x3.length:=Int.ofNat_lt.1 hj
 have RR:=fun v:cC=>I (show lX (O.mk x0 x1 x2 x3 x4 x5 x6 x7 x8 x9 F G Z) ⟨14,n,j,t,lo,hi⟩ v=(O.mk x0 x1 x2 (x3.set j v.tv) x4 x5 x6 x7 x8 x9 F G Z,0) by unfold lX;dsimp only;rw[if_neg aJ,if_pos aJ];simp only[Int.toNat_natCast])
 intro v N q w vs L hW hN Ke hr hv j6
 have HV:=I hv
 obtain⟨vk,vn,vi,vt,vl,vh⟩:=v
 simp only[cC.val]
 have hq:=hW.lt
 have OS:=hW.lt
 have HW:=I hW
 clear hW hv
 go_enter func30,ntmps30
 go_upto_region 10 with (fail)
 refine cZ fun wr jO=>?_
 have jg:U w wr:=by rw[<-jO];exact bl
 have R4:=I (show V6 wr w.heap.size 14 n j t lo hi from by rw[<-jO];exact V6.on (V6.new w 34) (U.alloc (U.refl _) _))
 have R5:=I (show V6 wr (w.heap.size+1) vk vn vi vt vl vh from by rw[<-jO];have h:=V6.new (w.alloc (.cells #[.int .i64 14,.int .i64 n,.int .i64 j,.string t,.int .i64 lo,.int .i64 hi] 34)) 34 (k:=vk) (n:=vn) (i:=vi) (t:=vt) (lo:=vl) (hi:=vh);rw[World.size_alloc]at h;exact h)
 have W1:=I (HW.out.on jg)
 have hq:q<wr.heap.size:=au hq jg.size
 obtain⟨r4,nj⟩:∃x,w.heap.size=x:=⟨_,rfl⟩
 obtain⟨r5,nE⟩:∃x,w.heap.size+1=x:=⟨_,rfl⟩
 rw[nj]at R4
 rw[nE]at R5
 simp only[nE]
 simp only[nj]
 have HR4:=I nj
 have OT:=I nE
 clear jO nj nE
 replace RR:=RR (⟨vk,vn,vi,vt,vl,vh⟩:cC)
 obtain⟨g3,o3,c3,ahP,Je,⟨GM,vD⟩,kH⟩:=W1.out.XD (aw hN jg.size) hj
 unfold maxLen at vD
 have zm:=I kH
 have dj:decide ((j:Int)<(x3.length:Int))=true:=aH
 clear kH HW
 refine ea 8 (fun s f wq=>(U wr wq)/\(s 0=true->(f 0)=.pointer (some ⟨q,0,none⟩))/\(s 1=true->(f 1)=.pointer (some ⟨q,0,none⟩))/\(s 2=true->(f 2)=.pointer (some ⟨q,3,none⟩))/\(s 3=true->(f 3)=.slice (some ⟨g3,o3,none⟩) x3.length c3)/\(s 4=true->(f 4)=.pointer (some ⟨r4,2,none⟩))/\(s 5=true->(f 5)=.int .i64 (j:Int))/\(s 6=true->(f 6)=.agg #[.int .i64 vk,.int .i64 vn,.int .i64 vi,.string vt,.int .i64 vl,.int .i64 vh])/\(s 7=true->(f 7)=.pointer (some ⟨g3,o3+j*6,none⟩))) [(0,some 64),(1,some 65),(2,some 66),(3,some 67),(4,some 68),(5,some 69),(6,some 70),(7,some 71),(8,none)] rfl aG aG ?hJ rfl ?hstep ?hlast
 case hJ=>exact fun u=>⟨bl,cS,cS,cS,cS,cS,cS,cS,cS⟩
 case hstep =>
  exact ahQ
 case hlast =>
  simp only[gZ,Act.put,aa,ab,ae,af,ag,aj]
  intro uf wa ⟨s,fh,hJ⟩ K hK
  obtain⟨cQ,cI,cG,cN,dU,eU,eR,dB,eu⟩:=hJ
  have ss:=eu (fh 7 aI)
  have ph:=dB (fh 6 aI)
  clear cI cG cN dU eU eR dB eu fh
  rw[ss,ph]at hK |-
  obtain⟨yK,kH⟩:=zm.out wa cQ
  refine wp_store_mid 34 (.tmp 71) (.tmp 70) rfl g3 (o3+j*6) #[.int .i64 vk,.int .i64 vn,.int .i64 vi,.string vt,.int .i64 vl,.int .i64 vh] rfl rfl yK aG aW ?_
  exact Zl
theorem MT (n i:Int) (t:cx) (lo hi:Int) (s:O) (gf:eE s ⟨15,n,i,t,lo,hi⟩=true):KI 30 s ⟨15,n,i,t,lo,hi⟩:=by
 obtain⟨x0,x1,x2,x3,x4,x5,x6,x7,x8,x9,F,G,Z⟩:=s
 obtain⟨m,rfl,hm,-,-⟩:=jz gf aF
 have jh:=jr (gg gf) aF
 obtain⟨j,rfl⟩:=Int.eq_ofNat_of_zero_le jh
 clear gf jh
 replace hm:m<x2.length:=hm
 obtain⟨k,tg,sr,it,ky,hx⟩:∃k tg sr it ky,x2[m]=.mk k tg sr it ky:=by cases x2[m];exact⟨_,_,_,_,_,rfl⟩
 have Mg:x2.getD m nS=.mk k tg sr it ky:=by rw[List.getD_eq_getElem?_getD,List.getElem?_eq_getElem hm,hx];rfl
 have R1:=fun v:cC=>I (show it.length<=j->lX (O.mk x0 x1 x2 x3 x4 x5 x6 x7 x8 x9 F G Z) ⟨15,m,j,t,lo,hi⟩ v=((O.mk x0 x1 x2 x3 x4 x5 x6 x7 x8 x9 F G Z),205)from fun hj=>by unfold lX;dsimp only;rw[if_neg aJ,if_neg aJ,if_pos aJ];simp only[Int.toNat_natCast,Mg,cr.items];rw[if_pos aF])
 have R2:=fun v:cC=>I (show j<it.length->lX (O.mk x0 x1 x2 x3 x4 x5 x6 x7 x8 x9 F G Z) ⟨15,m,j,t,lo,hi⟩ v=(O.mk x0 x1 (x2.set m (.mk k tg sr (it.set j v.tv) ky)) x3 x4 x5 x6 x7 x8 x9 F G Z,0)from fun hj=>by unfold lX;dsimp only;rw[if_neg aJ,if_neg aJ,if_pos aJ];simp only[Int.toNat_natCast,Mg,cr.items];rw[if_neg aF];unfold vm;rw[Mg];rfl)
 clear Mg
 intro v N q w vs L hW hN Ke hr hv j6
 have HV:=I hv
 obtain⟨vk,vn,vi,vt,vl,vh⟩:=v
 simp only[cC.val]
 have hq:=hW.lt
 have OS:=hW.lt
 have HW:=I hW
 clear hW hv
 go_enter func30,ntmps30
 go_upto_region 6 with (fail)
 refine cZ fun wr jO=>?_
 have jg:U w wr:=by rw[<-jO];exact bl
 have R4:=I (show V6 wr w.heap.size 15 m j t lo hi from by rw[<-jO];exact V6.on (V6.new w 34) (U.alloc (U.refl _) _))
 have R5:=I (show V6 wr (w.heap.size+1) vk vn vi vt vl vh from by rw[<-jO];have h:=V6.new (w.alloc (.cells #[.int .i64 15,.int .i64 m,.int .i64 j,.string t,.int .i64 lo,.int .i64 hi] 34)) 34 (k:=vk) (n:=vn) (i:=vi) (t:=vt) (lo:=vl) (hi:=vh);rw[World.size_alloc]at h;exact h)
 have W1:=I (HW.out.on jg)
 have hq:q<wr.heap.size:=au hq jg.size
 obtain⟨r4,nj⟩:∃x,w.heap.size=x:=⟨_,rfl⟩
 obtain⟨r5,nE⟩:∃x,w.heap.size+1=x:=⟨_,rfl⟩
 rw[nj]at R4
 rw[nE]at R5
 simp only[nE]
 simp only[nj]
 have HR4:=I nj
 have OT:=I nE
 clear jO nj nE
 replace R1:=R1 (⟨vk,vn,vi,vt,vl,vh⟩:cC)
 replace R2:=R2 (⟨vk,vn,vi,vt,vl,vh⟩:cC)
 obtain⟨g,o,c2,A3,c3,L3,A4,c4,L4,mo,hg,-,-,-,⟨-,-,-,AV,-⟩,q3,-,-,-,-,-,⟨BI,qw⟩,-⟩:=W1.out.lists (aw hN jg.size) hm hx
 have GM:=q3.1
 have vD:=q3.2.1
 rw[ar]at GM
 unfold maxLen at qw vD
 have dm:decide ((m:Int)<(x2.length:Int))=true:=aH
 clear HW q3
 refine ea 12 (fun s f wq=>(U wr wq)/\(s 0=true->(f 0)=.pointer (some ⟨r4,2,none⟩))/\(s 1=true->(f 1)=.int .i64 (j:Int))/\(s 2=true->(f 2)=.pointer (some ⟨q,0,none⟩))/\(s 3=true->(f 3)=.pointer (some ⟨q,0,none⟩))/\(s 4=true->(f 4)=.pointer (some ⟨q,2,none⟩))/\(s 5=true->(f 5)=.slice (some ⟨g,o,none⟩) x2.length c2)/\(s 6=true->(f 6)=.pointer (some ⟨r4,1,none⟩))/\(s 7=true->(f 7)=.int .i64 (m:Int))/\(s 8=true->(f 8)=.pointer (some ⟨g,o+m*5,none⟩))/\(s 9=true->(f 9)=.pointer (some ⟨g,o+m*5+3,none⟩))/\(s 10=true->(f 10)=.slice A3 it.length c3)/\(s 11=true->(f 11)=.int .i64 (it.length:Int))) [(0,some 36),(1,some 37),(2,some 38),(3,some 39),(4,some 40),(5,some 41),(6,some 42),(7,some 43),(8,some 44),(9,some 45),(10,some 46),(11,some 47),(12,some 48)] rfl aG aG ?hJ rfl ?hstep ?hlast
 case hJ=>exact fun u=>⟨bl,cS,cS,cS,cS,cS,cS,cS,cS,cS,cS,cS,cS⟩
 case hstep =>
  exact ahR
 case hlast =>
  simp only[gZ,Act.put,aa,ab,ae,af,ag,aj]
  intro uf wa ⟨s,fh,hJ⟩ K hK
  obtain⟨cQ,eU,eR,cI,cG,cN,cR,eQ,ef,dC,eh,dU,dt⟩:=hJ
  have CD:=eR (fh 1 aI)
  have tM:=dt (fh 11 aI)
  clear eU eR cI cG cN cR eQ ef dC eh dU dt fh
  rw[CD,tM]at hK |-
  go_simp
  refine hK.out _ _ ?_
  clear hK CD tM
  generalize uf 0=z0
  generalize uf 1=z1
  generalize uf 2=z2
  generalize uf 3=z3
  generalize uf 4=z4
  generalize uf 5=z5
  generalize uf 6=z6
  generalize uf 7=z7
  generalize uf 8=z8
  generalize uf 9=z9
  generalize uf 10=z10
  generalize uf 11=z11
  clear uf
  have nL:=cQ
  clear cQ
  by_cases hj:j<it.length
  case neg =>
   exact ahS
  have RR:=I (R2.out hj)
  have djn:decide ((it.length:Int)<=(j:Int))=false:=aH
  go_upto_region 8 with (fail)
  (try simp only[djn])
  (try rw[show decide (it.length<=j)=false from ax aF])
  clear djn
  have W2:=I (W1.out.on nL)
  have R4b:=I (R4.out.on nL)
  have qC:=I (R5.out.on nL)
  have Kf:=jg.trans nL
  have P2:=au hq nL.size
  clear W1 R4 R5 jg hq R1 R2 mo AV hg BI qw GM vD nL
  skip
  obtain⟨g,o,c2,g3,o3,c3,mo,AV,hg,Je,⟨BI,qw,GM,vD⟩,kH⟩:=W2.out.DY (aw hN Kf.size) hm hx hj
  unfold maxLen at qw vD
  have zm:=I kH
  have dj:decide ((j:Int)<(it.length:Int))=true:=aH
  clear kH
  obtain⟨wa0,SE⟩:∃x,wa=x:=⟨_,rfl⟩
  rw[SE]at W2 R4b qC Kf P2 mo AV hg Je zm |-
  clear SE wa
  refine ea 13 (fun s f wq=>(U wa0 wq)/\(s 0=true->(f 0)=.pointer (some ⟨q,0,none⟩))/\(s 1=true->(f 1)=.pointer (some ⟨q,0,none⟩))/\(s 2=true->(f 2)=.pointer (some ⟨q,2,none⟩))/\(s 3=true->(f 3)=.slice (some ⟨g,o,none⟩) x2.length c2)/\(s 4=true->(f 4)=.pointer (some ⟨r4,1,none⟩))/\(s 5=true->(f 5)=.int .i64 (m:Int))/\(s 6=true->(f 6)=.pointer (some ⟨g,o+m*5,none⟩))/\(s 7=true->(f 7)=.pointer (some ⟨g,o+m*5+3,none⟩))/\(s 8=true->(f 8)=.slice (some ⟨g3,o3,none⟩) it.length c3)/\(s 9=true->(f 9)=.pointer (some ⟨r4,2,none⟩))/\(s 10=true->(f 10)=.int .i64 (j:Int))/\(s 11=true->(f 11)=.agg #[.int .i64 vk,.int .i64 vn,.int .i64 vi,.string vt,.int .i64 vl,.int .i64 vh])/\(s 12=true->(f 12)=.pointer (some ⟨g3,o3+j*6,none⟩))) [(0,some 49),(1,some 50),(2,some 51),(3,some 52),(4,some 53),(5,some 54),(6,some 55),(7,some 56),(8,some 57),(9,some 58),(10,some 59),(11,some 60),(12,some 61),(13,none)] rfl aG aG ?hJ rfl ?hstep ?hlast
  case hJ=>exact fun u=>⟨bl,cS,cS,cS,cS,cS,cS,cS,cS,cS,cS,cS,cS,cS⟩
  case hstep =>
   exact ahU
  case hlast =>
   simp only[gZ,Act.put,aa,ab,ae,af,ag,aj]
   intro uf wa ⟨s,fh,hJ⟩ K hK
   obtain⟨cQ,cI,cG,cN,cR,eQ,ef,dC,eh,dU,eU,eR,dB,eu⟩:=hJ
   have ss:=eu (fh 12 aI)
   have ph:=dB (fh 11 aI)
   clear cI cG cN cR eQ ef dC eh dU eU eR dB eu fh
   rw[ss,ph]at hK |-
   obtain⟨yK,kH⟩:=zm.out wa cQ
   refine wp_store_mid 34 (.tmp 61) (.tmp 60) rfl g3 (o3+j*6) #[.int .i64 vk,.int .i64 vn,.int .i64 vi,.string vt,.int .i64 vl,.int .i64 vh] rfl rfl yK aG aW ?_
   exact Zm
end Go.Proofs.YtjngkknbpfgdcaaGreatDoor
