import Derived.Test.YtjngkknbpfgdcaaGreatDoorPr
import Derived.Test.YtjngkknbpfgdcaaGreatDoorPWr0
import Derived.Test.YtjngkknbpfgdcaaGreatDoorPK2b
import Derived.Test.YtjngkknbpfgdcaaGreatDoorPNb
set_option linter.unusedVariables false
set_option linter.unusedSimpArgs false
set_option maxRecDepth 100000
set_option maxHeartbeats 8000000
namespace Go.Proofs.YtjngkknbpfgdcaaGreatDoor
open Go.RowKit
def WrP (N:Nat) (w:World) (q:Nat) (s:cv) (r v:cV) (e:Ending) (w':World):Prop :=
 e=.returned (.int .i64 (mi s r v).2)/\(∃vs L,WO N w' q (mi s r v).1 vs L)/\lK N w w'
abbrev I3 (f:FuncId) (s:cv) (r:cV):Prop:=∀(v:cV) (N q:Nat) (w:World) (vs:List Value) (L:List Nat),WO N w q s vs L->N<=w.heap.size->N<=q->r.Ok->v.Ok->Se w->Calls Tryz.prog f #[.pointer (some ⟨q,0,none⟩),r.val,v.val] w (WrP N w q s r v)
theorem J8 (n i:Int) (t:ByteArray) (lo hi:Int) (s:cv) (hin:inB s ⟨13,n,i,t,lo,hi⟩=true):I3 34 s ⟨13,n,i,t,lo,hi⟩:=by
 obtain⟨x0,x1,x2,x3,x4,x5,x6,x7,x8,x9,x10,x11,x12⟩:=s
 obtain⟨m,rfl,hm,-,hi1⟩:=qk hin aB
 have hi0:=mP (lB hin) aB
 obtain⟨j,rfl⟩:=Int.eq_ofNat_of_zero_le hi0
 have hj:=hi1 aB
 clear hin hi1 hi0
 replace hm:m<x2.length:=hm
 obtain⟨k,tg,sr,it,ky,hx⟩:∃k tg sr it ky,x2[m]=.mk k tg sr it ky:=by cases x2[m];exact⟨_,_,_,_,_,rfl⟩
 replace hj:(j:Int)<((x2[m].items).length:Int):=hj
 rw[hx]at hj
 replace hj:j<it.length:=Int.ofNat_lt.1 hj
 have RR:=fun v:cV=>hide (show mi (cv.mk x0 x1 x2 x3 x4 x5 x6 x7 x8 x9 x10 x11 x12) ⟨13,m,j,t,lo,hi⟩ v=(cv.mk x0 x1 (x2.set m (.mk k tg sr (it.set j v.tv) ky)) x3 x4 x5 x6 x7 x8 x9 x10 x11 x12,0) by unfold mi;dsimp only;rw[if_pos aK];simp only[Int.toNat_natCast];unfold xr;rw[List.getD_eq_getElem?_getD,List.getElem?_eq_getElem hm,hx];rfl)
 intro v N q w vs L hW hN hNq hr hv htab
 have HV:=hide hv
 obtain⟨vk,vn,vi,vt,vl,vh⟩:=v
 simp only[cV.val]
 have hq:=hW.lt
 have hq0:=hW.lt
 have HW:=hide hW
 clear hW hv
 go_enter Tryz.func34,Tryz.ntmps34
 go_upto_region 4 with (fail)
 refine dO fun wr hwr=>?_
 have hbr:cE w wr:=by rw[<-hwr];exact bl
 have R4:=hide (show V6 wr w.heap.size 13 m j t lo hi from by rw[<-hwr];exact V6.on (V6.new w 34) (cE.alloc (cE.refl _) _))
 have R5:=hide (show V6 wr (w.heap.size+1) vk vn vi vt vl vh from by rw[<-hwr];have h:=V6.new (w.alloc (.cells #[.int .i64 13,.int .i64 m,.int .i64 j,.string t,.int .i64 lo,.int .i64 hi] 34)) 34 (k:=vk) (n:=vn) (i:=vi) (t:=vt) (lo:=vl) (hi:=vh);rw[World.size_alloc]at h;exact h)
 exact afa
theorem Kb (n i:Int) (t:ByteArray) (lo hi:Int) (s:cv) (hin:inB s ⟨16,n,i,t,lo,hi⟩=true):I3 34 s ⟨16,n,i,t,lo,hi⟩:=by
 obtain⟨x0,x1,x2,x3,x4,x5,x6,x7,x8,x9,x10,x11,x12⟩:=s
 obtain⟨m,rfl,hm,-,hi1⟩:=qk hin aB
 have hi0:=mP (lB hin) aB
 obtain⟨j,rfl⟩:=Int.eq_ofNat_of_zero_le hi0
 have hj:=hi1 aB
 clear hin hi1 hi0
 replace hm:m<x2.length:=hm
 obtain⟨k,tg,sr,it,ky,hx⟩:∃k tg sr it ky,x2[m]=.mk k tg sr it ky:=by cases x2[m];exact⟨_,_,_,_,_,rfl⟩
 replace hj:(j:Int)<((x2[m].items).length:Int):=hj
 rw[hx]at hj
 replace hj:j<it.length:=Int.ofNat_lt.1 hj
 have RR:=fun v:cV=>hide (show mi (cv.mk x0 x1 x2 x3 x4 x5 x6 x7 x8 x9 x10 x11 x12) ⟨16,m,j,t,lo,hi⟩ v=(cv.mk x0 x1 (x2.set m (.mk k tg sr (it.set j v.tv) ky)) x3 x4 x5 x6 x7 x8 x9 x10 x11 x12,0) by unfold mi;dsimp only;rw[if_pos aK];simp only[Int.toNat_natCast];unfold xr;rw[List.getD_eq_getElem?_getD,List.getElem?_eq_getElem hm,hx];rfl)
 intro v N q w vs L hW hN hNq hr hv htab
 have HV:=hide hv
 obtain⟨vk,vn,vi,vt,vl,vh⟩:=v
 simp only[cV.val]
 have hq:=hW.lt
 have hq0:=hW.lt
 have HW:=hide hW
 clear hW hv
 go_enter Tryz.func34,Tryz.ntmps34
 go_upto_region 4 with (fail)
 refine dO fun wr hwr=>?_
 have hbr:cE w wr:=by rw[<-hwr];exact bl
 have R4:=hide (show V6 wr w.heap.size 16 m j t lo hi from by rw[<-hwr];exact V6.on (V6.new w 34) (cE.alloc (cE.refl _) _))
 have R5:=hide (show V6 wr (w.heap.size+1) vk vn vi vt vl vh from by rw[<-hwr];have h:=V6.new (w.alloc (.cells #[.int .i64 16,.int .i64 m,.int .i64 j,.string t,.int .i64 lo,.int .i64 hi] 34)) 34 (k:=vk) (n:=vn) (i:=vi) (t:=vt) (lo:=vl) (hi:=vh);rw[World.size_alloc]at h;exact h)
 exact afa
theorem J9 (n i:Int) (t:ByteArray) (lo hi:Int) (s:cv) (hin:inB s ⟨14,n,i,t,lo,hi⟩=true):I3 34 s ⟨14,n,i,t,lo,hi⟩:=by
 obtain⟨x0,x1,x2,x3,x4,x5,x6,x7,x8,x9,x10,x11,x12⟩:=s
 have hi0:=mP (lB hin) aB
 obtain⟨j,rfl⟩:=Int.eq_ofNat_of_zero_le hi0
 have hj:=Ow hin
 clear hin hi0
 replace hj:j<x3.length:=Int.ofNat_lt.1 hj
 have RR:=fun v:cV=>hide (show mi (cv.mk x0 x1 x2 x3 x4 x5 x6 x7 x8 x9 x10 x11 x12) ⟨14,n,j,t,lo,hi⟩ v=(cv.mk x0 x1 x2 (x3.set j v.tv) x4 x5 x6 x7 x8 x9 x10 x11 x12,0) by unfold mi;dsimp only;rw[if_neg aK,if_pos aK];simp only[Int.toNat_natCast])
 intro v N q w vs L hW hN hNq hr hv htab
 have HV:=hide hv
 obtain⟨vk,vn,vi,vt,vl,vh⟩:=v
 simp only[cV.val]
 have hq:=hW.lt
 have hq0:=hW.lt
 have HW:=hide hW
 clear hW hv
 go_enter Tryz.func34,Tryz.ntmps34
 go_upto_region 7 with (fail)
 refine dO fun wr hwr=>?_
 have hbr:cE w wr:=by rw[<-hwr];exact bl
 have R4:=hide (show V6 wr w.heap.size 14 n j t lo hi from by rw[<-hwr];exact V6.on (V6.new w 34) (cE.alloc (cE.refl _) _))
 have R5:=hide (show V6 wr (w.heap.size+1) vk vn vi vt vl vh from by rw[<-hwr];have h:=V6.new (w.alloc (.cells #[.int .i64 14,.int .i64 n,.int .i64 j,.string t,.int .i64 lo,.int .i64 hi] 34)) 34 (k:=vk) (n:=vn) (i:=vi) (t:=vt) (lo:=vl) (hi:=vh);rw[World.size_alloc]at h;exact h)
 have W1:=hide (HW.out.on hbr)
 have hq:q<wr.heap.size:=ak hq hbr.size
 obtain⟨r4,hr4⟩:∃x,w.heap.size=x:=⟨_,rfl⟩
 obtain⟨r5,nt⟩:∃x,w.heap.size+1=x:=⟨_,rfl⟩
 rw[hr4]at R4
 rw[nt]at R5
 simp only[nt]
 simp only[hr4]
 have HR4:=hide hr4
 have TG:=hide nt
 clear hwr hr4 nt
 replace RR:=RR (⟨vk,vn,vi,vt,vl,vh⟩:cV)
 obtain⟨g3,o3,c3,afb,hg3,⟨hc3,sK⟩,hput⟩:=W1.out.X7 (al hN hbr.size) hj
 unfold maxLen at sK
 have yp:=hide hput
 have dj:decide ((j:Int)<(x3.length:Int))=true:=aD
 clear hput HW
 refine eP 8 (fun s f wq=>(cE wr wq)/\(s 0=true->(f 0)=.pointer (some ⟨q,0,none⟩))/\(s 1=true->(f 1)=.pointer (some ⟨q,0,none⟩))/\(s 2=true->(f 2)=.pointer (some ⟨q,3,none⟩))/\(s 3=true->(f 3)=.slice (some ⟨g3,o3,none⟩) x3.length c3)/\(s 4=true->(f 4)=.pointer (some ⟨r4,2,none⟩))/\(s 5=true->(f 5)=.int .i64 (j:Int))/\(s 6=true->(f 6)=.agg #[.int .i64 vk,.int .i64 vn,.int .i64 vi,.string vt,.int .i64 vl,.int .i64 vh])/\(s 7=true->(f 7)=.pointer (some ⟨g3,o3+j*6,none⟩))) [(0,some 35),(1,some 36),(2,some 37),(3,some 38),(4,some 39),(5,some 40),(6,some 41),(7,some 42),(8,none)] rfl aC aC ?hJ rfl ?hstep ?hlast
 case hJ=>exact fun u=>⟨bl,(fun h=>absurd h ai),(fun h=>absurd h ai),(fun h=>absurd h ai),(fun h=>absurd h ai),(fun h=>absurd h ai),(fun h=>absurd h ai),(fun h=>absurd h ai),(fun h=>absurd h ai)⟩
 case hstep =>
  exact afc
 case hlast =>
  simp only[iT,Act.put,aa,ab,ae,af,ag,ah]
  intro uf wa ⟨s,hall,hJ⟩ K hK
  obtain⟨dt,cQ,cT,dh,ei,fw,fm,dC,eO⟩:=hJ
  have ry:=eO (hall 7 aF)
  have mZ:=dC (hall 6 aF)
  clear cQ cT dh ei fw fm dC eO hall
  rw[ry,mZ]at hK |-
  obtain⟨hth,hput⟩:=yp.out wa dt
  refine wp_store_mid 34 (.tmp 42) (.tmp 41) rfl g3 (o3+j*6) #[.int .i64 vk,.int .i64 vn,.int .i64 vi,.string vt,.int .i64 vl,.int .i64 vh] rfl rfl hth aC bm ?_
  exact X9
theorem Ka (n i:Int) (t:ByteArray) (lo hi:Int) (s:cv) (hin:inB s ⟨15,n,i,t,lo,hi⟩=true):I3 34 s ⟨15,n,i,t,lo,hi⟩:=by
 obtain⟨x0,x1,x2,x3,x4,x5,x6,x7,x8,x9,x10,x11,x12⟩:=s
 obtain⟨m,rfl,hm,-,-⟩:=qk hin aB
 have hi0:=mP (lB hin) aB
 obtain⟨j,rfl⟩:=Int.eq_ofNat_of_zero_le hi0
 clear hin hi0
 replace hm:m<x2.length:=hm
 obtain⟨k,tg,sr,it,ky,hx⟩:∃k tg sr it ky,x2[m]=.mk k tg sr it ky:=by cases x2[m];exact⟨_,_,_,_,_,rfl⟩
 have hgd:x2.getD m ph=.mk k tg sr it ky:=by rw[List.getD_eq_getElem?_getD,List.getElem?_eq_getElem hm,hx];rfl
 have R1:=fun v:cV=>hide (show it.length<=j->mi (cv.mk x0 x1 x2 x3 x4 x5 x6 x7 x8 x9 x10 x11 x12) ⟨15,m,j,t,lo,hi⟩ v=((cv.mk x0 x1 x2 x3 x4 x5 x6 x7 x8 x9 x10 x11 x12),205)from fun hj=>by unfold mi;dsimp only;rw[if_neg aK,if_neg aK,if_pos aK];simp only[Int.toNat_natCast,hgd,cz.items];rw[if_pos aB])
 have R2:=fun v:cV=>hide (show j<it.length->mi (cv.mk x0 x1 x2 x3 x4 x5 x6 x7 x8 x9 x10 x11 x12) ⟨15,m,j,t,lo,hi⟩ v=(cv.mk x0 x1 (x2.set m (.mk k tg sr (it.set j v.tv) ky)) x3 x4 x5 x6 x7 x8 x9 x10 x11 x12,0)from fun hj=>by unfold mi;dsimp only;rw[if_neg aK,if_neg aK,if_pos aK];simp only[Int.toNat_natCast,hgd,cz.items];rw[if_neg aB];unfold xr;rw[hgd];rfl)
 clear hgd
 intro v N q w vs L hW hN hNq hr hv htab
 have HV:=hide hv
 obtain⟨vk,vn,vi,vt,vl,vh⟩:=v
 simp only[cV.val]
 have hq:=hW.lt
 have hq0:=hW.lt
 have HW:=hide hW
 clear hW hv
 go_enter Tryz.func34,Tryz.ntmps34
 go_upto_region 10 with (fail)
 refine dO fun wr hwr=>?_
 have hbr:cE w wr:=by rw[<-hwr];exact bl
 have R4:=hide (show V6 wr w.heap.size 15 m j t lo hi from by rw[<-hwr];exact V6.on (V6.new w 34) (cE.alloc (cE.refl _) _))
 have R5:=hide (show V6 wr (w.heap.size+1) vk vn vi vt vl vh from by rw[<-hwr];have h:=V6.new (w.alloc (.cells #[.int .i64 15,.int .i64 m,.int .i64 j,.string t,.int .i64 lo,.int .i64 hi] 34)) 34 (k:=vk) (n:=vn) (i:=vi) (t:=vt) (lo:=vl) (hi:=vh);rw[World.size_alloc]at h;exact h)
 have W1:=hide (HW.out.on hbr)
 have hq:q<wr.heap.size:=ak hq hbr.size
 obtain⟨r4,hr4⟩:∃x,w.heap.size=x:=⟨_,rfl⟩
 obtain⟨r5,nt⟩:∃x,w.heap.size+1=x:=⟨_,rfl⟩
 rw[hr4]at R4
 rw[nt]at R5
 simp only[nt]
 simp only[hr4]
 have HR4:=hide hr4
 have TG:=hide nt
 clear hwr hr4 nt
 replace R1:=R1 (⟨vk,vn,vi,vt,vl,vh⟩:cV)
 replace R2:=R2 (⟨vk,vn,vi,vt,vl,vh⟩:cV)
 obtain⟨g,o,c2,A3,c3,L3,A4,c4,L4,lN,hg,-,-,-,⟨-,-,-,zE,-⟩,q3,-,-,-,-,-,⟨hc2,hm2⟩,-⟩:=W1.out.lists (al hN hbr.size) hm hx
 have hc3:=q3.1
 have sK:=q3.2.1
 rw[aj]at hc3
 unfold maxLen at hm2 sK
 have dm:decide ((m:Int)<(x2.length:Int))=true:=aD
 clear HW q3
 refine eP 12 (fun s f wq=>(cE wr wq)/\(s 0=true->(f 0)=.pointer (some ⟨r4,2,none⟩))/\(s 1=true->(f 1)=.int .i64 (j:Int))/\(s 2=true->(f 2)=.pointer (some ⟨q,0,none⟩))/\(s 3=true->(f 3)=.pointer (some ⟨q,0,none⟩))/\(s 4=true->(f 4)=.pointer (some ⟨q,2,none⟩))/\(s 5=true->(f 5)=.slice (some ⟨g,o,none⟩) x2.length c2)/\(s 6=true->(f 6)=.pointer (some ⟨r4,1,none⟩))/\(s 7=true->(f 7)=.int .i64 (m:Int))/\(s 8=true->(f 8)=.pointer (some ⟨g,o+m*5,none⟩))/\(s 9=true->(f 9)=.pointer (some ⟨g,o+m*5+3,none⟩))/\(s 10=true->(f 10)=.slice A3 it.length c3)/\(s 11=true->(f 11)=.int .i64 (it.length:Int))) [(0,some 45),(1,some 46),(2,some 47),(3,some 48),(4,some 49),(5,some 50),(6,some 51),(7,some 52),(8,some 53),(9,some 54),(10,some 55),(11,some 56),(12,some 57)] rfl aC aC ?hJ rfl ?hstep ?hlast
 case hJ=>exact fun u=>⟨bl,(fun h=>absurd h ai),(fun h=>absurd h ai),(fun h=>absurd h ai),(fun h=>absurd h ai),(fun h=>absurd h ai),(fun h=>absurd h ai),(fun h=>absurd h ai),(fun h=>absurd h ai),(fun h=>absurd h ai),(fun h=>absurd h ai),(fun h=>absurd h ai),(fun h=>absurd h ai)⟩
 case hstep =>
  exact afd
 case hlast =>
  simp only[iT,Act.put,aa,ab,ae,af,ag,ah]
  intro uf wa ⟨s,hall,hJ⟩ K hK
  obtain⟨dt,fw,fm,cQ,cT,dh,du,fi,fj,dM,eD,ei,dX⟩:=hJ
  have Bg:=fm (hall 1 aF)
  have wY:=dX (hall 11 aF)
  clear fw fm cQ cT dh du fi fj dM eD ei dX hall
  rw[Bg,wY]at hK |-
  go_simp
  refine hK.out _ _ ?_
  clear hK Bg wY
  generalize uf 0=z0
  generalize uf 1=z1
  generalize uf 2=z2
  generalize uf 3=z3
  generalize uf 4=z4
  generalize uf 5=z5
  generalize uf 6=z6
  generalize uf 7=z7
  generalize uf 8=z8
  generalize uf 9=z9
  generalize uf 10=z10
  generalize uf 11=z11
  clear uf
  have hba:=dt
  clear dt
  by_cases hj:j<it.length
  case neg =>
   exact afe
  have RR:=hide (R2.out hj)
  have djn:decide ((it.length:Int)<=(j:Int))=false:=aD
  go_upto_region 12 with (fail)
  (try simp only[djn])
  (try rw[show decide (it.length<=j)=false from aq aB])
  clear djn
  have W2:=hide (W1.out.on hba)
  have Z5:=hide (R4.out.on hba)
  have pW:=hide (R5.out.on hba)
  have Ib:=hbr.trans hba
  have hq2:=ak hq hba.size
  clear W1 R4 R5 hbr hq R1 R2 lN zE hg hc2 hm2 hc3 sK hba
  skip
  obtain⟨g,o,c2,g3,o3,c3,lN,zE,hg,hg3,⟨hc2,hm2,hc3,sK⟩,hput⟩:=W2.out.CI (al hN Ib.size) hm hx hj
  unfold maxLen at hm2 sK
  have yp:=hide hput
  have dj:decide ((j:Int)<(it.length:Int))=true:=aD
  clear hput
  obtain⟨wa0,QS⟩:∃x,wa=x:=⟨_,rfl⟩
  rw[QS]at W2 Z5 pW Ib hq2 lN zE hg hg3 yp |-
  clear QS wa
  refine eP 13 (fun s f wq=>(cE wa0 wq)/\(s 0=true->(f 0)=.pointer (some ⟨q,0,none⟩))/\(s 1=true->(f 1)=.pointer (some ⟨q,0,none⟩))/\(s 2=true->(f 2)=.pointer (some ⟨q,2,none⟩))/\(s 3=true->(f 3)=.slice (some ⟨g,o,none⟩) x2.length c2)/\(s 4=true->(f 4)=.pointer (some ⟨r4,1,none⟩))/\(s 5=true->(f 5)=.int .i64 (m:Int))/\(s 6=true->(f 6)=.pointer (some ⟨g,o+m*5,none⟩))/\(s 7=true->(f 7)=.pointer (some ⟨g,o+m*5+3,none⟩))/\(s 8=true->(f 8)=.slice (some ⟨g3,o3,none⟩) it.length c3)/\(s 9=true->(f 9)=.pointer (some ⟨r4,2,none⟩))/\(s 10=true->(f 10)=.int .i64 (j:Int))/\(s 11=true->(f 11)=.agg #[.int .i64 vk,.int .i64 vn,.int .i64 vi,.string vt,.int .i64 vl,.int .i64 vh])/\(s 12=true->(f 12)=.pointer (some ⟨g3,o3+j*6,none⟩))) [(0,some 58),(1,some 59),(2,some 60),(3,some 61),(4,some 62),(5,some 63),(6,some 64),(7,some 65),(8,some 66),(9,some 67),(10,some 68),(11,some 69),(12,some 70),(13,none)] rfl aC aC ?hJ rfl ?hstep ?hlast
  case hJ=>exact fun u=>⟨bl,(fun h=>absurd h ai),(fun h=>absurd h ai),(fun h=>absurd h ai),(fun h=>absurd h ai),(fun h=>absurd h ai),(fun h=>absurd h ai),(fun h=>absurd h ai),(fun h=>absurd h ai),(fun h=>absurd h ai),(fun h=>absurd h ai),(fun h=>absurd h ai),(fun h=>absurd h ai),(fun h=>absurd h ai)⟩
  case hstep =>
   exact afg
  case hlast =>
   simp only[iT,Act.put,aa,ab,ae,af,ag,ah]
   intro uf wa ⟨s,hall,hJ⟩ K hK
   obtain⟨dt,cQ,cT,dh,du,fi,fj,dM,eD,ei,fw,fm,dC,eO⟩:=hJ
   have ry:=eO (hall 12 aF)
   have mZ:=dC (hall 11 aF)
   clear cQ cT dh du fi fj dM eD ei fw fm dC eO hall
   rw[ry,mZ]at hK |-
   obtain⟨hth,hput⟩:=yp.out wa dt
   refine wp_store_mid 34 (.tmp 70) (.tmp 69) rfl g3 (o3+j*6) #[.int .i64 vk,.int .i64 vn,.int .i64 vi,.string vt,.int .i64 vl,.int .i64 vh] rfl rfl hth aC bm ?_
   exact Ya
theorem Ke (n i:Int) (t:ByteArray) (lo hi:Int) (s:cv) (hin:inB s ⟨13,n,i,t,lo,hi⟩=true):I3 30 s ⟨13,n,i,t,lo,hi⟩:=by
 obtain⟨x0,x1,x2,x3,x4,x5,x6,x7,x8,x9,x10,x11,x12⟩:=s
 obtain⟨m,rfl,hm,-,hi1⟩:=qk hin aB
 have hi0:=mP (lB hin) aB
 obtain⟨j,rfl⟩:=Int.eq_ofNat_of_zero_le hi0
 have hj:=hi1 aB
 clear hin hi1 hi0
 replace hm:m<x2.length:=hm
 obtain⟨k,tg,sr,it,ky,hx⟩:∃k tg sr it ky,x2[m]=.mk k tg sr it ky:=by cases x2[m];exact⟨_,_,_,_,_,rfl⟩
 replace hj:(j:Int)<((x2[m].items).length:Int):=hj
 rw[hx]at hj
 replace hj:j<it.length:=Int.ofNat_lt.1 hj
 have RR:=fun v:cV=>hide (show mi (cv.mk x0 x1 x2 x3 x4 x5 x6 x7 x8 x9 x10 x11 x12) ⟨13,m,j,t,lo,hi⟩ v=(cv.mk x0 x1 (x2.set m (.mk k tg sr (it.set j v.tv) ky)) x3 x4 x5 x6 x7 x8 x9 x10 x11 x12,0) by unfold mi;dsimp only;rw[if_pos aK];simp only[Int.toNat_natCast];unfold xr;rw[List.getD_eq_getElem?_getD,List.getElem?_eq_getElem hm,hx];rfl)
 intro v N q w vs L hW hN hNq hr hv htab
 have HV:=hide hv
 obtain⟨vk,vn,vi,vt,vl,vh⟩:=v
 simp only[cV.val]
 have hq:=hW.lt
 have hq0:=hW.lt
 have HW:=hide hW
 clear hW hv
 go_enter Tryz.func30,Tryz.ntmps30
 go_upto_region 4 with (fail)
 refine dO fun wr hwr=>?_
 have hbr:cE w wr:=by rw[<-hwr];exact bl
 have R4:=hide (show V6 wr w.heap.size 13 m j t lo hi from by rw[<-hwr];exact V6.on (V6.new w 34) (cE.alloc (cE.refl _) _))
 have R5:=hide (show V6 wr (w.heap.size+1) vk vn vi vt vl vh from by rw[<-hwr];have h:=V6.new (w.alloc (.cells #[.int .i64 13,.int .i64 m,.int .i64 j,.string t,.int .i64 lo,.int .i64 hi] 34)) 34 (k:=vk) (n:=vn) (i:=vi) (t:=vt) (lo:=vl) (hi:=vh);rw[World.size_alloc]at h;exact h)
 exact afh
theorem Kh (n i:Int) (t:ByteArray) (lo hi:Int) (s:cv) (hin:inB s ⟨16,n,i,t,lo,hi⟩=true):I3 30 s ⟨16,n,i,t,lo,hi⟩:=by
 obtain⟨x0,x1,x2,x3,x4,x5,x6,x7,x8,x9,x10,x11,x12⟩:=s
 obtain⟨m,rfl,hm,-,hi1⟩:=qk hin aB
 have hi0:=mP (lB hin) aB
 obtain⟨j,rfl⟩:=Int.eq_ofNat_of_zero_le hi0
 have hj:=hi1 aB
 clear hin hi1 hi0
 replace hm:m<x2.length:=hm
 obtain⟨k,tg,sr,it,ky,hx⟩:∃k tg sr it ky,x2[m]=.mk k tg sr it ky:=by cases x2[m];exact⟨_,_,_,_,_,rfl⟩
 replace hj:(j:Int)<((x2[m].items).length:Int):=hj
 rw[hx]at hj
 replace hj:j<it.length:=Int.ofNat_lt.1 hj
 have RR:=fun v:cV=>hide (show mi (cv.mk x0 x1 x2 x3 x4 x5 x6 x7 x8 x9 x10 x11 x12) ⟨16,m,j,t,lo,hi⟩ v=(cv.mk x0 x1 (x2.set m (.mk k tg sr (it.set j v.tv) ky)) x3 x4 x5 x6 x7 x8 x9 x10 x11 x12,0) by unfold mi;dsimp only;rw[if_pos aK];simp only[Int.toNat_natCast];unfold xr;rw[List.getD_eq_getElem?_getD,List.getElem?_eq_getElem hm,hx];rfl)
 intro v N q w vs L hW hN hNq hr hv htab
 have HV:=hide hv
 obtain⟨vk,vn,vi,vt,vl,vh⟩:=v
 simp only[cV.val]
 have hq:=hW.lt
 have hq0:=hW.lt
 have HW:=hide hW
 clear hW hv
 go_enter Tryz.func30,Tryz.ntmps30
 go_upto_region 4 with (fail)
 refine dO fun wr hwr=>?_
 have hbr:cE w wr:=by rw[<-hwr];exact bl
 have R4:=hide (show V6 wr w.heap.size 16 m j t lo hi from by rw[<-hwr];exact V6.on (V6.new w 34) (cE.alloc (cE.refl _) _))
 have R5:=hide (show V6 wr (w.heap.size+1) vk vn vi vt vl vh from by rw[<-hwr];have h:=V6.new (w.alloc (.cells #[.int .i64 16,.int .i64 m,.int .i64 j,.string t,.int .i64 lo,.int .i64 hi] 34)) 34 (k:=vk) (n:=vn) (i:=vi) (t:=vt) (lo:=vl) (hi:=vh);rw[World.size_alloc]at h;exact h)
 exact afh
theorem Kf (n i:Int) (t:ByteArray) (lo hi:Int) (s:cv) (hin:inB s ⟨14,n,i,t,lo,hi⟩=true):I3 30 s ⟨14,n,i,t,lo,hi⟩:=by
 obtain⟨x0,x1,x2,x3,x4,x5,x6,x7,x8,x9,x10,x11,x12⟩:=s
 have hi0:=mP (lB hin) aB
 obtain⟨j,rfl⟩:=Int.eq_ofNat_of_zero_le hi0
 have hj:=Ow hin
 clear hin hi0
 replace hj:j<x3.length:=Int.ofNat_lt.1 hj
 have RR:=fun v:cV=>hide (show mi (cv.mk x0 x1 x2 x3 x4 x5 x6 x7 x8 x9 x10 x11 x12) ⟨14,n,j,t,lo,hi⟩ v=(cv.mk x0 x1 x2 (x3.set j v.tv) x4 x5 x6 x7 x8 x9 x10 x11 x12,0) by unfold mi;dsimp only;rw[if_neg aK,if_pos aK];simp only[Int.toNat_natCast])
 intro v N q w vs L hW hN hNq hr hv htab
 have HV:=hide hv
 obtain⟨vk,vn,vi,vt,vl,vh⟩:=v
 simp only[cV.val]
 have hq:=hW.lt
 have hq0:=hW.lt
 have HW:=hide hW
 clear hW hv
 go_enter Tryz.func30,Tryz.ntmps30
 go_upto_region 10 with (fail)
 refine dO fun wr hwr=>?_
 have hbr:cE w wr:=by rw[<-hwr];exact bl
 have R4:=hide (show V6 wr w.heap.size 14 n j t lo hi from by rw[<-hwr];exact V6.on (V6.new w 34) (cE.alloc (cE.refl _) _))
 have R5:=hide (show V6 wr (w.heap.size+1) vk vn vi vt vl vh from by rw[<-hwr];have h:=V6.new (w.alloc (.cells #[.int .i64 14,.int .i64 n,.int .i64 j,.string t,.int .i64 lo,.int .i64 hi] 34)) 34 (k:=vk) (n:=vn) (i:=vi) (t:=vt) (lo:=vl) (hi:=vh);rw[World.size_alloc]at h;exact h)
 have W1:=hide (HW.out.on hbr)
 have hq:q<wr.heap.size:=ak hq hbr.size
 obtain⟨r4,hr4⟩:∃x,w.heap.size=x:=⟨_,rfl⟩
 obtain⟨r5,nt⟩:∃x,w.heap.size+1=x:=⟨_,rfl⟩
 rw[hr4]at R4
 rw[nt]at R5
 simp only[nt]
 simp only[hr4]
 have HR4:=hide hr4
 have TG:=hide nt
 clear hwr hr4 nt
 replace RR:=RR (⟨vk,vn,vi,vt,vl,vh⟩:cV)
 obtain⟨g3,o3,c3,afb,hg3,⟨hc3,sK⟩,hput⟩:=W1.out.X7 (al hN hbr.size) hj
 unfold maxLen at sK
 have yp:=hide hput
 have dj:decide ((j:Int)<(x3.length:Int))=true:=aD
 clear hput HW
 refine eP 8 (fun s f wq=>(cE wr wq)/\(s 0=true->(f 0)=.pointer (some ⟨q,0,none⟩))/\(s 1=true->(f 1)=.pointer (some ⟨q,0,none⟩))/\(s 2=true->(f 2)=.pointer (some ⟨q,3,none⟩))/\(s 3=true->(f 3)=.slice (some ⟨g3,o3,none⟩) x3.length c3)/\(s 4=true->(f 4)=.pointer (some ⟨r4,2,none⟩))/\(s 5=true->(f 5)=.int .i64 (j:Int))/\(s 6=true->(f 6)=.agg #[.int .i64 vk,.int .i64 vn,.int .i64 vi,.string vt,.int .i64 vl,.int .i64 vh])/\(s 7=true->(f 7)=.pointer (some ⟨g3,o3+j*6,none⟩))) [(0,some 64),(1,some 65),(2,some 66),(3,some 67),(4,some 68),(5,some 69),(6,some 70),(7,some 71),(8,none)] rfl aC aC ?hJ rfl ?hstep ?hlast
 case hJ=>exact fun u=>⟨bl,(fun h=>absurd h ai),(fun h=>absurd h ai),(fun h=>absurd h ai),(fun h=>absurd h ai),(fun h=>absurd h ai),(fun h=>absurd h ai),(fun h=>absurd h ai),(fun h=>absurd h ai)⟩
 case hstep =>
  exact afc
 case hlast =>
  simp only[iT,Act.put,aa,ab,ae,af,ag,ah]
  intro uf wa ⟨s,hall,hJ⟩ K hK
  obtain⟨dt,cQ,cT,dh,ei,fw,fm,dC,eO⟩:=hJ
  have ry:=eO (hall 7 aF)
  have mZ:=dC (hall 6 aF)
  clear cQ cT dh ei fw fm dC eO hall
  rw[ry,mZ]at hK |-
  obtain⟨hth,hput⟩:=yp.out wa dt
  refine wp_store_mid 34 (.tmp 71) (.tmp 70) rfl g3 (o3+j*6) #[.int .i64 vk,.int .i64 vn,.int .i64 vi,.string vt,.int .i64 vl,.int .i64 vh] rfl rfl hth aC bm ?_
  exact X9
theorem Kg (n i:Int) (t:ByteArray) (lo hi:Int) (s:cv) (hin:inB s ⟨15,n,i,t,lo,hi⟩=true):I3 30 s ⟨15,n,i,t,lo,hi⟩:=by
 obtain⟨x0,x1,x2,x3,x4,x5,x6,x7,x8,x9,x10,x11,x12⟩:=s
 obtain⟨m,rfl,hm,-,-⟩:=qk hin aB
 have hi0:=mP (lB hin) aB
 obtain⟨j,rfl⟩:=Int.eq_ofNat_of_zero_le hi0
 clear hin hi0
 replace hm:m<x2.length:=hm
 obtain⟨k,tg,sr,it,ky,hx⟩:∃k tg sr it ky,x2[m]=.mk k tg sr it ky:=by cases x2[m];exact⟨_,_,_,_,_,rfl⟩
 have hgd:x2.getD m ph=.mk k tg sr it ky:=by rw[List.getD_eq_getElem?_getD,List.getElem?_eq_getElem hm,hx];rfl
 have R1:=fun v:cV=>hide (show it.length<=j->mi (cv.mk x0 x1 x2 x3 x4 x5 x6 x7 x8 x9 x10 x11 x12) ⟨15,m,j,t,lo,hi⟩ v=((cv.mk x0 x1 x2 x3 x4 x5 x6 x7 x8 x9 x10 x11 x12),205)from fun hj=>by unfold mi;dsimp only;rw[if_neg aK,if_neg aK,if_pos aK];simp only[Int.toNat_natCast,hgd,cz.items];rw[if_pos aB])
 have R2:=fun v:cV=>hide (show j<it.length->mi (cv.mk x0 x1 x2 x3 x4 x5 x6 x7 x8 x9 x10 x11 x12) ⟨15,m,j,t,lo,hi⟩ v=(cv.mk x0 x1 (x2.set m (.mk k tg sr (it.set j v.tv) ky)) x3 x4 x5 x6 x7 x8 x9 x10 x11 x12,0)from fun hj=>by unfold mi;dsimp only;rw[if_neg aK,if_neg aK,if_pos aK];simp only[Int.toNat_natCast,hgd,cz.items];rw[if_neg aB];unfold xr;rw[hgd];rfl)
 clear hgd
 intro v N q w vs L hW hN hNq hr hv htab
 have HV:=hide hv
 obtain⟨vk,vn,vi,vt,vl,vh⟩:=v
 simp only[cV.val]
 have hq:=hW.lt
 have hq0:=hW.lt
 have HW:=hide hW
 clear hW hv
 go_enter Tryz.func30,Tryz.ntmps30
 go_upto_region 6 with (fail)
 refine dO fun wr hwr=>?_
 have hbr:cE w wr:=by rw[<-hwr];exact bl
 have R4:=hide (show V6 wr w.heap.size 15 m j t lo hi from by rw[<-hwr];exact V6.on (V6.new w 34) (cE.alloc (cE.refl _) _))
 have R5:=hide (show V6 wr (w.heap.size+1) vk vn vi vt vl vh from by rw[<-hwr];have h:=V6.new (w.alloc (.cells #[.int .i64 15,.int .i64 m,.int .i64 j,.string t,.int .i64 lo,.int .i64 hi] 34)) 34 (k:=vk) (n:=vn) (i:=vi) (t:=vt) (lo:=vl) (hi:=vh);rw[World.size_alloc]at h;exact h)
 have W1:=hide (HW.out.on hbr)
 have hq:q<wr.heap.size:=ak hq hbr.size
 obtain⟨r4,hr4⟩:∃x,w.heap.size=x:=⟨_,rfl⟩
 obtain⟨r5,nt⟩:∃x,w.heap.size+1=x:=⟨_,rfl⟩
 rw[hr4]at R4
 rw[nt]at R5
 simp only[nt]
 simp only[hr4]
 have HR4:=hide hr4
 have TG:=hide nt
 clear hwr hr4 nt
 replace R1:=R1 (⟨vk,vn,vi,vt,vl,vh⟩:cV)
 replace R2:=R2 (⟨vk,vn,vi,vt,vl,vh⟩:cV)
 obtain⟨g,o,c2,A3,c3,L3,A4,c4,L4,lN,hg,-,-,-,⟨-,-,-,zE,-⟩,q3,-,-,-,-,-,⟨hc2,hm2⟩,-⟩:=W1.out.lists (al hN hbr.size) hm hx
 have hc3:=q3.1
 have sK:=q3.2.1
 rw[aj]at hc3
 unfold maxLen at hm2 sK
 have dm:decide ((m:Int)<(x2.length:Int))=true:=aD
 clear HW q3
 refine eP 12 (fun s f wq=>(cE wr wq)/\(s 0=true->(f 0)=.pointer (some ⟨r4,2,none⟩))/\(s 1=true->(f 1)=.int .i64 (j:Int))/\(s 2=true->(f 2)=.pointer (some ⟨q,0,none⟩))/\(s 3=true->(f 3)=.pointer (some ⟨q,0,none⟩))/\(s 4=true->(f 4)=.pointer (some ⟨q,2,none⟩))/\(s 5=true->(f 5)=.slice (some ⟨g,o,none⟩) x2.length c2)/\(s 6=true->(f 6)=.pointer (some ⟨r4,1,none⟩))/\(s 7=true->(f 7)=.int .i64 (m:Int))/\(s 8=true->(f 8)=.pointer (some ⟨g,o+m*5,none⟩))/\(s 9=true->(f 9)=.pointer (some ⟨g,o+m*5+3,none⟩))/\(s 10=true->(f 10)=.slice A3 it.length c3)/\(s 11=true->(f 11)=.int .i64 (it.length:Int))) [(0,some 36),(1,some 37),(2,some 38),(3,some 39),(4,some 40),(5,some 41),(6,some 42),(7,some 43),(8,some 44),(9,some 45),(10,some 46),(11,some 47),(12,some 48)] rfl aC aC ?hJ rfl ?hstep ?hlast
 case hJ=>exact fun u=>⟨bl,(fun h=>absurd h ai),(fun h=>absurd h ai),(fun h=>absurd h ai),(fun h=>absurd h ai),(fun h=>absurd h ai),(fun h=>absurd h ai),(fun h=>absurd h ai),(fun h=>absurd h ai),(fun h=>absurd h ai),(fun h=>absurd h ai),(fun h=>absurd h ai),(fun h=>absurd h ai)⟩
 case hstep =>
  exact afd
 case hlast =>
  simp only[iT,Act.put,aa,ab,ae,af,ag,ah]
  intro uf wa ⟨s,hall,hJ⟩ K hK
  obtain⟨dt,fw,fm,cQ,cT,dh,du,fi,fj,dM,eD,ei,dX⟩:=hJ
  have Bg:=fm (hall 1 aF)
  have wY:=dX (hall 11 aF)
  clear fw fm cQ cT dh du fi fj dM eD ei dX hall
  rw[Bg,wY]at hK |-
  go_simp
  refine hK.out _ _ ?_
  clear hK Bg wY
  generalize uf 0=z0
  generalize uf 1=z1
  generalize uf 2=z2
  generalize uf 3=z3
  generalize uf 4=z4
  generalize uf 5=z5
  generalize uf 6=z6
  generalize uf 7=z7
  generalize uf 8=z8
  generalize uf 9=z9
  generalize uf 10=z10
  generalize uf 11=z11
  clear uf
  have hba:=dt
  clear dt
  by_cases hj:j<it.length
  case neg =>
   exact afe
  have RR:=hide (R2.out hj)
  have djn:decide ((it.length:Int)<=(j:Int))=false:=aD
  go_upto_region 8 with (fail)
  (try simp only[djn])
  (try rw[show decide (it.length<=j)=false from aq aB])
  clear djn
  have W2:=hide (W1.out.on hba)
  have Z5:=hide (R4.out.on hba)
  have pW:=hide (R5.out.on hba)
  have Ib:=hbr.trans hba
  have hq2:=ak hq hba.size
  clear W1 R4 R5 hbr hq R1 R2 lN zE hg hc2 hm2 hc3 sK hba
  skip
  obtain⟨g,o,c2,g3,o3,c3,lN,zE,hg,hg3,⟨hc2,hm2,hc3,sK⟩,hput⟩:=W2.out.CI (al hN Ib.size) hm hx hj
  unfold maxLen at hm2 sK
  have yp:=hide hput
  have dj:decide ((j:Int)<(it.length:Int))=true:=aD
  clear hput
  obtain⟨wa0,QS⟩:∃x,wa=x:=⟨_,rfl⟩
  rw[QS]at W2 Z5 pW Ib hq2 lN zE hg hg3 yp |-
  clear QS wa
  refine eP 13 (fun s f wq=>(cE wa0 wq)/\(s 0=true->(f 0)=.pointer (some ⟨q,0,none⟩))/\(s 1=true->(f 1)=.pointer (some ⟨q,0,none⟩))/\(s 2=true->(f 2)=.pointer (some ⟨q,2,none⟩))/\(s 3=true->(f 3)=.slice (some ⟨g,o,none⟩) x2.length c2)/\(s 4=true->(f 4)=.pointer (some ⟨r4,1,none⟩))/\(s 5=true->(f 5)=.int .i64 (m:Int))/\(s 6=true->(f 6)=.pointer (some ⟨g,o+m*5,none⟩))/\(s 7=true->(f 7)=.pointer (some ⟨g,o+m*5+3,none⟩))/\(s 8=true->(f 8)=.slice (some ⟨g3,o3,none⟩) it.length c3)/\(s 9=true->(f 9)=.pointer (some ⟨r4,2,none⟩))/\(s 10=true->(f 10)=.int .i64 (j:Int))/\(s 11=true->(f 11)=.agg #[.int .i64 vk,.int .i64 vn,.int .i64 vi,.string vt,.int .i64 vl,.int .i64 vh])/\(s 12=true->(f 12)=.pointer (some ⟨g3,o3+j*6,none⟩))) [(0,some 49),(1,some 50),(2,some 51),(3,some 52),(4,some 53),(5,some 54),(6,some 55),(7,some 56),(8,some 57),(9,some 58),(10,some 59),(11,some 60),(12,some 61),(13,none)] rfl aC aC ?hJ rfl ?hstep ?hlast
  case hJ=>exact fun u=>⟨bl,(fun h=>absurd h ai),(fun h=>absurd h ai),(fun h=>absurd h ai),(fun h=>absurd h ai),(fun h=>absurd h ai),(fun h=>absurd h ai),(fun h=>absurd h ai),(fun h=>absurd h ai),(fun h=>absurd h ai),(fun h=>absurd h ai),(fun h=>absurd h ai),(fun h=>absurd h ai),(fun h=>absurd h ai)⟩
  case hstep =>
   exact afg
  case hlast =>
   simp only[iT,Act.put,aa,ab,ae,af,ag,ah]
   intro uf wa ⟨s,hall,hJ⟩ K hK
   obtain⟨dt,cQ,cT,dh,du,fi,fj,dM,eD,ei,fw,fm,dC,eO⟩:=hJ
   have ry:=eO (hall 12 aF)
   have mZ:=dC (hall 11 aF)
   clear cQ cT dh du fi fj dM eD ei fw fm dC eO hall
   rw[ry,mZ]at hK |-
   obtain⟨hth,hput⟩:=yp.out wa dt
   refine wp_store_mid 34 (.tmp 61) (.tmp 60) rfl g3 (o3+j*6) #[.int .i64 vk,.int .i64 vn,.int .i64 vi,.string vt,.int .i64 vl,.int .i64 vh] rfl rfl hth aC bm ?_
   exact Ya
end Go.Proofs.YtjngkknbpfgdcaaGreatDoor
