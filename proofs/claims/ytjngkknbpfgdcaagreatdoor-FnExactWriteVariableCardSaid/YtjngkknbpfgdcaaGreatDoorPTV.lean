import Derived.Test.YtjngkknbpfgdcaaGreatDoorPB
set_option linter.unusedVariables false
set_option linter.unusedSimpArgs false
set_option maxRecDepth 100000
set_option maxHeartbeats 8000000
namespace Go.Proofs.YtjngkknbpfgdcaaGreatDoor
open Go.ChangeShapes Go.WideShapes Go.RowKit Go.Deep
inductive cA where
 | mk (Name:ByteArray) (Fields:List ByteArray) (Line:Int)
def cA.D:cA->List Dat
 | .mk x0 x1 x2=>[.str x0,.row 1 (x1.map fun x=>[.str x]),.int x2]
theorem cA.fU {x0:ByteArray} {x1:List ByteArray} {x2:Int}:(cA.mk x0 x1 x2).D=[.str x0,.row 1 (x1.map fun x=>[.str x]),.int x2]:=by
 simp only[cA.D]
theorem cA.oO:∀t:cA,t.D.length=3
 | .mk x0 x1 x2=>by rw[cA.fU];rfl
theorem cA.vals {w:World} {S:Nat->Prop} {x0:ByteArray} {x1:List ByteArray} {x2:Int} {vs:List Value} (h:Dat.cC w S (cA.mk x0 x1 x2).D vs):∃zB zC,vs=[.string x0,.slice zB x1.length zC,.int .i64 x2]/\x0.size<=maxLen/\Row w S 1 zB zC (x1.map fun x=>[.str x])/\fD x2:=by
 rw[cA.fU]at h
 match vs,h with
 | [u0,u1,u2],h =>
  obtain⟨h0,h1,h2,-⟩:=h
  obtain⟨rfl,g0⟩:=Dat.gz.1 h0
  obtain⟨zB,zC,rfl,g1⟩:=Dat.fo.1 h1
  obtain⟨rfl,g2⟩:=Dat.dA.1 h2
  exact⟨zB,zC,by simp only[aj],g0,g1,g2⟩
theorem cA.jk {w:World} {S:Nat->Prop} {x0:ByteArray} {x1:List ByteArray} {x2:Int} {zB:Option Addr} {zC:Nat} (h0:x0.size<=maxLen) (h1:Row w S 1 zB zC (x1.map fun x=>[.str x])) (h2:fD x2):Dat.cC w S (cA.mk x0 x1 x2).D [.string x0,.slice zB x1.length zC,.int .i64 x2]:=by
 rw[cA.fU]
 exact⟨Dat.gz.2 ⟨rfl,h0⟩,Dat.fo.2 ⟨_,_,by simp only[aj],h1⟩,Dat.dA.2 ⟨rfl,h2⟩,trivial⟩
theorem cA.at {w:World} {S:Nat->Prop} {A:Option Addr} {c:Nat} {l:List cA} (h:Row w S 3 A c (l.map cA.D)) (i:Nat) (hi:i<l.length) :
  ∃b o x0 x1 x2 zB zC,A=some ⟨b,o,none⟩/\S b/\b<w.heap.size/\l[i]=.mk x0 x1 x2/\Dat.cC w S l[i].D [.string x0,.slice zB x1.length zC,.int .i64 x2]/\x0.size<=maxLen/\Row w S 1 zB zC (x1.map fun x=>[.str x])/\fD x2/\w.cell? ⟨b,o+i*3,none⟩=some (.string x0)/\w.cell? ⟨b,o+i*3+1,none⟩=some (.slice zB x1.length zC)/\w.cell? ⟨b,o+i*3+2,none⟩=some (.int .i64 x2):=by
 obtain⟨b,o,vs,hA,hS,hb,hv,hl,hc⟩:=Row.at h i br
 rw[List.getElem_map]at hv
 obtain⟨x0,x1,x2,hx⟩:∃x0 x1 x2,l[i]=.mk x0 x1 x2:=by cases l[i];exact⟨_,_,_,rfl⟩
 have hv2:=hv
 rw[hx]at hv2
 obtain⟨zB,zC,rfl,g0,g1,g2⟩:=cA.vals hv2
 exact⟨b,o,_,_,_,_,_,hA,hS,hb,hx,hv,g0,g1,g2,by simpa using hc 0 aF,by simpa using hc 1 aF,by simpa using hc 2 aF⟩
inductive cw where
 | mk (Kind:Int) (Number:Int) (Index:Int) (Text:ByteArray) (YQ:Int) (Sr:Int)
def cw.D:cw->List Dat
 | .mk x0 x1 x2 x3 x4 x5=>[.int x0,.int x1,.int x2,.str x3,.int x4,.int x5]
theorem cw.fU {x0:Int} {x1:Int} {x2:Int} {x3:ByteArray} {x4:Int} {x5:Int}:(cw.mk x0 x1 x2 x3 x4 x5).D=[.int x0,.int x1,.int x2,.str x3,.int x4,.int x5]:=by
 simp only[cw.D]
theorem cw.oO:∀t:cw,t.D.length=6
 | .mk x0 x1 x2 x3 x4 x5=>by rw[cw.fU];rfl
theorem cw.vals {w:World} {S:Nat->Prop} {x0:Int} {x1:Int} {x2:Int} {x3:ByteArray} {x4:Int} {x5:Int} {vs:List Value} (h:Dat.cC w S (cw.mk x0 x1 x2 x3 x4 x5).D vs):vs=[.int .i64 x0,.int .i64 x1,.int .i64 x2,.string x3,.int .i64 x4,.int .i64 x5]/\fD x0/\fD x1/\fD x2/\x3.size<=maxLen/\fD x4/\fD x5:=by
 rw[cw.fU]at h
 match vs,h with
 | [u0,u1,u2,u3,u4,u5],h =>
  obtain⟨h0,h1,h2,h3,h4,h5,-⟩:=h
  obtain⟨rfl,g0⟩:=Dat.dA.1 h0
  obtain⟨rfl,g1⟩:=Dat.dA.1 h1
  obtain⟨rfl,g2⟩:=Dat.dA.1 h2
  obtain⟨rfl,g3⟩:=Dat.gz.1 h3
  obtain⟨rfl,g4⟩:=Dat.dA.1 h4
  obtain⟨rfl,g5⟩:=Dat.dA.1 h5
  exact⟨rfl,g0,g1,g2,g3,g4,g5⟩
theorem cw.jk {w:World} {S:Nat->Prop} {x0:Int} {x1:Int} {x2:Int} {x3:ByteArray} {x4:Int} {x5:Int} (h0:fD x0) (h1:fD x1) (h2:fD x2) (h3:x3.size<=maxLen) (h4:fD x4) (h5:fD x5):Dat.cC w S (cw.mk x0 x1 x2 x3 x4 x5).D [.int .i64 x0,.int .i64 x1,.int .i64 x2,.string x3,.int .i64 x4,.int .i64 x5]:=by
 rw[cw.fU]
 exact⟨Dat.dA.2 ⟨rfl,h0⟩,Dat.dA.2 ⟨rfl,h1⟩,Dat.dA.2 ⟨rfl,h2⟩,Dat.gz.2 ⟨rfl,h3⟩,Dat.dA.2 ⟨rfl,h4⟩,Dat.dA.2 ⟨rfl,h5⟩,trivial⟩
theorem cw.at {w:World} {S:Nat->Prop} {A:Option Addr} {c:Nat} {l:List cw} (h:Row w S 6 A c (l.map cw.D)) (i:Nat) (hi:i<l.length) :
  ∃b o x0 x1 x2 x3 x4 x5,A=some ⟨b,o,none⟩/\S b/\b<w.heap.size/\l[i]=.mk x0 x1 x2 x3 x4 x5/\Dat.cC w S l[i].D [.int .i64 x0,.int .i64 x1,.int .i64 x2,.string x3,.int .i64 x4,.int .i64 x5]/\fD x0/\fD x1/\fD x2/\x3.size<=maxLen/\fD x4/\fD x5/\w.cell? ⟨b,o+i*6,none⟩=some (.int .i64 x0)/\w.cell? ⟨b,o+i*6+1,none⟩=some (.int .i64 x1)/\w.cell? ⟨b,o+i*6+2,none⟩=some (.int .i64 x2)/\w.cell? ⟨b,o+i*6+3,none⟩=some (.string x3)/\w.cell? ⟨b,o+i*6+4,none⟩=some (.int .i64 x4)/\w.cell? ⟨b,o+i*6+5,none⟩=some (.int .i64 x5):=by
 obtain⟨b,o,vs,hA,hS,hb,hv,hl,hc⟩:=Row.at h i br
 rw[List.getElem_map]at hv
 obtain⟨x0,x1,x2,x3,x4,x5,hx⟩:∃x0 x1 x2 x3 x4 x5,l[i]=.mk x0 x1 x2 x3 x4 x5:=by cases l[i];exact⟨_,_,_,_,_,_,rfl⟩
 have hv2:=hv
 rw[hx]at hv2
 obtain⟨rfl,g0,g1,g2,g3,g4,g5⟩:=cw.vals hv2
 exact⟨b,o,_,_,_,_,_,_,hA,hS,hb,hx,hv,g0,g1,g2,g3,g4,g5,by simpa using hc 0 aF,by simpa using hc 1 aF,by simpa using hc 2 aF,by simpa using hc 3 aF,by simpa using hc 4 aF,by simpa using hc 5 aF⟩
inductive cz where
 | mk (Kind:Int) (Tag:Int) (ahR:Int) (Items:List cw) (Keys:List cw)
def cz.D:cz->List Dat
 | .mk x0 x1 x2 x3 x4=>[.int x0,.int x1,.int x2,.row 6 (x3.map cw.D),.row 6 (x4.map cw.D)]
theorem cz.fU {x0:Int} {x1:Int} {x2:Int} {x3:List cw} {x4:List cw}:(cz.mk x0 x1 x2 x3 x4).D=[.int x0,.int x1,.int x2,.row 6 (x3.map cw.D),.row 6 (x4.map cw.D)]:=by
 simp only[cz.D]
theorem cz.oO:∀t:cz,t.D.length=5
 | .mk x0 x1 x2 x3 x4=>by rw[cz.fU];rfl
theorem cz.vals {w:World} {S:Nat->Prop} {x0:Int} {x1:Int} {x2:Int} {x3:List cw} {x4:List cw} {vs:List Value} (h:Dat.cC w S (cz.mk x0 x1 x2 x3 x4).D vs):∃sD sE Mp Mq,vs=[.int .i64 x0,.int .i64 x1,.int .i64 x2,.slice sD x3.length sE,.slice Mp x4.length Mq]/\fD x0/\fD x1/\fD x2/\Row w S 6 sD sE (x3.map cw.D)/\Row w S 6 Mp Mq (x4.map cw.D):=by
 rw[cz.fU]at h
 match vs,h with
 | [u0,u1,u2,u3,u4],h =>
  obtain⟨h0,h1,h2,h3,h4,-⟩:=h
  obtain⟨rfl,g0⟩:=Dat.dA.1 h0
  obtain⟨rfl,g1⟩:=Dat.dA.1 h1
  obtain⟨rfl,g2⟩:=Dat.dA.1 h2
  obtain⟨sD,sE,rfl,g3⟩:=Dat.fo.1 h3
  obtain⟨Mp,Mq,rfl,g4⟩:=Dat.fo.1 h4
  exact⟨sD,sE,Mp,Mq,by simp only[aj],g0,g1,g2,g3,g4⟩
theorem cz.jk {w:World} {S:Nat->Prop} {x0:Int} {x1:Int} {x2:Int} {x3:List cw} {x4:List cw} {sD:Option Addr} {sE:Nat} {Mp:Option Addr} {Mq:Nat} (h0:fD x0) (h1:fD x1) (h2:fD x2) (h3:Row w S 6 sD sE (x3.map cw.D)) (h4:Row w S 6 Mp Mq (x4.map cw.D)):Dat.cC w S (cz.mk x0 x1 x2 x3 x4).D [.int .i64 x0,.int .i64 x1,.int .i64 x2,.slice sD x3.length sE,.slice Mp x4.length Mq]:=by
 rw[cz.fU]
 exact⟨Dat.dA.2 ⟨rfl,h0⟩,Dat.dA.2 ⟨rfl,h1⟩,Dat.dA.2 ⟨rfl,h2⟩,Dat.fo.2 ⟨_,_,by simp only[aj],h3⟩,Dat.fo.2 ⟨_,_,by simp only[aj],h4⟩,trivial⟩
theorem cz.at {w:World} {S:Nat->Prop} {A:Option Addr} {c:Nat} {l:List cz} (h:Row w S 5 A c (l.map cz.D)) (i:Nat) (hi:i<l.length) :
  ∃b o x0 x1 x2 x3 x4 sD sE Mp Mq,A=some ⟨b,o,none⟩/\S b/\b<w.heap.size/\l[i]=.mk x0 x1 x2 x3 x4/\Dat.cC w S l[i].D [.int .i64 x0,.int .i64 x1,.int .i64 x2,.slice sD x3.length sE,.slice Mp x4.length Mq]/\fD x0/\fD x1/\fD x2/\Row w S 6 sD sE (x3.map cw.D)/\Row w S 6 Mp Mq (x4.map cw.D)/\w.cell? ⟨b,o+i*5,none⟩=some (.int .i64 x0)/\w.cell? ⟨b,o+i*5+1,none⟩=some (.int .i64 x1)/\w.cell? ⟨b,o+i*5+2,none⟩=some (.int .i64 x2)/\w.cell? ⟨b,o+i*5+3,none⟩=some (.slice sD x3.length sE)/\w.cell? ⟨b,o+i*5+4,none⟩=some (.slice Mp x4.length Mq):=by
 obtain⟨b,o,vs,hA,hS,hb,hv,hl,hc⟩:=Row.at h i br
 rw[List.getElem_map]at hv
 obtain⟨x0,x1,x2,x3,x4,hx⟩:∃x0 x1 x2 x3 x4,l[i]=.mk x0 x1 x2 x3 x4:=by cases l[i];exact⟨_,_,_,_,_,rfl⟩
 have hv2:=hv
 rw[hx]at hv2
 obtain⟨sD,sE,Mp,Mq,rfl,g0,g1,g2,g3,g4⟩:=cz.vals hv2
 exact⟨b,o,_,_,_,_,_,_,_,_,_,hA,hS,hb,hx,hv,g0,g1,g2,g3,g4,by simpa using hc 0 aF,by simpa using hc 1 aF,by simpa using hc 2 aF,by simpa using hc 3 aF,by simpa using hc 4 aF⟩
inductive cJ where
 | mk (af4:Int) (Frame:Int)
def cJ.D:cJ->List Dat
 | .mk x0 x1=>[.int x0,.int x1]
theorem cJ.fU {x0:Int} {x1:Int}:(cJ.mk x0 x1).D=[.int x0,.int x1]:=by
 simp only[cJ.D]
theorem cJ.oO:∀t:cJ,t.D.length=2
 | .mk x0 x1=>by rw[cJ.fU];rfl
theorem cJ.vals {w:World} {S:Nat->Prop} {x0:Int} {x1:Int} {vs:List Value} (h:Dat.cC w S (cJ.mk x0 x1).D vs):vs=[.int .i64 x0,.int .i64 x1]/\fD x0/\fD x1:=by
 rw[cJ.fU]at h
 match vs,h with
 | [u0,u1],h =>
  obtain⟨h0,h1,-⟩:=h
  obtain⟨rfl,g0⟩:=Dat.dA.1 h0
  obtain⟨rfl,g1⟩:=Dat.dA.1 h1
  exact⟨rfl,g0,g1⟩
theorem cJ.jk {w:World} {S:Nat->Prop} {x0:Int} {x1:Int} (h0:fD x0) (h1:fD x1):Dat.cC w S (cJ.mk x0 x1).D [.int .i64 x0,.int .i64 x1]:=by
 rw[cJ.fU]
 exact⟨Dat.dA.2 ⟨rfl,h0⟩,Dat.dA.2 ⟨rfl,h1⟩,trivial⟩
theorem cJ.at {w:World} {S:Nat->Prop} {A:Option Addr} {c:Nat} {l:List cJ} (h:Row w S 2 A c (l.map cJ.D)) (i:Nat) (hi:i<l.length) :
  ∃b o x0 x1,A=some ⟨b,o,none⟩/\S b/\b<w.heap.size/\l[i]=.mk x0 x1/\Dat.cC w S l[i].D [.int .i64 x0,.int .i64 x1]/\fD x0/\fD x1/\w.cell? ⟨b,o+i*2,none⟩=some (.int .i64 x0)/\w.cell? ⟨b,o+i*2+1,none⟩=some (.int .i64 x1):=by
 obtain⟨b,o,vs,hA,hS,hb,hv,hl,hc⟩:=Row.at h i br
 rw[List.getElem_map]at hv
 obtain⟨x0,x1,hx⟩:∃x0 x1,l[i]=.mk x0 x1:=by cases l[i];exact⟨_,_,rfl⟩
 have hv2:=hv
 rw[hx]at hv2
 obtain⟨rfl,g0,g1⟩:=cJ.vals hv2
 exact⟨b,o,_,_,hA,hS,hb,hx,hv,g0,g1,by simpa using hc 0 aF,by simpa using hc 1 aF⟩
inductive cv where
 | mk (Names:List ByteArray) (af5:List cA) (af6:List cz) (af7:List cw) (af8:ByteArray) (Position:Int) (Output:List ByteArray) (Trace:List ByteArray) (af9:List cJ) (aga:Bool) (akz:Int) (ahS:Int) (Made:Int)
def cv.D:cv->List Dat
 | .mk x0 x1 x2 x3 x4 x5 x6 x7 x8 x9 x10 x11 x12=>[.row 1 (x0.map fun x=>[.str x]),.row 3 (x1.map cA.D),.row 5 (x2.map cz.D),.row 6 (x3.map cw.D),.str x4,.int x5,.row 1 (x6.map fun x=>[.str x]),.row 1 (x7.map fun x=>[.str x]),.row 2 (x8.map cJ.D),.bool x9,.int x10,.int x11,.int x12]
theorem cv.fU {x0:List ByteArray} {x1:List cA} {x2:List cz} {x3:List cw} {x4:ByteArray} {x5:Int} {x6:List ByteArray} {x7:List ByteArray} {x8:List cJ} {x9:Bool} {x10:Int} {x11:Int} {x12:Int}:(cv.mk x0 x1 x2 x3 x4 x5 x6 x7 x8 x9 x10 x11 x12).D=[.row 1 (x0.map fun x=>[.str x]),.row 3 (x1.map cA.D),.row 5 (x2.map cz.D),.row 6 (x3.map cw.D),.str x4,.int x5,.row 1 (x6.map fun x=>[.str x]),.row 1 (x7.map fun x=>[.str x]),.row 2 (x8.map cJ.D),.bool x9,.int x10,.int x11,.int x12]:=by
 simp only[cv.D]
theorem cv.oO:∀t:cv,t.D.length=13
 | .mk x0 x1 x2 x3 x4 x5 x6 x7 x8 x9 x10 x11 x12=>by rw[cv.fU];rfl
theorem cv.vals {w:World} {S:Nat->Prop} {x0:List ByteArray} {x1:List cA} {x2:List cz} {x3:List cw} {x4:ByteArray} {x5:Int} {x6:List ByteArray} {x7:List ByteArray} {x8:List cJ} {x9:Bool} {x10:Int} {x11:Int} {x12:Int} {vs:List Value} (h:Dat.cC w S (cv.mk x0 x1 x2 x3 x4 x5 x6 x7 x8 x9 x10 x11 x12).D vs):∃Mr Mt zB zC Mu Mv sD sE Mw Mx Mz MA MB MC,vs=[.slice Mr x0.length Mt,.slice zB x1.length zC,.slice Mu x2.length Mv,.slice sD x3.length sE,.string x4,.int .i64 x5,.slice Mw x6.length Mx,.slice Mz x7.length MA,.slice MB x8.length MC,.bool x9,.int .i64 x10,.int .i64 x11,.int .i64 x12]/\Row w S 1 Mr Mt (x0.map fun x=>[.str x])/\Row w S 3 zB zC (x1.map cA.D)/\Row w S 5 Mu Mv (x2.map cz.D)/\Row w S 6 sD sE (x3.map cw.D)/\x4.size<=maxLen/\fD x5/\Row w S 1 Mw Mx (x6.map fun x=>[.str x])/\Row w S 1 Mz MA (x7.map fun x=>[.str x])/\Row w S 2 MB MC (x8.map cJ.D)/\True/\fD x10/\fD x11/\fD x12:=by
 rw[cv.fU]at h
 have hl:=h.length
 obtain⟨u0,u1,u2,u3,u4,u5,u6,u7,u8,u9,u10,u11,u12,rfl⟩:=IA (hl.trans rfl)
 clear hl
 simp only[Dat.cC]at h
 ·
  obtain⟨h0,h1,h2,h3,h4,h5,h6,h7,h8,h9,h10,h11,h12,-⟩:=h
  obtain⟨Mr,Mt,rfl,g0⟩:=Dat.fo.1 h0
  obtain⟨zB,zC,rfl,g1⟩:=Dat.fo.1 h1
  obtain⟨Mu,Mv,rfl,g2⟩:=Dat.fo.1 h2
  obtain⟨sD,sE,rfl,g3⟩:=Dat.fo.1 h3
  obtain⟨rfl,g4⟩:=Dat.gz.1 h4
  obtain⟨rfl,g5⟩:=Dat.dA.1 h5
  obtain⟨Mw,Mx,rfl,g6⟩:=Dat.fo.1 h6
  obtain⟨Mz,MA,rfl,g7⟩:=Dat.fo.1 h7
  obtain⟨MB,MC,rfl,g8⟩:=Dat.fo.1 h8
  obtain rfl:=Dat.wu.1 h9
  obtain⟨rfl,g10⟩:=Dat.dA.1 h10
  obtain⟨rfl,g11⟩:=Dat.dA.1 h11
  obtain⟨rfl,g12⟩:=Dat.dA.1 h12
  exact⟨Mr,Mt,zB,zC,Mu,Mv,sD,sE,Mw,Mx,Mz,MA,MB,MC,by simp only[aj],g0,g1,g2,g3,g4,g5,g6,g7,g8,trivial,g10,g11,g12⟩
theorem cv.jk {w:World} {S:Nat->Prop} {x0:List ByteArray} {x1:List cA} {x2:List cz} {x3:List cw} {x4:ByteArray} {x5:Int} {x6:List ByteArray} {x7:List ByteArray} {x8:List cJ} {x9:Bool} {x10:Int} {x11:Int} {x12:Int} {Mr:Option Addr} {Mt:Nat} {zB:Option Addr} {zC:Nat} {Mu:Option Addr} {Mv:Nat} {sD:Option Addr} {sE:Nat} {Mw:Option Addr} {Mx:Nat} {Mz:Option Addr} {MA:Nat} {MB:Option Addr} {MC:Nat} (h0:Row w S 1 Mr Mt (x0.map fun x=>[.str x])) (h1:Row w S 3 zB zC (x1.map cA.D)) (h2:Row w S 5 Mu Mv (x2.map cz.D)) (h3:Row w S 6 sD sE (x3.map cw.D)) (h4:x4.size<=maxLen) (h5:fD x5) (h6:Row w S 1 Mw Mx (x6.map fun x=>[.str x])) (h7:Row w S 1 Mz MA (x7.map fun x=>[.str x])) (h8:Row w S 2 MB MC (x8.map cJ.D)) (h10:fD x10) (h11:fD x11) (h12:fD x12):Dat.cC w S (cv.mk x0 x1 x2 x3 x4 x5 x6 x7 x8 x9 x10 x11 x12).D [.slice Mr x0.length Mt,.slice zB x1.length zC,.slice Mu x2.length Mv,.slice sD x3.length sE,.string x4,.int .i64 x5,.slice Mw x6.length Mx,.slice Mz x7.length MA,.slice MB x8.length MC,.bool x9,.int .i64 x10,.int .i64 x11,.int .i64 x12]:=by
 rw[cv.fU]
 exact⟨Dat.fo.2 ⟨_,_,by simp only[aj],h0⟩,Dat.fo.2 ⟨_,_,by simp only[aj],h1⟩,Dat.fo.2 ⟨_,_,by simp only[aj],h2⟩,Dat.fo.2 ⟨_,_,by simp only[aj],h3⟩,Dat.gz.2 ⟨rfl,h4⟩,Dat.dA.2 ⟨rfl,h5⟩,Dat.fo.2 ⟨_,_,by simp only[aj],h6⟩,Dat.fo.2 ⟨_,_,by simp only[aj],h7⟩,Dat.fo.2 ⟨_,_,by simp only[aj],h8⟩,Dat.wu.2 rfl,Dat.dA.2 ⟨rfl,h10⟩,Dat.dA.2 ⟨rfl,h11⟩,Dat.dA.2 ⟨rfl,h12⟩,trivial⟩
theorem cv.at {w:World} {S:Nat->Prop} {A:Option Addr} {c:Nat} {l:List cv} (h:Row w S 13 A c (l.map cv.D)) (i:Nat) (hi:i<l.length) :
  ∃b o x0 x1 x2 x3 x4 x5 x6 x7 x8 x9 x10 x11 x12 Mr Mt zB zC Mu Mv sD sE Mw Mx Mz MA MB MC,A=some ⟨b,o,none⟩/\S b/\b<w.heap.size/\l[i]=.mk x0 x1 x2 x3 x4 x5 x6 x7 x8 x9 x10 x11 x12/\Dat.cC w S l[i].D [.slice Mr x0.length Mt,.slice zB x1.length zC,.slice Mu x2.length Mv,.slice sD x3.length sE,.string x4,.int .i64 x5,.slice Mw x6.length Mx,.slice Mz x7.length MA,.slice MB x8.length MC,.bool x9,.int .i64 x10,.int .i64 x11,.int .i64 x12]/\Row w S 1 Mr Mt (x0.map fun x=>[.str x])/\Row w S 3 zB zC (x1.map cA.D)/\Row w S 5 Mu Mv (x2.map cz.D)/\Row w S 6 sD sE (x3.map cw.D)/\x4.size<=maxLen/\fD x5/\Row w S 1 Mw Mx (x6.map fun x=>[.str x])/\Row w S 1 Mz MA (x7.map fun x=>[.str x])/\Row w S 2 MB MC (x8.map cJ.D)/\True/\fD x10/\fD x11/\fD x12/\w.cell? ⟨b,o+i*13,none⟩=some (.slice Mr x0.length Mt)/\w.cell? ⟨b,o+i*13+1,none⟩=some (.slice zB x1.length zC)/\w.cell? ⟨b,o+i*13+2,none⟩=some (.slice Mu x2.length Mv)/\w.cell? ⟨b,o+i*13+3,none⟩=some (.slice sD x3.length sE)/\w.cell? ⟨b,o+i*13+4,none⟩=some (.string x4)/\w.cell? ⟨b,o+i*13+5,none⟩=some (.int .i64 x5)/\w.cell? ⟨b,o+i*13+6,none⟩=some (.slice Mw x6.length Mx)/\w.cell? ⟨b,o+i*13+7,none⟩=some (.slice Mz x7.length MA)/\w.cell? ⟨b,o+i*13+8,none⟩=some (.slice MB x8.length MC)/\w.cell? ⟨b,o+i*13+9,none⟩=some (.bool x9)/\w.cell? ⟨b,o+i*13+10,none⟩=some (.int .i64 x10)/\w.cell? ⟨b,o+i*13+11,none⟩=some (.int .i64 x11)/\w.cell? ⟨b,o+i*13+12,none⟩=some (.int .i64 x12):=by
 obtain⟨b,o,vs,hA,hS,hb,hv,hl,hc⟩:=Row.at h i br
 rw[List.getElem_map]at hv
 obtain⟨x0,x1,x2,x3,x4,x5,x6,x7,x8,x9,x10,x11,x12,hx⟩:∃x0 x1 x2 x3 x4 x5 x6 x7 x8 x9 x10 x11 x12,l[i]=.mk x0 x1 x2 x3 x4 x5 x6 x7 x8 x9 x10 x11 x12:=by cases l[i];exact⟨_,_,_,_,_,_,_,_,_,_,_,_,_,rfl⟩
 have hv2:=hv
 rw[hx]at hv2
 obtain⟨Mr,Mt,zB,zC,Mu,Mv,sD,sE,Mw,Mx,Mz,MA,MB,MC,rfl,g0,g1,g2,g3,g4,g5,g6,g7,g8,g9,g10,g11,g12⟩:=cv.vals hv2
 exact⟨b,o,_,_,_,_,_,_,_,_,_,_,_,_,_,_,_,_,_,_,_,_,_,_,_,_,_,_,_,hA,hS,hb,hx,hv,g0,g1,g2,g3,g4,g5,g6,g7,g8,g9,g10,g11,g12,by simpa using hc 0 aF,by simpa using hc 1 aF,by simpa using hc 2 aF,by simpa using hc 3 aF,by simpa using hc 4 aF,by simpa using hc 5 aF,by simpa using hc 6 aF,by simpa using hc 7 aF,by simpa using hc 8 aF,by simpa using hc 9 aF,by simpa using hc 10 aF,by simpa using hc 11 aF,by simpa using hc 12 aF⟩
inductive gq where
 | mk (Kind:Int) (Op:Int) (Count:Int) (amQ:List cw)
def gq.D:gq->List Dat
 | .mk x0 x1 x2 x3=>[.int x0,.int x1,.int x2,.row 6 (x3.map cw.D)]
theorem gq.fU {x0:Int} {x1:Int} {x2:Int} {x3:List cw}:(gq.mk x0 x1 x2 x3).D=[.int x0,.int x1,.int x2,.row 6 (x3.map cw.D)]:=by
 simp only[gq.D]
theorem gq.oO:∀t:gq,t.D.length=4
 | .mk x0 x1 x2 x3=>by rw[gq.fU];rfl
theorem gq.vals {w:World} {S:Nat->Prop} {x0:Int} {x1:Int} {x2:Int} {x3:List cw} {vs:List Value} (h:Dat.cC w S (gq.mk x0 x1 x2 x3).D vs):∃sD sE,vs=[.int .i64 x0,.int .i64 x1,.int .i64 x2,.slice sD x3.length sE]/\fD x0/\fD x1/\fD x2/\Row w S 6 sD sE (x3.map cw.D):=by
 rw[gq.fU]at h
 match vs,h with
 | [u0,u1,u2,u3],h =>
  obtain⟨h0,h1,h2,h3,-⟩:=h
  obtain⟨rfl,g0⟩:=Dat.dA.1 h0
  obtain⟨rfl,g1⟩:=Dat.dA.1 h1
  obtain⟨rfl,g2⟩:=Dat.dA.1 h2
  obtain⟨sD,sE,rfl,g3⟩:=Dat.fo.1 h3
  exact⟨sD,sE,by simp only[aj],g0,g1,g2,g3⟩
theorem gq.jk {w:World} {S:Nat->Prop} {x0:Int} {x1:Int} {x2:Int} {x3:List cw} {sD:Option Addr} {sE:Nat} (h0:fD x0) (h1:fD x1) (h2:fD x2) (h3:Row w S 6 sD sE (x3.map cw.D)):Dat.cC w S (gq.mk x0 x1 x2 x3).D [.int .i64 x0,.int .i64 x1,.int .i64 x2,.slice sD x3.length sE]:=by
 rw[gq.fU]
 exact⟨Dat.dA.2 ⟨rfl,h0⟩,Dat.dA.2 ⟨rfl,h1⟩,Dat.dA.2 ⟨rfl,h2⟩,Dat.fo.2 ⟨_,_,by simp only[aj],h3⟩,trivial⟩
theorem gq.at {w:World} {S:Nat->Prop} {A:Option Addr} {c:Nat} {l:List gq} (h:Row w S 4 A c (l.map gq.D)) (i:Nat) (hi:i<l.length) :
  ∃b o x0 x1 x2 x3 sD sE,A=some ⟨b,o,none⟩/\S b/\b<w.heap.size/\l[i]=.mk x0 x1 x2 x3/\Dat.cC w S l[i].D [.int .i64 x0,.int .i64 x1,.int .i64 x2,.slice sD x3.length sE]/\fD x0/\fD x1/\fD x2/\Row w S 6 sD sE (x3.map cw.D)/\w.cell? ⟨b,o+i*4,none⟩=some (.int .i64 x0)/\w.cell? ⟨b,o+i*4+1,none⟩=some (.int .i64 x1)/\w.cell? ⟨b,o+i*4+2,none⟩=some (.int .i64 x2)/\w.cell? ⟨b,o+i*4+3,none⟩=some (.slice sD x3.length sE):=by
 obtain⟨b,o,vs,hA,hS,hb,hv,hl,hc⟩:=Row.at h i br
 rw[List.getElem_map]at hv
 obtain⟨x0,x1,x2,x3,hx⟩:∃x0 x1 x2 x3,l[i]=.mk x0 x1 x2 x3:=by cases l[i];exact⟨_,_,_,_,rfl⟩
 have hv2:=hv
 rw[hx]at hv2
 obtain⟨sD,sE,rfl,g0,g1,g2,g3⟩:=gq.vals hv2
 exact⟨b,o,_,_,_,_,_,_,hA,hS,hb,hx,hv,g0,g1,g2,g3,by simpa using hc 0 aF,by simpa using hc 1 aF,by simpa using hc 2 aF,by simpa using hc 3 aF⟩
theorem zD {H:Type} {enc:TypeId × Value->H} {w:World} {spare:Nat->Bool} {held:Bool}:∀(fuel:Nat) (cs:List Value) (x:DataW H × List MemPlace),DataW.trod enc Tryz.prog w 0 spare held fuel 141 cs=some x->∃t:cA,Dat.cC w (fun _=>True) t.D cs:=by
 intro fuel
 induction fuel using Nat.strongRecOn with
 | ind fuel ih =>
 intro cs x h
 obtain⟨xs,n,rfl,hx,hl,hlen,hg⟩:=DataW.trod_struct Tryz.underlying141 h
 obtain⟨c0,c1,c2,rfl⟩:=abz (hl.trans aC)
 obtain⟨y0,y1,y2,rfl⟩:=abz (hlen.trans aC)
 have g0:=hg 0 _ rfl
 have g1:=hg 1 _ rfl
 have g2:=hg 2 _ rfl
 obtain⟨a0,e0,_,w0⟩:=DataW.trod_string (cs:=[c0]) Tryz.underlying9 g0
 simp only[List.cons.injEq,and_true]at e0
 subst e0
 obtain⟨a1,A1,q1,e1,hR1⟩:=open_row (fun x=>[Dat.str x]) (cs:=[c1]) (k:=1) Tryz.underlying24 aC aF (fun _=>rfl) (fun m hm cs x h=>by obtain⟨a,e,_,w⟩:=DataW.trod_string Tryz.underlying9 h;exact⟨a,by rw[e];exact⟨Dat.gz.2 ⟨rfl,w⟩,trivial⟩⟩) g1
 simp only[List.cons.injEq,and_true]at e1
 subst e1
 obtain⟨a2,e2,_,w2⟩:=DataW.trod_int (cs:=[c2]) Tryz.underlying3 g2
 simp only[List.cons.injEq,and_true]at e2
 subst e2
 exact⟨.mk a0 a1 a2,cA.jk w0 hR1 (gy w2)⟩
theorem wW {H:Type} {enc:TypeId × Value->H} {w:World} {spare:Nat->Bool} {held:Bool}:∀(fuel:Nat) (cs:List Value) (x:DataW H × List MemPlace),DataW.trod enc Tryz.prog w 0 spare held fuel 54 cs=some x->∃t:cw,Dat.cC w (fun _=>True) t.D cs:=by
 intro fuel
 induction fuel using Nat.strongRecOn with
 | ind fuel ih =>
 intro cs x h
 obtain⟨xs,n,rfl,hx,hl,hlen,hg⟩:=DataW.trod_struct Tryz.underlying54 h
 obtain⟨c0,c1,c2,c3,c4,c5,rfl⟩:=agp (hl.trans aC)
 obtain⟨y0,y1,y2,y3,y4,rfl⟩:=YP (hlen.trans aC)
 have g0:=hg 0 _ rfl
 have g1:=hg 1 _ rfl
 have g2:=hg 2 _ rfl
 have g3:=hg 3 _ rfl
 have g4:=hg 4 _ rfl
 obtain⟨a0,e0,_,w0⟩:=DataW.trod_int (cs:=[c0]) Tryz.underlying3 g0
 simp only[List.cons.injEq,and_true]at e0
 subst e0
 obtain⟨a1,e1,_,w1⟩:=DataW.trod_int (cs:=[c1]) Tryz.underlying3 g1
 simp only[List.cons.injEq,and_true]at e1
 subst e1
 obtain⟨a2,e2,_,w2⟩:=DataW.trod_int (cs:=[c2]) Tryz.underlying3 g2
 simp only[List.cons.injEq,and_true]at e2
 subst e2
 obtain⟨a3,e3,_,w3⟩:=DataW.trod_string (cs:=[c3]) Tryz.underlying9 g3
 simp only[List.cons.injEq,and_true]at e3
 subst e3
 obtain⟨t4,h4⟩:=JO n [c4,c5] _ g4
 obtain⟨ahT,ahU⟩:=t4
 obtain⟨e4,ahV,ahW⟩:=lP.vals h4
 simp only[List.cons.injEq,and_true]at e4
 obtain⟨rfl,rfl⟩:=e4
 exact⟨.mk a0 a1 a2 a3 ahT ahU,cw.jk (gy w0) (gy w1) (gy w2) w3 ahV ahW⟩
theorem FQ {H:Type} {enc:TypeId × Value->H} {w:World} {spare:Nat->Bool} {held:Bool}:∀(fuel:Nat) (cs:List Value) (x:DataW H × List MemPlace),DataW.trod enc Tryz.prog w 0 spare held fuel 144 cs=some x->∃t:cz,Dat.cC w (fun _=>True) t.D cs:=by
 intro fuel
 induction fuel using Nat.strongRecOn with
 | ind fuel ih =>
 intro cs x h
 obtain⟨xs,n,rfl,hx,hl,hlen,hg⟩:=DataW.trod_struct Tryz.underlying144 h
 obtain⟨c0,c1,c2,c3,c4,rfl⟩:=YP (hl.trans aC)
 obtain⟨y0,y1,y2,y3,y4,rfl⟩:=YP (hlen.trans aC)
 have g0:=hg 0 _ rfl
 have g1:=hg 1 _ rfl
 have g2:=hg 2 _ rfl
 have g3:=hg 3 _ rfl
 have g4:=hg 4 _ rfl
 obtain⟨a0,e0,_,w0⟩:=DataW.trod_int (cs:=[c0]) Tryz.underlying3 g0
 simp only[List.cons.injEq,and_true]at e0
 subst e0
 obtain⟨a1,e1,_,w1⟩:=DataW.trod_int (cs:=[c1]) Tryz.underlying3 g1
 simp only[List.cons.injEq,and_true]at e1
 subst e1
 obtain⟨a2,e2,_,w2⟩:=DataW.trod_int (cs:=[c2]) Tryz.underlying3 g2
 simp only[List.cons.injEq,and_true]at e2
 subst e2
 obtain⟨a3,A3,q3,e3,xV⟩:=open_row cw.D (cs:=[c3]) (k:=6) Tryz.underlying48 aC aF cw.oO (fun m _ cs x h=>wW m cs x h) g3
 simp only[List.cons.injEq,and_true]at e3
 subst e3
 obtain⟨a4,A4,q4,e4,JX⟩:=open_row cw.D (cs:=[c4]) (k:=6) Tryz.underlying48 aC aF cw.oO (fun m _ cs x h=>wW m cs x h) g4
 simp only[List.cons.injEq,and_true]at e4
 subst e4
 exact⟨.mk a0 a1 a2 a3 a4,cz.jk (gy w0) (gy w1) (gy w2) xV JX⟩
theorem FR {H:Type} {enc:TypeId × Value->H} {w:World} {spare:Nat->Bool} {held:Bool}:∀(fuel:Nat) (cs:List Value) (x:DataW H × List MemPlace),DataW.trod enc Tryz.prog w 0 spare held fuel 148 cs=some x->∃t:cJ,Dat.cC w (fun _=>True) t.D cs:=by
 intro fuel
 induction fuel using Nat.strongRecOn with
 | ind fuel ih =>
 intro cs x h
 obtain⟨xs,n,rfl,hx,hl,hlen,hg⟩:=DataW.trod_struct Tryz.underlying148 h
 obtain⟨c0,c1,rfl⟩:=Sq (hl.trans aC)
 obtain⟨y0,y1,rfl⟩:=Sq (hlen.trans aC)
 have g0:=hg 0 _ rfl
 have g1:=hg 1 _ rfl
 obtain⟨a0,e0,_,w0⟩:=DataW.trod_int (cs:=[c0]) Tryz.underlying3 g0
 simp only[List.cons.injEq,and_true]at e0
 subst e0
 obtain⟨a1,e1,_,w1⟩:=DataW.trod_int (cs:=[c1]) Tryz.underlying3 g1
 simp only[List.cons.injEq,and_true]at e1
 subst e1
 exact⟨.mk a0 a1,cJ.jk (gy w0) (gy w1)⟩
theorem Hw {H:Type} {enc:TypeId × Value->H} {w:World} {spare:Nat->Bool} {held:Bool}:∀(fuel:Nat) (cs:List Value) (x:DataW H × List MemPlace),DataW.trod enc Tryz.prog w 0 spare held fuel 51 cs=some x->∃t:cv,Dat.cC w (fun _=>True) t.D cs:=by
 intro fuel
 induction fuel using Nat.strongRecOn with
 | ind fuel ih =>
 intro cs x h
 obtain⟨xs,n,rfl,hx,hl,hlen,hg⟩:=DataW.trod_struct Tryz.underlying51 h
 obtain⟨c0,c1,c2,c3,c4,c5,c6,c7,c8,c9,c10,c11,c12,rfl⟩:=IA (hl.trans aC)
 obtain⟨y0,y1,y2,y3,y4,y5,y6,y7,y8,y9,sB,sC,sM,rfl⟩:=IA (hlen.trans aC)
 have g0:=hg 0 _ rfl
 have g1:=hg 1 _ rfl
 have g2:=hg 2 _ rfl
 have g3:=hg 3 _ rfl
 have g4:=hg 4 _ rfl
 have g5:=hg 5 _ rfl
 have g6:=hg 6 _ rfl
 have g7:=hg 7 _ rfl
 have g8:=hg 8 _ rfl
 have g9:=hg 9 _ rfl
 have g10:=hg 10 _ rfl
 have g11:=hg 11 _ rfl
 have g12:=hg 12 _ rfl
 obtain⟨a0,A0,q0,e0,hR0⟩:=open_row (fun x=>[Dat.str x]) (cs:=[c0]) (k:=1) Tryz.underlying24 aC aF (fun _=>rfl) (fun m hm cs x h=>by obtain⟨a,e,_,w⟩:=DataW.trod_string Tryz.underlying9 h;exact⟨a,by rw[e];exact⟨Dat.gz.2 ⟨rfl,w⟩,trivial⟩⟩) g0
 simp only[List.cons.injEq,and_true]at e0
 subst e0
 obtain⟨a1,A1,q1,e1,hR1⟩:=open_row cA.D (cs:=[c1]) (k:=3) Tryz.underlying46 aC aF cA.oO (fun m _ cs x h=>zD m cs x h) g1
 simp only[List.cons.injEq,and_true]at e1
 subst e1
 obtain⟨a2,A2,q2,e2,hR2⟩:=open_row cz.D (cs:=[c2]) (k:=5) Tryz.underlying47 aC aF cz.oO (fun m _ cs x h=>FQ m cs x h) g2
 simp only[List.cons.injEq,and_true]at e2
 subst e2
 obtain⟨a3,A3,q3,e3,xV⟩:=open_row cw.D (cs:=[c3]) (k:=6) Tryz.underlying48 aC aF cw.oO (fun m _ cs x h=>wW m cs x h) g3
 simp only[List.cons.injEq,and_true]at e3
 subst e3
 obtain⟨a4,e4,_,w4⟩:=DataW.trod_string (cs:=[c4]) Tryz.underlying9 g4
 simp only[List.cons.injEq,and_true]at e4
 subst e4
 obtain⟨a5,e5,_,w5⟩:=DataW.trod_int (cs:=[c5]) Tryz.underlying3 g5
 simp only[List.cons.injEq,and_true]at e5
 subst e5
 obtain⟨a6,A6,q6,e6,J3⟩:=open_row (fun x=>[Dat.str x]) (cs:=[c6]) (k:=1) Tryz.underlying24 aC aF (fun _=>rfl) (fun m hm cs x h=>by obtain⟨a,e,_,w⟩:=DataW.trod_string Tryz.underlying9 h;exact⟨a,by rw[e];exact⟨Dat.gz.2 ⟨rfl,w⟩,trivial⟩⟩) g6
 simp only[List.cons.injEq,and_true]at e6
 subst e6
 obtain⟨a7,A7,q7,e7,J4⟩:=open_row (fun x=>[Dat.str x]) (cs:=[c7]) (k:=1) Tryz.underlying24 aC aF (fun _=>rfl) (fun m hm cs x h=>by obtain⟨a,e,_,w⟩:=DataW.trod_string Tryz.underlying9 h;exact⟨a,by rw[e];exact⟨Dat.gz.2 ⟨rfl,w⟩,trivial⟩⟩) g7
 simp only[List.cons.injEq,and_true]at e7
 subst e7
 obtain⟨a8,A8,q8,e8,J5⟩:=open_row cJ.D (cs:=[c8]) (k:=2) Tryz.underlying49 aC aF cJ.oO (fun m _ cs x h=>FR m cs x h) g8
 simp only[List.cons.injEq,and_true]at e8
 subst e8
 obtain⟨a9,e9,_⟩:=DataW.trod_bool (cs:=[c9]) Tryz.underlying4 g9
 simp only[List.cons.injEq,and_true]at e9
 subst e9
 obtain⟨a10,e10,_,w10⟩:=DataW.trod_int (cs:=[c10]) Tryz.underlying3 g10
 simp only[List.cons.injEq,and_true]at e10
 subst e10
 obtain⟨a11,e11,_,w11⟩:=DataW.trod_int (cs:=[c11]) Tryz.underlying3 g11
 simp only[List.cons.injEq,and_true]at e11
 subst e11
 obtain⟨a12,e12,_,w12⟩:=DataW.trod_int (cs:=[c12]) Tryz.underlying3 g12
 simp only[List.cons.injEq,and_true]at e12
 subst e12
 exact⟨.mk a0 a1 a2 a3 a4 a5 a6 a7 a8 a9 a10 a11 a12,cv.jk hR0 hR1 hR2 xV w4 (gy w5) J3 J4 J5 (gy w10) (gy w11) (gy w12)⟩
theorem Hy {H:Type} {enc:TypeId × Value->H} {w:World} {spare:Nat->Bool} {held:Bool} {r:Reach} {b0:Nat} {v:Value} {d:DataW H} {p:List MemPlace} (hv:Value.okWide Tryz.prog w r b0 51 v) (h:DataW.Trod enc Tryz.prog w 0 spare held 51 v d p) :
  ∃(t:cv) (vs:List Value),v=.agg vs.toArray/\Dat.cC w (fun _=>True) t.D vs:=by
 obtain⟨cs,rfl,hsz⟩:=okWide_struct Tryz.underlying51 hv
 obtain⟨fuel,hf⟩:=h
 obtain⟨t,h1⟩:=Hw fuel _ _ hf
 exact⟨t,cs.toList,rfl,h1⟩
end Go.Proofs.YtjngkknbpfgdcaaGreatDoor
namespace Go.Proofs.YtjngkknbpfgdcaaGreatDoor
open Go.RowKit
theorem qU {w:World} {S:Nat->Prop} {A:Option Addr} {c:Nat} {l:List ByteArray} (h:Row w S 1 A c (l.map fun x=>[Dat.str x])) (i:Nat) (hi:i<l.length) :
  ∃b o,A=some ⟨b,o,none⟩/\S b/\b<w.heap.size/\l[i].size<=maxLen/\w.cell? ⟨b,o+i,none⟩=some (.string l[i]):=by
 obtain⟨b,o,vs,hA,hS,hb,hv,hl,hc⟩:=Row.at h i br
 rw[List.getElem_map]at hv
 match vs,hv with
 | [v],hv =>
  obtain⟨rfl,hs⟩:=Dat.gz.1 hv.1
  exact⟨b,o,hA,hS,hb,hs,by simpa using hc 0 aF⟩
theorem nA (ks:List ByteArray) (S:Nat->Prop) (w:World) (A:Option Addr) (c:Nat) (left:Int) (hR:Row w S 1 A c (ks.map fun x=>[Dat.str x])) (h0:0<=left) (h1:left<=1048576) :
  Calls Tryz.prog 47 #[.slice A ks.length c,.int .i64 left] w fun e w'=>e=.returned (.int .i64 (Df (ks.length+Dat.jE (ks.map fun x=>[Dat.str x])) left))/\cE w w':=by
 have HR:=hide hR
 have hlen:=hR.1
 have hcm:=hR.2.1
 simp only[aj]at hlen
 unfold maxLen at hcm
 clear hR
 rcases Int.lt_or_le left ks.length with hn | hn
 ·
  go_enter Tryz.func47,Tryz.ntmps47
  go_wp2_with (fail)
  all_goals
   go_returns
   exact⟨gn aQ,bl⟩
 go_enter Tryz.func47,Tryz.ntmps47
 go_wp2_with (fail)
 go_loopw [1,5] (fun lv iv wr=>∃k:Nat,k<=ks.length/\iv=.int .i64 k/\lv=.int .i64 (left - ks.length - (Dat.jE ((ks.map fun x=>[Dat.str x]).take k):Nat))/\0<=left - ks.length - (Dat.jE ((ks.map fun x=>[Dat.str x]).take k):Nat)/\cE w wr) (fun _ iv _=>ks.length - (intOf iv).toNat)
 case atStart=>exact⟨0,Nat.zero_le _,rfl,by simp[Dat.jE],by simp[Dat.jE];omega,cE.refl _⟩
 case round =>
  obtain⟨k,hk,rfl,rfl,hl0,hbw⟩:=hrel
  rcases Nat.lt_or_ge k ks.length with hlt | hge
  ·
   have hd:decide ((k:Int)<(ks.length:Int))=true:=aD
   obtain⟨b1,o1,hA1,hS1,hl1,hz1,c1⟩:=qU HR.out k hlt
   subst hA1
   replace c1:=(hbw.box b1 hl1 _).trans c1
   unfold maxLen at hz1
   have e1:=hide (Dat.jZ (ks.map fun x=>[Dat.str x]) k aN)
   have e2:=hide (Dat.ng (ks.map fun x=>[Dat.str x]) (k+1))
   have e3:Hid (Dat.jE ((ks.map fun x=>[Dat.str x]).take (k+1))=Dat.jE ((ks.map fun x=>[Dat.str x]).take k)+ks[k].size):=by
    show _=_
    have:=e1.out
    rw[List.getElem_map]at this
    simpa[Dat.mg,Dat.wt]using this
   rcases Int.lt_or_le (left - ks.length - (Dat.jE ((ks.map fun x=>[Dat.str x]).take k):Nat)) (ks[k].size:Int)with hq | hq
   ·
    go_wp2_with (fail)
    all_goals
     go_returns
     have e2:=e2.out
     have e3:=e3.out
     exact⟨gn aQ,bl⟩
   ·
    go_wp2_with (fail)
    all_goals
     go_roundw
     case rel=>exact⟨k+1,by omega,by go_num,by rw[e3.out];go_num,by rw[e3.out];omega,bl⟩
     case measure=>simp[intOf];omega
  ·
   have hd:decide ((k:Int)<(ks.length:Int))=false:=aD
   go_wp2_with (fail)
   go_returns
   rw[List.take_of_length_le aD]at hl0 |-
   exact⟨gn bh,hbw⟩
theorem nB (ks:List ByteArray) (S:Nat->Prop) (w:World) (A:Option Addr) (c:Nat) (hR:Row w S 1 A c (ks.map fun x=>[Dat.str x])) (hwt:ks.length+Dat.jE (ks.map fun x=>[Dat.str x])<=1048576) :
  Calls Tryz.prog 52 #[.slice A ks.length c] w (uI w 1 (ks.map fun x=>[Dat.str x])):=by
 have HR:=hide hR
 have hlen:=hR.1
 have hcm:=hR.2.1
 simp only[aj]at hlen
 unfold maxLen at hcm
 clear hR
 obtain⟨cur,mL,hmk⟩:=kZ (P:=Tryz.prog) (t:=24) (e:=9) (k:=1) ks.length aB Tryz.underlying24 aC
 have HC:=hide mL
 clear mL
 go_enter Tryz.func52,Tryz.ntmps52
 go_wp2_with (fail)
 have HF:=hide (Fill.start w 9 1 ks.length (fun b=>w.heap.size<b) HC.out)
 clear hmk
 go_loopw [4] (fun iv wr=>∃k:Nat,k<=ks.length/\iv=.int .i64 k/\Fill wr w.heap.size 9 1 ks.length (fun b=>w.heap.size<b) ((ks.map fun x=>[Dat.str x]).take k)/\cE w wr) (fun iv _=>ks.length - (intOf iv).toNat)
 case atStart=>exact⟨0,Nat.zero_le _,rfl,HF.out,bl⟩
 case round =>
  obtain⟨k,hk,rfl,hF,hbw⟩:=hrel
  have lO:=hide hF
  have hgl:=hF.lt
  clear hF HF
  rcases Nat.lt_or_ge k ks.length with hlt | hge
  ·
   have hd:decide ((k:Int)<(ks.length:Int))=true:=aD
   have hi0:0<=(k:Int):=aB
   have hi1:(k:Int)<(ks.length:Int):=aB
   obtain⟨b1,o1,hA1,hS1,hl1,hz1,c1⟩:=qU HR.out k hlt
   subst hA1
   replace c1:=(hbw.box b1 hl1 _).trans c1
   have HZ:=hide hz1
   clear hz1
   obtain⟨y0,e0⟩:=lO.out.cell (i:=k) aB
   have f0:=lO.out.free k
   go_wp2_with (fail)
   go_roundw
   case rel=>exact⟨k+1,by omega,by go_num,Fill.MG (S1:=fun _=>False) lO.out hlt rfl (fun b hb=>by omega) ⟨Dat.gz.2 ⟨rfl,HZ.out⟩,trivial⟩ (fun b hb=>hb.elim),bl⟩
   case measure=>simp[intOf];omega
  ·
   have hd:decide ((k:Int)<(ks.length:Int))=false:=aD
   go_wp2_with (fail)
   go_returns
   exact⟨some ⟨w.heap.size,0,none⟩,ks.length,by rw[aj];rfl,Fill.done lO.out hge rfl aV (fun b hb=>by omega) aB,hbw⟩
theorem nC (ks:List ByteArray) (S S':Nat->Prop) (w:World) (A A':Option Addr) (c c':Nat) (hR:Row w S 1 A c (ks.map fun x=>[Dat.str x])) (hR':Row w S' 1 A' c' (ks.map fun x=>[Dat.str x])) :
  Calls Tryz.prog 58 #[.slice A ks.length c,.slice A' ks.length c'] w fun e w'=>e=.returned (.bool true)/\cE w w':=by
 have HR:=hide hR
 have HR':=hide hR'
 have hlen:=hR.1
 have hcm:=hR.2.1
 have hlen':=hR'.1
 have hcm':=hR'.2.1
 simp only[aj]at hlen hlen'
 unfold maxLen at hcm hcm'
 clear hR hR'
 go_enter Tryz.func58,Tryz.ntmps58
 go_wp2_with (fail)
 go_loopw [5] (fun iv wr=>∃k:Nat,k<=ks.length/\iv=.int .i64 k/\cE w wr) (fun iv _=>ks.length - (intOf iv).toNat)
 case atStart=>exact⟨0,Nat.zero_le _,rfl,cE.refl _⟩
 case round =>
  obtain⟨k,hk,rfl,hbw⟩:=hrel
  rcases Nat.lt_or_ge k ks.length with hlt | hge
  ·
   have hd:decide ((k:Int)<(ks.length:Int))=true:=aD
   have hi0:0<=(k:Int):=aB
   have hi1:(k:Int)<(ks.length:Int):=aB
   obtain⟨b1,o1,hA1,hS1,hl1,hz1,c1⟩:=qU HR.out k hlt
   obtain⟨b2,o2,hA2,hS2,hl2,hz2,c2⟩:=qU HR'.out k hlt
   subst hA1 hA2
   replace c1:=(hbw.box b1 hl1 _).trans c1
   replace c2:=(hbw.box b2 hl2 _).trans c2
   go_wp2_with (fail)
   go_quiet (fail)
   go_wp2_with (fail)
   all_goals
    go_roundw
    case rel=>exact⟨k+1,by omega,by go_num,bl⟩
    case measure=>simp[intOf];omega
  ·
   have hd:decide ((k:Int)<(ks.length:Int))=false:=aD
   go_wp2_with (fail)
   go_returns
   exact⟨rfl,hbw⟩
theorem Bd:∀l:List cJ,Dat.jE (l.map cJ.D)=0
 | []=>by simp[Dat.jE]
 | .mk x0 x1 :: r=>by rw[List.map_cons,Dat.jE,Bd r,cJ.fU];rfl
theorem BR (ks:List cJ) (S:Nat->Prop) (w:World) (A:Option Addr) (c:Nat) (left:Int) (hR:Row w S 2 A c (ks.map cJ.D)) (h0:0<=left) (h1:left<=1048576) :
  Calls Tryz.prog 51 #[.slice A ks.length c,.int .i64 left] w fun e w'=>e=.returned (.int .i64 (Df (ks.length+Dat.jE (ks.map cJ.D)) left))/\cE w w':=by
 rw[Bd]
 have hlen:=hR.1
 have hcm:=hR.2.1
 simp only[aj]at hlen
 unfold maxLen at hcm
 clear hR
 rcases Int.lt_or_le left ks.length with hn | hn
 ·
  go_enter Tryz.func51,Tryz.ntmps51
  go_wp2_with (fail)
  all_goals
   go_returns
   exact⟨gn aQ,bl⟩
 ·
  go_enter Tryz.func51,Tryz.ntmps51
  go_wp2_with (fail)
  all_goals
   go_returns
   exact⟨gn bh,bl⟩
def FT (t:cJ):Prop:=∀(S:Nat->Prop) (w:World) (vs:List Value),Dat.cC w S t.D vs->Dat.mg t.D<=1048576 ->
 Calls Tryz.prog 113 #[.agg vs.toArray] w (Ep w t.D)
theorem DY (ks:List cJ) (IH:∀(i:Nat) (hi:i<ks.length),FT ks[i]) (S:Nat->Prop) (w:World) (A:Option Addr) (c:Nat) (hR:Row w S 2 A c (ks.map cJ.D)) (hwt:ks.length+Dat.jE (ks.map cJ.D)<=1048576) :
    Calls Tryz.prog 56 #[.slice A ks.length c] w (uI w 2 (ks.map cJ.D)):=by
  have uN:=hide IH
  have HR:=hide hR
  have hlen:=hR.1
  have hcm:=hR.2.1
  simp only[aj]at hlen
  unfold maxLen at hcm
  clear IH hR
  obtain⟨cur,mL,hmk⟩:=kZ (P:=Tryz.prog) (t:=28) (e:=76) (k:=2) ks.length aB Tryz.underlying28 aC
  have HC:=hide mL
  clear mL
  have HW:=hide hwt
  clear hwt
  go_enter Tryz.func56,Tryz.ntmps56
  go_wp2_with (fail)
  have HM:=hide (cE.refl (w.alloc (.cells cur 76)))
  have HF:=hide (Fill.start w 76 2 ks.length (fun b=>w.heap.size<b) HC.out)
  clear hmk
  go_loopw [4] (fun iv wr=>∃k:Nat,k<=ks.length/\iv=.int .i64 k/\Fill wr w.heap.size 76 2 ks.length (fun b=>w.heap.size<b) ((ks.map cJ.D).take k)/\cE w wr) (fun iv _=>ks.length - (intOf iv).toNat)
  case atStart=>exact⟨0,Nat.zero_le _,rfl,HF.out,bl⟩
  case round =>
    obtain⟨k,hk,rfl,hF,hbw⟩:=hrel
    have lO:=hide hF
    have hgl:=hF.lt
    clear hF HF
    rcases Nat.lt_or_ge k ks.length with hlt | hge
    . have hd:decide ((k:Int)<(ks.length:Int))=true:=by simp;omega
      have hi0:0<=(k:Int):=aB
      have hi1:(k:Int)<(ks.length:Int):=aB
      (obtain⟨b1,o1,cH,cM,hA1,hS1,hl1,hx1,hv1,eY,eG,db,de⟩:=cJ.at HR.out k hlt;subst hA1;have jh:=hide (Dat.cC.bel hbw hv1);have hh1:=hbw.box b1 hl1;have hw1:=ak hl1 (cE.size hbw);replace db:=(hh1 _).trans db;replace de:=(hh1 _).trans de;have gv:=hide hx1;clear hh1 hv1 hx1 hS1)
      have hw:=hide (Dat.jZ (ks.map cJ.D) k aN)
      have hw':=hide (Dat.ng (ks.map cJ.D) (k+1))
      have hwk:Dat.mg ks[k].D<=1048576:=by have a:=hw.out;have b:=hw'.out;have c:=HW.out;rw[List.getElem_map]at a;omega
      go_wp2_with (fail)
      refine (uN.out k hlt S _ _ (Dat.cC.bel bl jh.out) hwk).mono ?_
      rintro e w1 ⟨vs',rfl,hv',hb1⟩
      have GO:=hide hv'
      rw[gv.out]at hv'
      obtain⟨rfl,-⟩:=cJ.vals hv'
      clear hv'
      have HF2:=hide (Fill.bel lO.out hb1)
      obtain⟨y0,e0⟩:=HF2.out.cell (i:=k*2) aB
      obtain⟨y1,e1⟩:=HF2.out.cell (i:=k*2+1) aB
      have f0:=HF2.out.free (k*2)
      have f1:=HF2.out.free (k*2+1)
      go_wp2_with (fail)
      go_roundw
      case rel =>
       exact⟨k+1,by omega,by go_num,Fill.MH HF2.out hlt rfl (fun b hb=>by omega) GO.out (fun b hb=>by omega),bl⟩
      case measure=>simp[intOf];omega
    . have hd:decide ((k:Int)<(ks.length:Int))=false:=by simp;omega
      go_wp2_with (fail)
      go_returns
      exact⟨some ⟨w.heap.size,0,none⟩,ks.length,by rw[aj];rfl,Fill.done lO.out hge rfl aV (fun b hb=>by omega) aB,hbw⟩
def FU (t:cJ):Prop:=∀(S S':Nat->Prop) (w:World) (vs vs':List Value),Dat.cC w S t.D vs->Dat.cC w S' t.D vs' ->
 Calls Tryz.prog 117 #[.agg vs.toArray,.agg vs'.toArray] w fun e w'=>e=.returned (.bool true)/\cE w w'
theorem DZ (ks:List cJ) (IH:∀(i:Nat) (hi:i<ks.length),FU ks[i]) (S S':Nat->Prop) (w:World) (A A':Option Addr) (c c':Nat) (hR:Row w S 2 A c (ks.map cJ.D)) (hR':Row w S' 2 A' c' (ks.map cJ.D)) :
  Calls Tryz.prog 62 #[.slice A ks.length c,.slice A' ks.length c'] w fun e w'=>e=.returned (.bool true)/\cE w w':=by
 have uN:=hide IH
 have HR:=hide hR
 have HR':=hide hR'
 have hlen:=hR.1
 have hcm:=hR.2.1
 have hlen':=hR'.1
 have hcm':=hR'.2.1
 simp only[aj]at hlen hlen'
 unfold maxLen at hcm hcm'
 clear IH hR hR'
 go_enter Tryz.func62,Tryz.ntmps62
 go_wp2_with (fail)
 go_loopw [5] (fun iv wr=>∃k:Nat,k<=ks.length/\iv=.int .i64 k/\cE w wr) (fun iv _=>ks.length - (intOf iv).toNat)
 case atStart=>exact⟨0,Nat.zero_le _,rfl,cE.refl _⟩
 case round =>
  obtain⟨k,hk,rfl,hbw⟩:=hrel
  rcases Nat.lt_or_ge k ks.length with hlt | hge
  ·
   have hd:decide ((k:Int)<(ks.length:Int))=true:=aD
   have hi0:0<=(k:Int):=aB
   have hi1:(k:Int)<(ks.length:Int):=aB
   (obtain⟨b1,o1,cH,cM,hA1,hS1,hl1,hx1,hv1,eY,eG,db,de⟩:=cJ.at HR.out k hlt;subst hA1;have jh:=hide (Dat.cC.bel hbw hv1);have hh1:=hbw.box b1 hl1;have hw1:=ak hl1 (cE.size hbw);replace db:=(hh1 _).trans db;replace de:=(hh1 _).trans de;have gv:=hide hx1;clear hh1 hv1 hx1 hS1)
   (obtain⟨b2,o2,dG,dN,hA2,hS2,hl2,hx2,hv2,kY,km,fq,ft⟩:=cJ.at HR'.out k hlt;subst hA2;have xN:=hide (Dat.cC.bel hbw hv2);have hh2:=hbw.box b2 hl2;have hw2:=ak hl2 (cE.size hbw);replace fq:=(hh2 _).trans fq;replace ft:=(hh2 _).trans ft;have oz:=hide hx2;clear hh2 hv2 hx2 hS2)
   have HY:=hide (gv.out.symm.trans oz.out)
   go_wp2_with (fail)
   go_region_held3 (fun w'=>w'.cell? ⟨b1,o1+k*2,none⟩=some (.int .i64 cH)/\w'.cell? ⟨b1,o1+k*2+1,none⟩=some (.int .i64 cM)/\w'.cell? ⟨b2,o2+k*2,none⟩=some (.int .i64 dG)/\w'.cell? ⟨b2,o2+k*2+1,none⟩=some (.int .i64 dN)) (go_keep) (first | (go_at_call 117;refine (uN.out k hlt S S' _ _ _ (Dat.cC.bel bl jh.out) (Dat.cC.bel bl xN.out)).mono ?_;rintro e w1 ⟨rfl,hb1⟩;have hq1:=hb1.box b1 aD;have hq2:=hb1.box b2 aD;simp only[World.cell?_drew]at hq1 hq2))
   all_goals
    go_wp2_with (fail)
    go_roundw
    case rel=>exact⟨k+1,by omega,by go_num,bl⟩
    case measure=>simp[intOf];omega
  ·
   have hd:decide ((k:Int)<(ks.length:Int))=false:=aD
   go_wp2_with (fail)
   go_returns
   exact⟨rfl,hbw⟩
theorem D0:∀t:cJ,FT t:=by
 rintro⟨x0,x1⟩
 intro S w vs hv hwt
 obtain⟨rfl,g0,g1⟩:=cJ.vals hv
 have HW:=hide hwt
 rw[cJ.fU]at hwt
 simp only[Dat.mg,Dat.wt,aj]at hwt
 clear hv hwt
 go_enter Tryz.func113,Tryz.ntmps113
 go_wp2_with (fail)
 exact bodyPost_ret (v:=.agg #[.int .i64 x0,.int .i64 x1]) (by simp[results,Tryz.results113,go_sem]) rfl
  ⟨[.int .i64 x0,.int .i64 x1],rfl,cJ.jk g0 g1,bl⟩
theorem D1:∀t:cJ,FU t:=by
 rintro⟨x0,x1⟩
 intro S S' w vs vs' hv hv'
 obtain⟨rfl,g0,g1⟩:=cJ.vals hv
 obtain⟨rfl,-,-⟩:=cJ.vals hv'
 clear hv hv'
 go_enter Tryz.func117,Tryz.ntmps117
 go_wp2_with (fail)
 all_goals
  go_returns
  exact⟨rfl,bl⟩
theorem BS (ks:List cJ) (S:Nat->Prop) (w:World) (A:Option Addr) (c:Nat) (hR:Row w S 2 A c (ks.map cJ.D)) (hwt:ks.length+Dat.jE (ks.map cJ.D)<=1048576) :
  Calls Tryz.prog 56 #[.slice A ks.length c] w (uI w 2 (ks.map cJ.D)):=DY ks (fun _ _=>D0 _) S w A c hR hwt
theorem BU (ks:List cJ) (S S':Nat->Prop) (w:World) (A A':Option Addr) (c c':Nat) (hR:Row w S 2 A c (ks.map cJ.D)) (hR':Row w S' 2 A' c' (ks.map cJ.D)) :
  Calls Tryz.prog 62 #[.slice A ks.length c,.slice A' ks.length c'] w fun e w'=>e=.returned (.bool true)/\cE w w':=DZ ks (fun _ _=>D1 _) S S' w A A' c c' hR hR'
def JA (t:cw):Prop:=∀(S:Nat->Prop) (w:World) (vs:List Value) (left:Int),Dat.cC w S t.D vs->0<=left->left<=1048576 ->
 Calls Tryz.prog 16 #[.agg vs.toArray,.int .i64 left] w fun e w'=>e=.returned (.int .i64 (Df (Dat.mg t.D) left))/\cE w w'
theorem FV (ks:List cw) (IH:∀(i:Nat) (hi:i<ks.length),JA ks[i]) (S:Nat->Prop) (w:World) (A:Option Addr) (c:Nat) (left:Int) (hR:Row w S 6 A c (ks.map cw.D)) (h0:0<=left) (h1:left<=1048576) :
  Calls Tryz.prog 50 #[.slice A ks.length c,.int .i64 left] w fun e w'=>e=.returned (.int .i64 (Df (ks.length+Dat.jE (ks.map cw.D)) left))/\cE w w':=by
 have uN:=hide IH
 have HR:=hide hR
 have hlen:=hR.1
 have hcm:=hR.2.1
 simp only[aj]at hlen
 unfold maxLen at hcm
 clear IH hR
 rcases Int.lt_or_le left ks.length with hn | hn
 ·
  go_enter Tryz.func50,Tryz.ntmps50
  go_wp2_with (fail)
  all_goals
   go_returns
   exact⟨gn aQ,bl⟩
 go_enter Tryz.func50,Tryz.ntmps50
 go_wp2_with (fail)
 go_loopw [1,5] (fun lv iv wr=>∃k:Nat,k<=ks.length/\iv=.int .i64 k/\lv=.int .i64 (left - ks.length - (Dat.jE ((ks.map cw.D).take k):Nat))/\0<=left - ks.length - (Dat.jE ((ks.map cw.D).take k):Nat)/\cE w wr) (fun _ iv _=>ks.length - (intOf iv).toNat)
 case atStart=>exact⟨0,Nat.zero_le _,rfl,by simp[Dat.jE],by simp[Dat.jE];omega,cE.refl _⟩
 case round =>
  obtain⟨k,hk,rfl,rfl,hl0,hbw⟩:=hrel
  rcases Nat.lt_or_ge k ks.length with hlt | hge
  ·
   have hd:decide ((k:Int)<(ks.length:Int))=true:=aD
   (obtain⟨b1,o1,cH,cM,cN,cO,cP,dn,hA1,hS1,hl1,hx1,hv1,eY,eG,fa,dY,er,gw,db,de,dq,dy,dz,dU⟩:=cw.at HR.out k hlt;subst hA1;have jh:=hide (Dat.cC.bel hbw hv1);have hh1:=hbw.box b1 hl1;have hw1:=ak hl1 (cE.size hbw);replace db:=(hh1 _).trans db;replace de:=(hh1 _).trans de;replace dq:=(hh1 _).trans dq;replace dy:=(hh1 _).trans dy;replace dz:=(hh1 _).trans dz;replace dU:=(hh1 _).trans dU;have gv:=hide hx1;clear hh1 hv1 hx1 hS1)
   have e1:=hide (Dat.jZ (ks.map cw.D) k aN)
   have e2:=hide (Dat.ng (ks.map cw.D) (k+1))
   have hl1:left - ks.length - (Dat.jE ((ks.map cw.D).take k):Nat)<=1048576:=aB
   rcases Int.lt_or_le (left - ks.length - (Dat.jE ((ks.map cw.D).take k):Nat)) (Dat.mg ks[k].D)with hq | hq
   ·
    have HZ:=hide (xQ hq)
    have HQ:=hide hq
    clear hq
    go_wp2_with (fail)
    refine (uN.out k hlt S _ _ _ (Dat.cC.bel bl jh.out) hl0 hl1).mono ?_
    rintro e w1 ⟨rfl,hb1⟩
    rw[HZ.out]
    go_wp2_with (fail)
    all_goals
     go_returns
     have e1:=e1.out
     have e2:=e2.out
     have hq:=HQ.out
     rw[List.getElem_map]at e1
     exact⟨gn aQ,bl⟩
   ·
    have HZ:=hide (tK (show ¬left - ks.length - (Dat.jE ((ks.map cw.D).take k):Nat)<(Dat.mg ks[k].D:Nat) by omega))
    go_wp2_with (fail)
    refine (uN.out k hlt S _ _ _ (Dat.cC.bel bl jh.out) hl0 hl1).mono ?_
    rintro e w1 ⟨rfl,hb1⟩
    rw[HZ.out]
    go_wp2_with (fail)
    all_goals
     go_roundw
     case rel=>exact⟨k+1,by omega,by go_num,by have e1:=e1.out;rw[List.getElem_map]at e1;rw[e1];go_num,by have e1:=e1.out;rw[List.getElem_map]at e1;rw[e1];omega,bl⟩
     case measure=>simp[intOf];omega
  ·
   have hd:decide ((k:Int)<(ks.length:Int))=false:=aD
   go_wp2_with (fail)
   go_returns
   rw[List.take_of_length_le aD]at hl0 |-
   exact⟨gn bh,hbw⟩
def JB (t:cw):Prop:=∀(S:Nat->Prop) (w:World) (vs:List Value),Dat.cC w S t.D vs->Dat.mg t.D<=1048576 ->
 Calls Tryz.prog 18 #[.agg vs.toArray] w (Ep w t.D)
theorem FW (ks:List cw) (IH:∀(i:Nat) (hi:i<ks.length),JB ks[i]) (S:Nat->Prop) (w:World) (A:Option Addr) (c:Nat) (hR:Row w S 6 A c (ks.map cw.D)) (hwt:ks.length+Dat.jE (ks.map cw.D)<=1048576) :
    Calls Tryz.prog 55 #[.slice A ks.length c] w (uI w 6 (ks.map cw.D)):=by
  have uN:=hide IH
  have HR:=hide hR
  have hlen:=hR.1
  have hcm:=hR.2.1
  simp only[aj]at hlen
  unfold maxLen at hcm
  clear IH hR
  obtain⟨cur,mL,hmk⟩:=kZ (P:=Tryz.prog) (t:=27) (e:=34) (k:=6) ks.length aB Tryz.underlying27 aC
  have HC:=hide mL
  clear mL
  have HW:=hide hwt
  clear hwt
  go_enter Tryz.func55,Tryz.ntmps55
  go_wp2_with (fail)
  have HM:=hide (cE.refl (w.alloc (.cells cur 34)))
  have HF:=hide (Fill.start w 34 6 ks.length (fun b=>w.heap.size<b) HC.out)
  clear hmk
  go_loopw [4] (fun iv wr=>∃k:Nat,k<=ks.length/\iv=.int .i64 k/\Fill wr w.heap.size 34 6 ks.length (fun b=>w.heap.size<b) ((ks.map cw.D).take k)/\cE w wr) (fun iv _=>ks.length - (intOf iv).toNat)
  case atStart=>exact⟨0,Nat.zero_le _,rfl,HF.out,bl⟩
  case round =>
    obtain⟨k,hk,rfl,hF,hbw⟩:=hrel
    have lO:=hide hF
    have hgl:=hF.lt
    clear hF HF
    rcases Nat.lt_or_ge k ks.length with hlt | hge
    . have hd:decide ((k:Int)<(ks.length:Int))=true:=by simp;omega
      have hi0:0<=(k:Int):=aB
      have hi1:(k:Int)<(ks.length:Int):=aB
      (obtain⟨b1,o1,cH,cM,cN,cO,cP,dn,hA1,hS1,hl1,hx1,hv1,eY,eG,fa,dY,er,gw,db,de,dq,dy,dz,dU⟩:=cw.at HR.out k hlt;subst hA1;have jh:=hide (Dat.cC.bel hbw hv1);have hh1:=hbw.box b1 hl1;have hw1:=ak hl1 (cE.size hbw);replace db:=(hh1 _).trans db;replace de:=(hh1 _).trans de;replace dq:=(hh1 _).trans dq;replace dy:=(hh1 _).trans dy;replace dz:=(hh1 _).trans dz;replace dU:=(hh1 _).trans dU;have gv:=hide hx1;clear hh1 hv1 hx1 hS1)
      have hw:=hide (Dat.jZ (ks.map cw.D) k aN)
      have hw':=hide (Dat.ng (ks.map cw.D) (k+1))
      have hwk:Dat.mg ks[k].D<=1048576:=by have a:=hw.out;have b:=hw'.out;have c:=HW.out;rw[List.getElem_map]at a;omega
      go_wp2_with (fail)
      refine (uN.out k hlt S _ _ (Dat.cC.bel bl jh.out) hwk).mono ?_
      rintro e w1 ⟨vs',rfl,hv',hb1⟩
      have GO:=hide hv'
      rw[gv.out]at hv'
      obtain⟨rfl,-⟩:=cw.vals hv'
      clear hv'
      have HF2:=hide (Fill.bel lO.out hb1)
      obtain⟨y0,e0⟩:=HF2.out.cell (i:=k*6) aB
      obtain⟨y1,e1⟩:=HF2.out.cell (i:=k*6+1) aB
      obtain⟨y2,e2⟩:=HF2.out.cell (i:=k*6+2) aB
      obtain⟨y3,e3⟩:=HF2.out.cell (i:=k*6+3) aB
      obtain⟨y4,e4⟩:=HF2.out.cell (i:=k*6+4) aB
      obtain⟨y5,e5⟩:=HF2.out.cell (i:=k*6+5) aB
      have f0:=HF2.out.free (k*6)
      have f1:=HF2.out.free (k*6+1)
      have f2:=HF2.out.free (k*6+2)
      have f3:=HF2.out.free (k*6+3)
      have f4:=HF2.out.free (k*6+4)
      have f5:=HF2.out.free (k*6+5)
      go_wp2_with (fail)
      go_roundw
      case rel =>
       exact⟨k+1,by omega,by go_num,Fill.MK HF2.out hlt rfl (fun b hb=>by omega) GO.out (fun b hb=>by omega),bl⟩
      case measure=>simp[intOf];omega
    . have hd:decide ((k:Int)<(ks.length:Int))=false:=by simp;omega
      go_wp2_with (fail)
      go_returns
      exact⟨some ⟨w.heap.size,0,none⟩,ks.length,by rw[aj];rfl,Fill.done lO.out hge rfl aV (fun b hb=>by omega) aB,hbw⟩
def JC (t:cw):Prop:=∀(S S':Nat->Prop) (w:World) (vs vs':List Value),Dat.cC w S t.D vs->Dat.cC w S' t.D vs' ->
 Calls Tryz.prog 116 #[.agg vs.toArray,.agg vs'.toArray] w fun e w'=>e=.returned (.bool true)/\cE w w'
theorem FX (ks:List cw) (IH:∀(i:Nat) (hi:i<ks.length),JC ks[i]) (S S':Nat->Prop) (w:World) (A A':Option Addr) (c c':Nat) (hR:Row w S 6 A c (ks.map cw.D)) (hR':Row w S' 6 A' c' (ks.map cw.D)) :
  Calls Tryz.prog 61 #[.slice A ks.length c,.slice A' ks.length c'] w fun e w'=>e=.returned (.bool true)/\cE w w':=by
 have uN:=hide IH
 have HR:=hide hR
 have HR':=hide hR'
 have hlen:=hR.1
 have hcm:=hR.2.1
 have hlen':=hR'.1
 have hcm':=hR'.2.1
 simp only[aj]at hlen hlen'
 unfold maxLen at hcm hcm'
 clear IH hR hR'
 go_enter Tryz.func61,Tryz.ntmps61
 go_wp2_with (fail)
 go_loopw [5] (fun iv wr=>∃k:Nat,k<=ks.length/\iv=.int .i64 k/\cE w wr) (fun iv _=>ks.length - (intOf iv).toNat)
 case atStart=>exact⟨0,Nat.zero_le _,rfl,cE.refl _⟩
 case round =>
  obtain⟨k,hk,rfl,hbw⟩:=hrel
  rcases Nat.lt_or_ge k ks.length with hlt | hge
  ·
   have hd:decide ((k:Int)<(ks.length:Int))=true:=aD
   have hi0:0<=(k:Int):=aB
   have hi1:(k:Int)<(ks.length:Int):=aB
   (obtain⟨b1,o1,cH,cM,cN,cO,cP,dn,hA1,hS1,hl1,hx1,hv1,eY,eG,fa,dY,er,gw,db,de,dq,dy,dz,dU⟩:=cw.at HR.out k hlt;subst hA1;have jh:=hide (Dat.cC.bel hbw hv1);have hh1:=hbw.box b1 hl1;have hw1:=ak hl1 (cE.size hbw);replace db:=(hh1 _).trans db;replace de:=(hh1 _).trans de;replace dq:=(hh1 _).trans dq;replace dy:=(hh1 _).trans dy;replace dz:=(hh1 _).trans dz;replace dU:=(hh1 _).trans dU;have gv:=hide hx1;clear hh1 hv1 hx1 hS1)
   (obtain⟨b2,o2,dG,dN,dQ,dV,dW,dZ,hA2,hS2,hl2,hx2,hv2,kY,km,lh,gY,kn,lH,fq,ft,fC,fF,fG,fK⟩:=cw.at HR'.out k hlt;subst hA2;have xN:=hide (Dat.cC.bel hbw hv2);have hh2:=hbw.box b2 hl2;have hw2:=ak hl2 (cE.size hbw);replace fq:=(hh2 _).trans fq;replace ft:=(hh2 _).trans ft;replace fC:=(hh2 _).trans fC;replace fF:=(hh2 _).trans fF;replace fG:=(hh2 _).trans fG;replace fK:=(hh2 _).trans fK;have oz:=hide hx2;clear hh2 hv2 hx2 hS2)
   have HY:=hide (gv.out.symm.trans oz.out)
   go_wp2_with (fail)
   go_region_held3 (fun w'=>w'.cell? ⟨b1,o1+k*6,none⟩=some (.int .i64 cH)/\w'.cell? ⟨b1,o1+k*6+1,none⟩=some (.int .i64 cM)/\w'.cell? ⟨b1,o1+k*6+2,none⟩=some (.int .i64 cN)/\w'.cell? ⟨b1,o1+k*6+3,none⟩=some (.string cO)/\w'.cell? ⟨b1,o1+k*6+4,none⟩=some (.int .i64 cP)/\w'.cell? ⟨b1,o1+k*6+5,none⟩=some (.int .i64 dn)/\w'.cell? ⟨b2,o2+k*6,none⟩=some (.int .i64 dG)/\w'.cell? ⟨b2,o2+k*6+1,none⟩=some (.int .i64 dN)/\w'.cell? ⟨b2,o2+k*6+2,none⟩=some (.int .i64 dQ)/\w'.cell? ⟨b2,o2+k*6+3,none⟩=some (.string dV)/\w'.cell? ⟨b2,o2+k*6+4,none⟩=some (.int .i64 dW)/\w'.cell? ⟨b2,o2+k*6+5,none⟩=some (.int .i64 dZ)) (go_keep) (first | (go_at_call 116;refine (uN.out k hlt S S' _ _ _ (Dat.cC.bel bl jh.out) (Dat.cC.bel bl xN.out)).mono ?_;rintro e w1 ⟨rfl,hb1⟩;have hq1:=hb1.box b1 aD;have hq2:=hb1.box b2 aD;simp only[World.cell?_drew]at hq1 hq2))
   all_goals
    go_wp2_with (fail)
    go_roundw
    case rel=>exact⟨k+1,by omega,by go_num,bl⟩
    case measure=>simp[intOf];omega
  ·
   have hd:decide ((k:Int)<(ks.length:Int))=false:=aD
   go_wp2_with (fail)
   go_returns
   exact⟨rfl,hbw⟩
theorem Hz:∀t:cw,JA t:=by
 rintro⟨x0,x1,x2,x3,x4,x5⟩
 intro S w vs left hv h0 h1
 obtain⟨rfl,g0,g1,g2,g3,g4,g5⟩:=cw.vals hv
 clear hv
 unfold maxLen at g3
 rw[cw.fU]
 simp only[Dat.mg,Dat.wt,aj]
 go_enter Tryz.func16,Tryz.ntmps16
 rcases Int.lt_or_le (left) (x3.size:Int)with hq3 | hq3
 ·
  go_wp2_with (fail)
  all_goals
   go_returns
   exact⟨gn aQ,bl⟩
 go_wp2_with (fail)
 all_goals
  go_returns
  exact⟨gn bh,bl⟩
theorem HU:∀t:cw,JB t:=by
 rintro⟨x0,x1,x2,x3,x4,x5⟩
 intro S w vs hv hwt
 obtain⟨rfl,g0,g1,g2,g3,g4,g5⟩:=cw.vals hv
 have HW:=hide hwt
 rw[cw.fU]at hwt
 simp only[Dat.mg,Dat.wt,aj]at hwt
 clear hv hwt
 unfold maxLen at g3
 go_enter Tryz.func18,Tryz.ntmps18
 go_wp2_with (fail)
 refine (yw x4 x5 _).mono ?_
 rintro e w1 ⟨rfl,hb1⟩
 (have hz1:=hb1.sz;obtain⟨eA,fb,fc,fA⟩:=hb1.lay (w.heap.size);obtain⟨ff,fE,fR,fS⟩:=hb1.lay (w.heap.size+1);obtain⟨iM,jx,ko,kp⟩:=hb1.lay (w.heap.size+1+1))
 go_wp2_with (fail)
 exact bodyPost_ret (v:=.agg #[.int .i64 x0,.int .i64 x1,.int .i64 x2,.string x3,.int .i64 x4,.int .i64 x5]) (by simp[results,Tryz.results18,go_sem,ff,fE]) rfl
  ⟨[.int .i64 x0,.int .i64 x1,.int .i64 x2,.string x3,.int .i64 x4,.int .i64 x5],rfl,cw.jk g0 g1 g2 g3 g4 g5,bl⟩
theorem H2:∀t:cw,JC t:=by
 rintro⟨x0,x1,x2,x3,x4,x5⟩
 intro S S' w vs vs' hv hv'
 obtain⟨rfl,g0,g1,g2,g3,g4,g5⟩:=cw.vals hv
 obtain⟨rfl,-,-,-,-,-,-⟩:=cw.vals hv'
 clear hv hv'
 unfold maxLen at g3
 go_enter Tryz.func116,Tryz.ntmps116
 go_wp2_with (first
  | (go_at_call 143;(with_reducible refine (Es x4 x5 _).mono ?_);rintro e w1 ⟨rfl,hb1⟩;have hz1:=hb1.sz;obtain⟨eA,fb,fc,fA⟩:=hb1.lay (w.heap.size);obtain⟨ff,fE,fR,fS⟩:=hb1.lay (w.heap.size+1);(try simp only[cV.val])))
 all_goals
  go_returns
  exact⟨rfl,bl⟩
theorem rZ (ks:List cw) (S:Nat->Prop) (w:World) (A:Option Addr) (c:Nat) (left:Int) (hR:Row w S 6 A c (ks.map cw.D)) (h0:0<=left) (h1:left<=1048576) :
  Calls Tryz.prog 50 #[.slice A ks.length c,.int .i64 left] w fun e w'=>e=.returned (.int .i64 (Df (ks.length+Dat.jE (ks.map cw.D)) left))/\cE w w':=FV ks (fun _ _=>Hz _) S w A c left hR h0 h1
theorem sa (ks:List cw) (S:Nat->Prop) (w:World) (A:Option Addr) (c:Nat) (hR:Row w S 6 A c (ks.map cw.D)) (hwt:ks.length+Dat.jE (ks.map cw.D)<=1048576) :
  Calls Tryz.prog 55 #[.slice A ks.length c] w (uI w 6 (ks.map cw.D)):=FW ks (fun _ _=>HU _) S w A c hR hwt
theorem sc (ks:List cw) (S S':Nat->Prop) (w:World) (A A':Option Addr) (c c':Nat) (hR:Row w S 6 A c (ks.map cw.D)) (hR':Row w S' 6 A' c' (ks.map cw.D)) :
  Calls Tryz.prog 61 #[.slice A ks.length c,.slice A' ks.length c'] w fun e w'=>e=.returned (.bool true)/\cE w w':=FX ks (fun _ _=>H2 _) S S' w A A' c c' hR hR'
def FY (t:cz):Prop:=∀(S:Nat->Prop) (w:World) (vs:List Value) (left:Int),Dat.cC w S t.D vs->0<=left->left<=1048576 ->
 Calls Tryz.prog 110 #[.agg vs.toArray,.int .i64 left] w fun e w'=>e=.returned (.int .i64 (Df (Dat.mg t.D) left))/\cE w w'
theorem D2 (ks:List cz) (IH:∀(i:Nat) (hi:i<ks.length),FY ks[i]) (S:Nat->Prop) (w:World) (A:Option Addr) (c:Nat) (left:Int) (hR:Row w S 5 A c (ks.map cz.D)) (h0:0<=left) (h1:left<=1048576) :
  Calls Tryz.prog 49 #[.slice A ks.length c,.int .i64 left] w fun e w'=>e=.returned (.int .i64 (Df (ks.length+Dat.jE (ks.map cz.D)) left))/\cE w w':=by
 have uN:=hide IH
 have HR:=hide hR
 have hlen:=hR.1
 have hcm:=hR.2.1
 simp only[aj]at hlen
 unfold maxLen at hcm
 clear IH hR
 rcases Int.lt_or_le left ks.length with hn | hn
 ·
  go_enter Tryz.func49,Tryz.ntmps49
  go_wp2_with (fail)
  all_goals
   go_returns
   exact⟨gn aQ,bl⟩
 go_enter Tryz.func49,Tryz.ntmps49
 go_wp2_with (fail)
 go_loopw [1,5] (fun lv iv wr=>∃k:Nat,k<=ks.length/\iv=.int .i64 k/\lv=.int .i64 (left - ks.length - (Dat.jE ((ks.map cz.D).take k):Nat))/\0<=left - ks.length - (Dat.jE ((ks.map cz.D).take k):Nat)/\cE w wr) (fun _ iv _=>ks.length - (intOf iv).toNat)
 case atStart=>exact⟨0,Nat.zero_le _,rfl,by simp[Dat.jE],by simp[Dat.jE];omega,cE.refl _⟩
 case round =>
  obtain⟨k,hk,rfl,rfl,hl0,hbw⟩:=hrel
  rcases Nat.lt_or_ge k ks.length with hlt | hge
  ·
   have hd:decide ((k:Int)<(ks.length:Int))=true:=aD
   (obtain⟨b1,o1,cH,cM,cN,cO,cP,mw,jr,jR,jI,hA1,hS1,hl1,hx1,hv1,eY,eG,fa,dY,er,db,de,dq,dy,dz⟩:=cz.at HR.out k hlt;subst hA1;have jh:=hide (Dat.cC.bel hbw hv1);have hh1:=hbw.box b1 hl1;have hw1:=ak hl1 (cE.size hbw);replace db:=(hh1 _).trans db;replace de:=(hh1 _).trans de;replace dq:=(hh1 _).trans dq;replace dy:=(hh1 _).trans dy;replace dz:=(hh1 _).trans dz;have gv:=hide hx1;have fJ:=hide dY;have jq:=hide er;clear hh1 hv1 hx1 hS1 dY er)
   have e1:=hide (Dat.jZ (ks.map cz.D) k aN)
   have e2:=hide (Dat.ng (ks.map cz.D) (k+1))
   have hl1:left - ks.length - (Dat.jE ((ks.map cz.D).take k):Nat)<=1048576:=aB
   rcases Int.lt_or_le (left - ks.length - (Dat.jE ((ks.map cz.D).take k):Nat)) (Dat.mg ks[k].D)with hq | hq
   ·
    have HZ:=hide (xQ hq)
    have HQ:=hide hq
    clear hq
    go_wp2_with (fail)
    refine (uN.out k hlt S _ _ _ (Dat.cC.bel bl jh.out) hl0 hl1).mono ?_
    rintro e w1 ⟨rfl,hb1⟩
    rw[HZ.out]
    go_wp2_with (fail)
    all_goals
     go_returns
     have e1:=e1.out
     have e2:=e2.out
     have hq:=HQ.out
     rw[List.getElem_map]at e1
     exact⟨gn aQ,bl⟩
   ·
    have HZ:=hide (tK (show ¬left - ks.length - (Dat.jE ((ks.map cz.D).take k):Nat)<(Dat.mg ks[k].D:Nat) by omega))
    go_wp2_with (fail)
    refine (uN.out k hlt S _ _ _ (Dat.cC.bel bl jh.out) hl0 hl1).mono ?_
    rintro e w1 ⟨rfl,hb1⟩
    rw[HZ.out]
    go_wp2_with (fail)
    all_goals
     go_roundw
     case rel=>exact⟨k+1,by omega,by go_num,by have e1:=e1.out;rw[List.getElem_map]at e1;rw[e1];go_num,by have e1:=e1.out;rw[List.getElem_map]at e1;rw[e1];omega,bl⟩
     case measure=>simp[intOf];omega
  ·
   have hd:decide ((k:Int)<(ks.length:Int))=false:=aD
   go_wp2_with (fail)
   go_returns
   rw[List.take_of_length_le aD]at hl0 |-
   exact⟨gn bh,hbw⟩
def FZ (t:cz):Prop:=∀(S:Nat->Prop) (w:World) (vs:List Value),Dat.cC w S t.D vs->Dat.mg t.D<=1048576 ->
 Calls Tryz.prog 112 #[.agg vs.toArray] w (Ep w t.D)
theorem D3 (ks:List cz) (IH:∀(i:Nat) (hi:i<ks.length),FZ ks[i]) (S:Nat->Prop) (w:World) (A:Option Addr) (c:Nat) (hR:Row w S 5 A c (ks.map cz.D)) (hwt:ks.length+Dat.jE (ks.map cz.D)<=1048576) :
    Calls Tryz.prog 54 #[.slice A ks.length c] w (uI w 5 (ks.map cz.D)):=by
  have uN:=hide IH
  have HR:=hide hR
  have hlen:=hR.1
  have hcm:=hR.2.1
  simp only[aj]at hlen
  unfold maxLen at hcm
  clear IH hR
  obtain⟨cur,mL,hmk⟩:=kZ (P:=Tryz.prog) (t:=26) (e:=81) (k:=5) ks.length aB Tryz.underlying26 aC
  have HC:=hide mL
  clear mL
  have HW:=hide hwt
  clear hwt
  go_enter Tryz.func54,Tryz.ntmps54
  go_wp2_with (fail)
  have HM:=hide (cE.refl (w.alloc (.cells cur 81)))
  have HF:=hide (Fill.start w 81 5 ks.length (fun b=>w.heap.size<b) HC.out)
  clear hmk
  go_loopw [4] (fun iv wr=>∃k:Nat,k<=ks.length/\iv=.int .i64 k/\Fill wr w.heap.size 81 5 ks.length (fun b=>w.heap.size<b) ((ks.map cz.D).take k)/\cE w wr) (fun iv _=>ks.length - (intOf iv).toNat)
  case atStart=>exact⟨0,Nat.zero_le _,rfl,HF.out,bl⟩
  case round =>
    obtain⟨k,hk,rfl,hF,hbw⟩:=hrel
    have lO:=hide hF
    have hgl:=hF.lt
    clear hF HF
    rcases Nat.lt_or_ge k ks.length with hlt | hge
    . have hd:decide ((k:Int)<(ks.length:Int))=true:=by simp;omega
      have hi0:0<=(k:Int):=aB
      have hi1:(k:Int)<(ks.length:Int):=aB
      (obtain⟨b1,o1,cH,cM,cN,cO,cP,mw,jr,jR,jI,hA1,hS1,hl1,hx1,hv1,eY,eG,fa,dY,er,db,de,dq,dy,dz⟩:=cz.at HR.out k hlt;subst hA1;have jh:=hide (Dat.cC.bel hbw hv1);have hh1:=hbw.box b1 hl1;have hw1:=ak hl1 (cE.size hbw);replace db:=(hh1 _).trans db;replace de:=(hh1 _).trans de;replace dq:=(hh1 _).trans dq;replace dy:=(hh1 _).trans dy;replace dz:=(hh1 _).trans dz;have gv:=hide hx1;have fJ:=hide dY;have jq:=hide er;clear hh1 hv1 hx1 hS1 dY er)
      have hw:=hide (Dat.jZ (ks.map cz.D) k aN)
      have hw':=hide (Dat.ng (ks.map cz.D) (k+1))
      have hwk:Dat.mg ks[k].D<=1048576:=by have a:=hw.out;have b:=hw'.out;have c:=HW.out;rw[List.getElem_map]at a;omega
      go_wp2_with (fail)
      refine (uN.out k hlt S _ _ (Dat.cC.bel bl jh.out) hwk).mono ?_
      rintro e w1 ⟨vs',rfl,hv',hb1⟩
      have GO:=hide hv'
      rw[gv.out]at hv'
      obtain⟨A3,c3,A4,c4,rfl,-⟩:=cz.vals hv'
      clear hv'
      have HF2:=hide (Fill.bel lO.out hb1)
      obtain⟨y0,e0⟩:=HF2.out.cell (i:=k*5) aB
      obtain⟨y1,e1⟩:=HF2.out.cell (i:=k*5+1) aB
      obtain⟨y2,e2⟩:=HF2.out.cell (i:=k*5+2) aB
      obtain⟨y3,e3⟩:=HF2.out.cell (i:=k*5+3) aB
      obtain⟨y4,e4⟩:=HF2.out.cell (i:=k*5+4) aB
      have f0:=HF2.out.free (k*5)
      have f1:=HF2.out.free (k*5+1)
      have f2:=HF2.out.free (k*5+2)
      have f3:=HF2.out.free (k*5+3)
      have f4:=HF2.out.free (k*5+4)
      go_wp2_with (fail)
      go_roundw
      case rel =>
       exact⟨k+1,by omega,by go_num,Fill.MJ HF2.out hlt rfl (fun b hb=>by omega) GO.out (fun b hb=>by omega),bl⟩
      case measure=>simp[intOf];omega
    . have hd:decide ((k:Int)<(ks.length:Int))=false:=by simp;omega
      go_wp2_with (fail)
      go_returns
      exact⟨some ⟨w.heap.size,0,none⟩,ks.length,by rw[aj];rfl,Fill.done lO.out hge rfl aV (fun b hb=>by omega) aB,hbw⟩
def F0 (t:cz):Prop:=∀(S S':Nat->Prop) (w:World) (vs vs':List Value),Dat.cC w S t.D vs->Dat.cC w S' t.D vs' ->
 Calls Tryz.prog 115 #[.agg vs.toArray,.agg vs'.toArray] w fun e w'=>e=.returned (.bool true)/\cE w w'
theorem D4 (ks:List cz) (IH:∀(i:Nat) (hi:i<ks.length),F0 ks[i]) (S S':Nat->Prop) (w:World) (A A':Option Addr) (c c':Nat) (hR:Row w S 5 A c (ks.map cz.D)) (hR':Row w S' 5 A' c' (ks.map cz.D)) :
  Calls Tryz.prog 60 #[.slice A ks.length c,.slice A' ks.length c'] w fun e w'=>e=.returned (.bool true)/\cE w w':=by
 have uN:=hide IH
 have HR:=hide hR
 have HR':=hide hR'
 have hlen:=hR.1
 have hcm:=hR.2.1
 have hlen':=hR'.1
 have hcm':=hR'.2.1
 simp only[aj]at hlen hlen'
 unfold maxLen at hcm hcm'
 clear IH hR hR'
 go_enter Tryz.func60,Tryz.ntmps60
 go_wp2_with (fail)
 go_loopw [5] (fun iv wr=>∃k:Nat,k<=ks.length/\iv=.int .i64 k/\cE w wr) (fun iv _=>ks.length - (intOf iv).toNat)
 case atStart=>exact⟨0,Nat.zero_le _,rfl,cE.refl _⟩
 case round =>
  obtain⟨k,hk,rfl,hbw⟩:=hrel
  rcases Nat.lt_or_ge k ks.length with hlt | hge
  ·
   have hd:decide ((k:Int)<(ks.length:Int))=true:=aD
   have hi0:0<=(k:Int):=aB
   have hi1:(k:Int)<(ks.length:Int):=aB
   (obtain⟨b1,o1,cH,cM,cN,cO,cP,mw,jr,jR,jI,hA1,hS1,hl1,hx1,hv1,eY,eG,fa,dY,er,db,de,dq,dy,dz⟩:=cz.at HR.out k hlt;subst hA1;have jh:=hide (Dat.cC.bel hbw hv1);have hh1:=hbw.box b1 hl1;have hw1:=ak hl1 (cE.size hbw);replace db:=(hh1 _).trans db;replace de:=(hh1 _).trans de;replace dq:=(hh1 _).trans dq;replace dy:=(hh1 _).trans dy;replace dz:=(hh1 _).trans dz;have gv:=hide hx1;have fJ:=hide dY;have jq:=hide er;clear hh1 hv1 hx1 hS1 dY er)
   (obtain⟨b2,o2,dG,dN,dQ,dV,dW,ad8,ad9,aea,aeb,hA2,hS2,hl2,hx2,hv2,kY,km,lh,gY,kn,fq,ft,fC,fF,fG⟩:=cz.at HR'.out k hlt;subst hA2;have xN:=hide (Dat.cC.bel hbw hv2);have hh2:=hbw.box b2 hl2;have hw2:=ak hl2 (cE.size hbw);replace fq:=(hh2 _).trans fq;replace ft:=(hh2 _).trans ft;replace fC:=(hh2 _).trans fC;replace fF:=(hh2 _).trans fF;replace fG:=(hh2 _).trans fG;have oz:=hide hx2;have aec:=hide gY;have aed:=hide kn;clear hh2 hv2 hx2 hS2 gY kn)
   have HY:=hide (gv.out.symm.trans oz.out)
   go_wp2_with (fail)
   go_region_held3 (fun w'=>w'.cell? ⟨b1,o1+k*5,none⟩=some (.int .i64 cH)/\w'.cell? ⟨b1,o1+k*5+1,none⟩=some (.int .i64 cM)/\w'.cell? ⟨b1,o1+k*5+2,none⟩=some (.int .i64 cN)/\w'.cell? ⟨b1,o1+k*5+3,none⟩=some (.slice mw cO.length jr)/\w'.cell? ⟨b1,o1+k*5+4,none⟩=some (.slice jR cP.length jI)/\w'.cell? ⟨b2,o2+k*5,none⟩=some (.int .i64 dG)/\w'.cell? ⟨b2,o2+k*5+1,none⟩=some (.int .i64 dN)/\w'.cell? ⟨b2,o2+k*5+2,none⟩=some (.int .i64 dQ)/\w'.cell? ⟨b2,o2+k*5+3,none⟩=some (.slice ad8 dV.length ad9)/\w'.cell? ⟨b2,o2+k*5+4,none⟩=some (.slice aea dW.length aeb)) (go_keep) (first | (go_at_call 115;refine (uN.out k hlt S S' _ _ _ (Dat.cC.bel bl jh.out) (Dat.cC.bel bl xN.out)).mono ?_;rintro e w1 ⟨rfl,hb1⟩;have hq1:=hb1.box b1 aD;have hq2:=hb1.box b2 aD;simp only[World.cell?_drew]at hq1 hq2))
   all_goals
    go_wp2_with (fail)
    go_roundw
    case rel=>exact⟨k+1,by omega,by go_num,bl⟩
    case measure=>simp[intOf];omega
  ·
   have hd:decide ((k:Int)<(ks.length:Int))=false:=aD
   go_wp2_with (fail)
   go_returns
   exact⟨rfl,hbw⟩
theorem D5:∀t:cz,FY t:=by
 rintro⟨x0,x1,x2,x3,x4⟩
 intro S w vs left hv h0 h1
 obtain⟨A3,c3,A4,c4,rfl,g0,g1,g2,xV,JX⟩:=cz.vals hv
 have R3:=hide xV
 have R4:=hide JX
 clear hv xV JX
 rw[cz.fU]
 simp only[Dat.mg,Dat.wt,aj]
 go_enter Tryz.func110,Tryz.ntmps110
 go_wp2_with (fail)
 refine (Calls.uJ (rZ x3 S _ _ _ _ (Row.bel bl R3.out) aB aB)).mono ?_
 rintro e w1 ⟨l1,rfl,hl1,hb1⟩
 (have hz1:=hb1.sz;obtain⟨eA,fb,fc,fA⟩:=hb1.lay (w.heap.size))
 rcases hl1 with⟨hq1,rfl⟩ | ⟨hq1,hz1'⟩
 ·
  have rA:=hide hq1
  clear hq1
  go_wp2_with (fail)
  all_goals
   go_returns
   have yh:=rA.out
   exact⟨gn aQ,bl⟩
 have rA:=hide hq1
 have Lp:=hide hz1'
 have ha1:0<=l1:=aB
 have hc1:l1<=1048576:=aB
 clear hq1 hz1'
 go_wp2_with (fail)
 refine (Calls.uJ (rZ x4 S _ _ _ _ (Row.bel bl R4.out) aB aB)).mono ?_
 rintro e w2 ⟨l2,rfl,hl2,hb2⟩
 (have hz2:=hb2.sz;obtain⟨gO,lJ,mG,mH⟩:=hb2.lay (w.heap.size))
 rcases hl2 with⟨hq2,rfl⟩ | ⟨hq2,hz2'⟩
 ·
  have xT:=hide hq2
  clear hq2
  go_wp2_with (fail)
  all_goals
   go_returns
   have yh:=rA.out
   have BV:=Lp.out
   have D6:=xT.out
   exact⟨gn aQ,bl⟩
 have xT:=hide hq2
 have HL2:=hide hz2'
 have ha2:0<=l2:=aB
 have hc2:l2<=1048576:=aB
 clear hq2 hz2'
 go_wp2_with (fail)
 all_goals
  go_returns
  have yh:=rA.out
  have BV:=Lp.out
  have D6:=xT.out
  have H5:=HL2.out
  exact⟨gn bh,bl⟩
theorem D7:∀t:cz,FZ t:=by
 rintro⟨x0,x1,x2,x3,x4⟩
 intro S w vs hv hwt
 obtain⟨A3,c3,A4,c4,rfl,g0,g1,g2,xV,JX⟩:=cz.vals hv
 have R3:=hide xV
 have R4:=hide JX
 have HW:=hide hwt
 rw[cz.fU]at hwt
 simp only[Dat.mg,Dat.wt,aj]at hwt
 have hw3:x3.length+Dat.jE (x3.map cw.D)<=1048576:=aB
 have hw4:x4.length+Dat.jE (x4.map cw.D)<=1048576:=aB
 clear hv hwt xV JX
 go_enter Tryz.func112,Tryz.ntmps112
 go_wp2_with (fail)
 refine (sa x3 S _ _ _ (Row.bel bl R3.out) hw3).mono ?_
 rintro e w1 ⟨B3,d3,rfl,JY,hb1⟩
 (have hz1:=hb1.sz;obtain⟨eA,fb,fc,fA⟩:=hb1.lay (w.heap.size);obtain⟨ff,fE,fR,fS⟩:=hb1.lay (w.heap.size+1);obtain⟨iM,jx,ko,kp⟩:=hb1.lay (w.heap.size+1+1))
 have Q3:=hide (Row.wide (S':=fun b=>w.heap.size+2<b) (fun b hb=>by simp at hb;omega) JY)
 clear JY
 go_wp2_with (fail)
 refine (sa x4 S _ _ _ (Row.bel bl R4.out) hw4).mono ?_
 rintro e w2 ⟨B4,d4,rfl,hQ4,hb2⟩
 (have hz2:=hb2.sz;obtain⟨gO,lJ,mG,mH⟩:=hb2.lay (w.heap.size);obtain⟨iW,nT,sn,su⟩:=hb2.lay (w.heap.size+1);obtain⟨jW,uO,Aa,Ab⟩:=hb2.lay (w.heap.size+1+1))
 have Q4:=hide (Row.wide (S':=fun b=>w.heap.size+2<b) (fun b hb=>by simp at hb;omega) hQ4)
 clear hQ4
 go_wp2_with (fail)
 exact bodyPost_ret (v:=.agg #[.int .i64 x0,.int .i64 x1,.int .i64 x2,.slice B3 x3.length d3,.slice B4 x4.length d4]) (by simp[results,Tryz.results112,go_sem,ff,fE,iW,nT]) rfl
  ⟨[.int .i64 x0,.int .i64 x1,.int .i64 x2,.slice B3 x3.length d3,.slice B4 x4.length d4],rfl,cz.jk g0 g1 g2 (Row.wide (fun b hb=>by omega) (Row.off Sc Q3.out)) (Row.wide (fun b hb=>by omega) (Row.off Sc Q4.out)),bl⟩
theorem D8:∀t:cz,F0 t:=by
 rintro⟨x0,x1,x2,x3,x4⟩
 intro S S' w vs vs' hv hv'
 obtain⟨A3,c3,A4,c4,rfl,g0,g1,g2,xV,JX⟩:=cz.vals hv
 obtain⟨eA3,ec3,eA4,ec4,rfl,-,-,-,Qv,aeB⟩:=cz.vals hv'
 have R3:=hide xV
 have R4:=hide JX
 have T3:=hide Qv
 have T4:=hide aeB
 clear hv hv' xV JX Qv aeB
 go_enter Tryz.func115,Tryz.ntmps115
 go_wp2_with (first
  | (go_at_call 61;(with_reducible refine (sc x3 S S' _ _ _ _ _ (Row.bel bl R3.out) (Row.bel bl T3.out)).mono ?_);rintro e w1 ⟨rfl,hb1⟩;have hz1:=hb1.sz;obtain⟨eA,fb,fc,fA⟩:=hb1.lay (w.heap.size);obtain⟨ff,fE,fR,fS⟩:=hb1.lay (w.heap.size+1);(try simp only[cV.val]))
  | (go_at_call 61;(with_reducible refine (sc x4 S S' _ _ _ _ _ (Row.bel bl R4.out) (Row.bel bl T4.out)).mono ?_);rintro e w2 ⟨rfl,hb2⟩;have hz2:=hb2.sz;obtain⟨gO,lJ,mG,mH⟩:=hb2.lay (w.heap.size);obtain⟨iW,nT,sn,su⟩:=hb2.lay (w.heap.size+1);(try simp only[cV.val])))
 all_goals
  go_returns
  exact⟨rfl,bl⟩
theorem BW (ks:List cz) (S:Nat->Prop) (w:World) (A:Option Addr) (c:Nat) (left:Int) (hR:Row w S 5 A c (ks.map cz.D)) (h0:0<=left) (h1:left<=1048576) :
  Calls Tryz.prog 49 #[.slice A ks.length c,.int .i64 left] w fun e w'=>e=.returned (.int .i64 (Df (ks.length+Dat.jE (ks.map cz.D)) left))/\cE w w':=D2 ks (fun _ _=>D5 _) S w A c left hR h0 h1
theorem BZ (ks:List cz) (S:Nat->Prop) (w:World) (A:Option Addr) (c:Nat) (hR:Row w S 5 A c (ks.map cz.D)) (hwt:ks.length+Dat.jE (ks.map cz.D)<=1048576) :
  Calls Tryz.prog 54 #[.slice A ks.length c] w (uI w 5 (ks.map cz.D)):=D3 ks (fun _ _=>D7 _) S w A c hR hwt
theorem B5 (ks:List cz) (S S':Nat->Prop) (w:World) (A A':Option Addr) (c c':Nat) (hR:Row w S 5 A c (ks.map cz.D)) (hR':Row w S' 5 A' c' (ks.map cz.D)) :
  Calls Tryz.prog 60 #[.slice A ks.length c,.slice A' ks.length c'] w fun e w'=>e=.returned (.bool true)/\cE w w':=D4 ks (fun _ _=>D8 _) S S' w A A' c c' hR hR'
def xF (t:cA):Prop:=∀(S:Nat->Prop) (w:World) (vs:List Value) (left:Int),Dat.cC w S t.D vs->0<=left->left<=1048576 ->
 Calls Tryz.prog 109 #[.agg vs.toArray,.int .i64 left] w fun e w'=>e=.returned (.int .i64 (Df (Dat.mg t.D) left))/\cE w w'
theorem yi (ks:List cA) (IH:∀(i:Nat) (hi:i<ks.length),xF ks[i]) (S:Nat->Prop) (w:World) (A:Option Addr) (c:Nat) (left:Int) (hR:Row w S 3 A c (ks.map cA.D)) (h0:0<=left) (h1:left<=1048576) :
  Calls Tryz.prog 48 #[.slice A ks.length c,.int .i64 left] w fun e w'=>e=.returned (.int .i64 (Df (ks.length+Dat.jE (ks.map cA.D)) left))/\cE w w':=by
 have uN:=hide IH
 have HR:=hide hR
 have hlen:=hR.1
 have hcm:=hR.2.1
 simp only[aj]at hlen
 unfold maxLen at hcm
 clear IH hR
 rcases Int.lt_or_le left ks.length with hn | hn
 ·
  go_enter Tryz.func48,Tryz.ntmps48
  go_wp2_with (fail)
  all_goals
   go_returns
   exact⟨gn aQ,bl⟩
 go_enter Tryz.func48,Tryz.ntmps48
 go_wp2_with (fail)
 go_loopw [1,5] (fun lv iv wr=>∃k:Nat,k<=ks.length/\iv=.int .i64 k/\lv=.int .i64 (left - ks.length - (Dat.jE ((ks.map cA.D).take k):Nat))/\0<=left - ks.length - (Dat.jE ((ks.map cA.D).take k):Nat)/\cE w wr) (fun _ iv _=>ks.length - (intOf iv).toNat)
 case atStart=>exact⟨0,Nat.zero_le _,rfl,by simp[Dat.jE],by simp[Dat.jE];omega,cE.refl _⟩
 case round =>
  obtain⟨k,hk,rfl,rfl,hl0,hbw⟩:=hrel
  rcases Nat.lt_or_ge k ks.length with hlt | hge
  ·
   have hd:decide ((k:Int)<(ks.length:Int))=true:=aD
   (obtain⟨b1,o1,cH,cM,cN,Ad,xW,hA1,hS1,hl1,hx1,hv1,eY,eG,fa,db,de,dq⟩:=cA.at HR.out k hlt;subst hA1;have jh:=hide (Dat.cC.bel hbw hv1);have hh1:=hbw.box b1 hl1;have hw1:=ak hl1 (cE.size hbw);replace db:=(hh1 _).trans db;replace de:=(hh1 _).trans de;replace dq:=(hh1 _).trans dq;have gv:=hide hx1;have kX:=hide eG;clear hh1 hv1 hx1 hS1 eG)
   have e1:=hide (Dat.jZ (ks.map cA.D) k aN)
   have e2:=hide (Dat.ng (ks.map cA.D) (k+1))
   have hl1:left - ks.length - (Dat.jE ((ks.map cA.D).take k):Nat)<=1048576:=aB
   rcases Int.lt_or_le (left - ks.length - (Dat.jE ((ks.map cA.D).take k):Nat)) (Dat.mg ks[k].D)with hq | hq
   ·
    have HZ:=hide (xQ hq)
    have HQ:=hide hq
    clear hq
    go_wp2_with (fail)
    refine (uN.out k hlt S _ _ _ (Dat.cC.bel bl jh.out) hl0 hl1).mono ?_
    rintro e w1 ⟨rfl,hb1⟩
    rw[HZ.out]
    go_wp2_with (fail)
    all_goals
     go_returns
     have e1:=e1.out
     have e2:=e2.out
     have hq:=HQ.out
     rw[List.getElem_map]at e1
     exact⟨gn aQ,bl⟩
   ·
    have HZ:=hide (tK (show ¬left - ks.length - (Dat.jE ((ks.map cA.D).take k):Nat)<(Dat.mg ks[k].D:Nat) by omega))
    go_wp2_with (fail)
    refine (uN.out k hlt S _ _ _ (Dat.cC.bel bl jh.out) hl0 hl1).mono ?_
    rintro e w1 ⟨rfl,hb1⟩
    rw[HZ.out]
    go_wp2_with (fail)
    all_goals
     go_roundw
     case rel=>exact⟨k+1,by omega,by go_num,by have e1:=e1.out;rw[List.getElem_map]at e1;rw[e1];go_num,by have e1:=e1.out;rw[List.getElem_map]at e1;rw[e1];omega,bl⟩
     case measure=>simp[intOf];omega
  ·
   have hd:decide ((k:Int)<(ks.length:Int))=false:=aD
   go_wp2_with (fail)
   go_returns
   rw[List.take_of_length_le aD]at hl0 |-
   exact⟨gn bh,hbw⟩
def xG (t:cA):Prop:=∀(S:Nat->Prop) (w:World) (vs:List Value),Dat.cC w S t.D vs->Dat.mg t.D<=1048576 ->
 Calls Tryz.prog 111 #[.agg vs.toArray] w (Ep w t.D)
theorem yj (ks:List cA) (IH:∀(i:Nat) (hi:i<ks.length),xG ks[i]) (S:Nat->Prop) (w:World) (A:Option Addr) (c:Nat) (hR:Row w S 3 A c (ks.map cA.D)) (hwt:ks.length+Dat.jE (ks.map cA.D)<=1048576) :
    Calls Tryz.prog 53 #[.slice A ks.length c] w (uI w 3 (ks.map cA.D)):=by
  have uN:=hide IH
  have HR:=hide hR
  have hlen:=hR.1
  have hcm:=hR.2.1
  simp only[aj]at hlen
  unfold maxLen at hcm
  clear IH hR
  obtain⟨cur,mL,hmk⟩:=kZ (P:=Tryz.prog) (t:=25) (e:=109) (k:=3) ks.length aB Tryz.underlying25 aC
  have HC:=hide mL
  clear mL
  have HW:=hide hwt
  clear hwt
  go_enter Tryz.func53,Tryz.ntmps53
  go_wp2_with (fail)
  have HM:=hide (cE.refl (w.alloc (.cells cur 109)))
  have HF:=hide (Fill.start w 109 3 ks.length (fun b=>w.heap.size<b) HC.out)
  clear hmk
  go_loopw [4] (fun iv wr=>∃k:Nat,k<=ks.length/\iv=.int .i64 k/\Fill wr w.heap.size 109 3 ks.length (fun b=>w.heap.size<b) ((ks.map cA.D).take k)/\cE w wr) (fun iv _=>ks.length - (intOf iv).toNat)
  case atStart=>exact⟨0,Nat.zero_le _,rfl,HF.out,bl⟩
  case round =>
    obtain⟨k,hk,rfl,hF,hbw⟩:=hrel
    have lO:=hide hF
    have hgl:=hF.lt
    clear hF HF
    rcases Nat.lt_or_ge k ks.length with hlt | hge
    . have hd:decide ((k:Int)<(ks.length:Int))=true:=by simp;omega
      have hi0:0<=(k:Int):=aB
      have hi1:(k:Int)<(ks.length:Int):=aB
      (obtain⟨b1,o1,cH,cM,cN,Ad,xW,hA1,hS1,hl1,hx1,hv1,eY,eG,fa,db,de,dq⟩:=cA.at HR.out k hlt;subst hA1;have jh:=hide (Dat.cC.bel hbw hv1);have hh1:=hbw.box b1 hl1;have hw1:=ak hl1 (cE.size hbw);replace db:=(hh1 _).trans db;replace de:=(hh1 _).trans de;replace dq:=(hh1 _).trans dq;have gv:=hide hx1;have kX:=hide eG;clear hh1 hv1 hx1 hS1 eG)
      have hw:=hide (Dat.jZ (ks.map cA.D) k aN)
      have hw':=hide (Dat.ng (ks.map cA.D) (k+1))
      have hwk:Dat.mg ks[k].D<=1048576:=by have a:=hw.out;have b:=hw'.out;have c:=HW.out;rw[List.getElem_map]at a;omega
      go_wp2_with (fail)
      refine (uN.out k hlt S _ _ (Dat.cC.bel bl jh.out) hwk).mono ?_
      rintro e w1 ⟨vs',rfl,hv',hb1⟩
      have GO:=hide hv'
      rw[gv.out]at hv'
      obtain⟨A1,c1,rfl,-⟩:=cA.vals hv'
      clear hv'
      have HF2:=hide (Fill.bel lO.out hb1)
      obtain⟨y0,e0⟩:=HF2.out.cell (i:=k*3) aB
      obtain⟨y1,e1⟩:=HF2.out.cell (i:=k*3+1) aB
      obtain⟨y2,e2⟩:=HF2.out.cell (i:=k*3+2) aB
      have f0:=HF2.out.free (k*3)
      have f1:=HF2.out.free (k*3+1)
      have f2:=HF2.out.free (k*3+2)
      go_wp2_with (fail)
      go_roundw
      case rel =>
       exact⟨k+1,by omega,by go_num,Fill.MI HF2.out hlt rfl (fun b hb=>by omega) GO.out (fun b hb=>by omega),bl⟩
      case measure=>simp[intOf];omega
    . have hd:decide ((k:Int)<(ks.length:Int))=false:=by simp;omega
      go_wp2_with (fail)
      go_returns
      exact⟨some ⟨w.heap.size,0,none⟩,ks.length,by rw[aj];rfl,Fill.done lO.out hge rfl aV (fun b hb=>by omega) aB,hbw⟩
def xH (t:cA):Prop:=∀(S S':Nat->Prop) (w:World) (vs vs':List Value),Dat.cC w S t.D vs->Dat.cC w S' t.D vs' ->
 Calls Tryz.prog 114 #[.agg vs.toArray,.agg vs'.toArray] w fun e w'=>e=.returned (.bool true)/\cE w w'
theorem yk (ks:List cA) (IH:∀(i:Nat) (hi:i<ks.length),xH ks[i]) (S S':Nat->Prop) (w:World) (A A':Option Addr) (c c':Nat) (hR:Row w S 3 A c (ks.map cA.D)) (hR':Row w S' 3 A' c' (ks.map cA.D)) :
  Calls Tryz.prog 59 #[.slice A ks.length c,.slice A' ks.length c'] w fun e w'=>e=.returned (.bool true)/\cE w w':=by
 have uN:=hide IH
 have HR:=hide hR
 have HR':=hide hR'
 have hlen:=hR.1
 have hcm:=hR.2.1
 have hlen':=hR'.1
 have hcm':=hR'.2.1
 simp only[aj]at hlen hlen'
 unfold maxLen at hcm hcm'
 clear IH hR hR'
 go_enter Tryz.func59,Tryz.ntmps59
 go_wp2_with (fail)
 go_loopw [5] (fun iv wr=>∃k:Nat,k<=ks.length/\iv=.int .i64 k/\cE w wr) (fun iv _=>ks.length - (intOf iv).toNat)
 case atStart=>exact⟨0,Nat.zero_le _,rfl,cE.refl _⟩
 case round =>
  obtain⟨k,hk,rfl,hbw⟩:=hrel
  rcases Nat.lt_or_ge k ks.length with hlt | hge
  ·
   have hd:decide ((k:Int)<(ks.length:Int))=true:=aD
   have hi0:0<=(k:Int):=aB
   have hi1:(k:Int)<(ks.length:Int):=aB
   (obtain⟨b1,o1,cH,cM,cN,Ad,xW,hA1,hS1,hl1,hx1,hv1,eY,eG,fa,db,de,dq⟩:=cA.at HR.out k hlt;subst hA1;have jh:=hide (Dat.cC.bel hbw hv1);have hh1:=hbw.box b1 hl1;have hw1:=ak hl1 (cE.size hbw);replace db:=(hh1 _).trans db;replace de:=(hh1 _).trans de;replace dq:=(hh1 _).trans dq;have gv:=hide hx1;have kX:=hide eG;clear hh1 hv1 hx1 hS1 eG)
   (obtain⟨b2,o2,dG,dN,dQ,ahY,ahZ,hA2,hS2,hl2,hx2,hv2,kY,km,lh,fq,ft,fC⟩:=cA.at HR'.out k hlt;subst hA2;have xN:=hide (Dat.cC.bel hbw hv2);have hh2:=hbw.box b2 hl2;have hw2:=ak hl2 (cE.size hbw);replace fq:=(hh2 _).trans fq;replace ft:=(hh2 _).trans ft;replace fC:=(hh2 _).trans fC;have oz:=hide hx2;have akA:=hide km;clear hh2 hv2 hx2 hS2 km)
   have HY:=hide (gv.out.symm.trans oz.out)
   go_wp2_with (fail)
   go_region_held3 (fun w'=>w'.cell? ⟨b1,o1+k*3,none⟩=some (.string cH)/\w'.cell? ⟨b1,o1+k*3+1,none⟩=some (.slice Ad cM.length xW)/\w'.cell? ⟨b1,o1+k*3+2,none⟩=some (.int .i64 cN)/\w'.cell? ⟨b2,o2+k*3,none⟩=some (.string dG)/\w'.cell? ⟨b2,o2+k*3+1,none⟩=some (.slice ahY dN.length ahZ)/\w'.cell? ⟨b2,o2+k*3+2,none⟩=some (.int .i64 dQ)) (go_keep) (first | (go_at_call 114;refine (uN.out k hlt S S' _ _ _ (Dat.cC.bel bl jh.out) (Dat.cC.bel bl xN.out)).mono ?_;rintro e w1 ⟨rfl,hb1⟩;have hq1:=hb1.box b1 aD;have hq2:=hb1.box b2 aD;simp only[World.cell?_drew]at hq1 hq2))
   all_goals
    go_wp2_with (fail)
    go_roundw
    case rel=>exact⟨k+1,by omega,by go_num,bl⟩
    case measure=>simp[intOf];omega
  ·
   have hd:decide ((k:Int)<(ks.length:Int))=false:=aD
   go_wp2_with (fail)
   go_returns
   exact⟨rfl,hbw⟩
theorem yl:∀t:cA,xF t:=by
 rintro⟨x0,x1,x2⟩
 intro S w vs left hv h0 h1
 obtain⟨A1,c1,rfl,g0,hR1,g2⟩:=cA.vals hv
 have R1:=hide hR1
 clear hv hR1
 unfold maxLen at g0
 rw[cA.fU]
 simp only[Dat.mg,Dat.wt,aj]
 go_enter Tryz.func109,Tryz.ntmps109
 rcases Int.lt_or_le (left) (x0.size:Int)with hq0 | hq0
 ·
  go_wp2_with (fail)
  all_goals
   go_returns
   exact⟨gn aQ,bl⟩
 go_wp2_with (fail)
 refine (Calls.uJ (nA x1 S _ _ _ _ (Row.bel bl R1.out) aB aB)).mono ?_
 rintro e w1 ⟨l1,rfl,hl1,hb1⟩
 (have hz1:=hb1.sz;obtain⟨eA,fb,fc,fA⟩:=hb1.lay (w.heap.size))
 rcases hl1 with⟨hq1,rfl⟩ | ⟨hq1,hz1'⟩
 ·
  have rA:=hide hq1
  clear hq1
  go_wp2_with (fail)
  all_goals
   go_returns
   have yh:=rA.out
   exact⟨gn aQ,bl⟩
 have rA:=hide hq1
 have Lp:=hide hz1'
 have ha1:0<=l1:=aB
 have hc1:l1<=1048576:=aB
 clear hq1 hz1'
 go_wp2_with (fail)
 all_goals
  go_returns
  have yh:=rA.out
  have BV:=Lp.out
  exact⟨gn bh,bl⟩
theorem ym:∀t:cA,xG t:=by
 rintro⟨x0,x1,x2⟩
 intro S w vs hv hwt
 obtain⟨A1,c1,rfl,g0,hR1,g2⟩:=cA.vals hv
 have R1:=hide hR1
 have HW:=hide hwt
 rw[cA.fU]at hwt
 simp only[Dat.mg,Dat.wt,aj]at hwt
 have hw1:x1.length+Dat.jE (x1.map (fun x=>[Dat.str x]))<=1048576:=aB
 clear hv hwt hR1
 unfold maxLen at g0
 go_enter Tryz.func111,Tryz.ntmps111
 go_wp2_with (fail)
 refine (nB x1 S _ _ _ (Row.bel bl R1.out) hw1).mono ?_
 rintro e w1 ⟨B1,d1,rfl,J1,hb1⟩
 (have hz1:=hb1.sz;obtain⟨eA,fb,fc,fA⟩:=hb1.lay (w.heap.size);obtain⟨ff,fE,fR,fS⟩:=hb1.lay (w.heap.size+1);obtain⟨iM,jx,ko,kp⟩:=hb1.lay (w.heap.size+1+1))
 have Q1:=hide (Row.wide (S':=fun b=>w.heap.size+2<b) (fun b hb=>by simp at hb;omega) J1)
 clear J1
 go_wp2_with (fail)
 exact bodyPost_ret (v:=.agg #[.string x0,.slice B1 x1.length d1,.int .i64 x2]) (by simp[results,Tryz.results111,go_sem,ff,fE]) rfl
  ⟨[.string x0,.slice B1 x1.length d1,.int .i64 x2],rfl,cA.jk g0 (Row.wide (fun b hb=>by omega) (Row.off Sc Q1.out)) g2,bl⟩
theorem yn:∀t:cA,xH t:=by
 rintro⟨x0,x1,x2⟩
 intro S S' w vs vs' hv hv'
 obtain⟨A1,c1,rfl,g0,hR1,g2⟩:=cA.vals hv
 obtain⟨eA1,ec1,rfl,-,Qw,-⟩:=cA.vals hv'
 have R1:=hide hR1
 have T1:=hide Qw
 clear hv hv' hR1 Qw
 unfold maxLen at g0
 go_enter Tryz.func114,Tryz.ntmps114
 go_wp2_with (first
  | (go_at_call 58;(with_reducible refine (nC x1 S S' _ _ _ _ _ (Row.bel bl R1.out) (Row.bel bl T1.out)).mono ?_);rintro e w1 ⟨rfl,hb1⟩;have hz1:=hb1.sz;obtain⟨eA,fb,fc,fA⟩:=hb1.lay (w.heap.size);obtain⟨ff,fE,fR,fS⟩:=hb1.lay (w.heap.size+1);(try simp only[cV.val])))
 all_goals
  go_returns
  exact⟨rfl,bl⟩
theorem xI (ks:List cA) (S:Nat->Prop) (w:World) (A:Option Addr) (c:Nat) (left:Int) (hR:Row w S 3 A c (ks.map cA.D)) (h0:0<=left) (h1:left<=1048576) :
  Calls Tryz.prog 48 #[.slice A ks.length c,.int .i64 left] w fun e w'=>e=.returned (.int .i64 (Df (ks.length+Dat.jE (ks.map cA.D)) left))/\cE w w':=yi ks (fun _ _=>yl _) S w A c left hR h0 h1
theorem xJ (ks:List cA) (S:Nat->Prop) (w:World) (A:Option Addr) (c:Nat) (hR:Row w S 3 A c (ks.map cA.D)) (hwt:ks.length+Dat.jE (ks.map cA.D)<=1048576) :
  Calls Tryz.prog 53 #[.slice A ks.length c] w (uI w 3 (ks.map cA.D)):=yj ks (fun _ _=>ym _) S w A c hR hwt
theorem xK (ks:List cA) (S S':Nat->Prop) (w:World) (A A':Option Addr) (c c':Nat) (hR:Row w S 3 A c (ks.map cA.D)) (hR':Row w S' 3 A' c' (ks.map cA.D)) :
  Calls Tryz.prog 59 #[.slice A ks.length c,.slice A' ks.length c'] w fun e w'=>e=.returned (.bool true)/\cE w w':=yk ks (fun _ _=>yn _) S S' w A A' c c' hR hR'
def Tv (t:cv):Prop:=∀(S:Nat->Prop) (w:World) (vs:List Value) (left:Int),Dat.cC w S t.D vs->0<=left->left<=1048576 ->
 Calls Tryz.prog 15 #[.agg vs.toArray,.int .i64 left] w fun e w'=>e=.returned (.int .i64 (Df (Dat.mg t.D) left))/\cE w w'
def Tw (t:cv):Prop:=∀(S:Nat->Prop) (w:World) (vs:List Value),Dat.cC w S t.D vs->Dat.mg t.D<=1048576 ->
 Calls Tryz.prog 17 #[.agg vs.toArray] w (Ep w t.D)
def Tx (t:cv):Prop:=∀(S S':Nat->Prop) (w:World) (vs vs':List Value),Dat.cC w S t.D vs->Dat.cC w S' t.D vs' ->
 Calls Tryz.prog 19 #[.agg vs.toArray,.agg vs'.toArray] w fun e w'=>e=.returned (.bool true)/\cE w w'
theorem qe:∀t:cv,Tv t:=by
 rintro⟨x0,x1,x2,x3,x4,x5,x6,x7,x8,x9,x10,x11,x12⟩
 intro S w vs left hv h0 h1
 obtain⟨A0,c0,A1,c1,A2,c2,A3,c3,A6,c6,A7,c7,A8,c8,rfl,hR0,hR1,hR2,xV,g4,g5,J3,J4,J5,-,g10,g11,g12⟩:=cv.vals hv
 have R0:=hide hR0
 have R1:=hide hR1
 have R2:=hide hR2
 have R3:=hide xV
 have R6:=hide J3
 have R7:=hide J4
 have R8:=hide J5
 clear hv hR0 hR1 hR2 xV J3 J4 J5
 unfold maxLen at g4
 rw[cv.fU]
 simp only[Dat.mg,Dat.wt,aj]
 go_enter Tryz.func15,Tryz.ntmps15
 go_wp2_with (fail)
 refine (Calls.uJ (nA x0 S _ _ _ _ (Row.bel bl R0.out) aB aB)).mono ?_
 rintro e w1 ⟨l1,rfl,hl1,hb1⟩
 (have hz1:=hb1.sz;obtain⟨eA,fb,fc,fA⟩:=hb1.lay (w.heap.size))
 rcases hl1 with⟨hq1,rfl⟩ | ⟨hq1,hz1'⟩
 ·
  have rA:=hide hq1
  clear hq1
  go_wp2_with (fail)
  all_goals
   go_returns
   have yh:=rA.out
   exact⟨gn aQ,bl⟩
 have rA:=hide hq1
 have Lp:=hide hz1'
 have ha1:0<=l1:=aB
 have hc1:l1<=1048576:=aB
 clear hq1 hz1'
 go_wp2_with (fail)
 refine (Calls.uJ (xI x1 S _ _ _ _ (Row.bel bl R1.out) aB aB)).mono ?_
 rintro e w2 ⟨l2,rfl,hl2,hb2⟩
 (have hz2:=hb2.sz;obtain⟨gO,lJ,mG,mH⟩:=hb2.lay (w.heap.size))
 rcases hl2 with⟨hq2,rfl⟩ | ⟨hq2,hz2'⟩
 ·
  have xT:=hide hq2
  clear hq2
  go_wp2_with (fail)
  all_goals
   go_returns
   have yh:=rA.out
   have BV:=Lp.out
   have D6:=xT.out
   exact⟨gn aQ,bl⟩
 have xT:=hide hq2
 have HL2:=hide hz2'
 have ha2:0<=l2:=aB
 have hc2:l2<=1048576:=aB
 clear hq2 hz2'
 go_wp2_with (fail)
 refine (Calls.uJ (BW x2 S _ _ _ _ (Row.bel bl R2.out) aB aB)).mono ?_
 rintro e w3 ⟨l3,rfl,hl3,hb3⟩
 (have hz3:=hb3.sz;obtain⟨jw,uK,zP,zQ⟩:=hb3.lay (w.heap.size))
 rcases hl3 with⟨hq3,rfl⟩ | ⟨hq3,aeC⟩
 ·
  have xd:=hide hq3
  clear hq3
  go_wp2_with (fail)
  all_goals
   go_returns
   have yh:=rA.out
   have BV:=Lp.out
   have D6:=xT.out
   have H5:=HL2.out
   have Lq:=xd.out
   exact⟨gn aQ,bl⟩
 have xd:=hide hq3
 have HL3:=hide aeC
 have JD:0<=l3:=aB
 have hc3:l3<=1048576:=aB
 clear hq3 aeC
 go_wp2_with (fail)
 refine (Calls.uJ (rZ x3 S _ _ _ _ (Row.bel bl R3.out) aB aB)).mono ?_
 rintro e w4 ⟨l4,rfl,hl4,hb4⟩
 (have Sz:=hb4.sz;obtain⟨oZ,xe,zR,zS⟩:=hb4.lay (w.heap.size))
 rcases hl4 with⟨hq4,rfl⟩ | ⟨hq4,aeD⟩
 ·
  have DD:=hide hq4
  clear hq4
  go_wp2_with (fail)
  all_goals
   go_returns
   have yh:=rA.out
   have BV:=Lp.out
   have D6:=xT.out
   have H5:=HL2.out
   have Lq:=xd.out
   have Qx:=HL3.out
   have Qy:=DD.out
   exact⟨gn aQ,bl⟩
 have DD:=hide hq4
 have HL4:=hide aeD
 have ha4:0<=l4:=aB
 have hc4:l4<=1048576:=aB
 clear hq4 aeD
 rcases Int.lt_or_le (l4) (x4.size:Int)with hq4 | hq4
 ·
  go_wp2_with (fail)
  all_goals
   go_returns
   have yh:=rA.out
   have BV:=Lp.out
   have D6:=xT.out
   have H5:=HL2.out
   have Lq:=xd.out
   have Qx:=HL3.out
   have Qy:=DD.out
   have Ty:=HL4.out
   exact⟨gn aQ,bl⟩
 go_wp2_with (fail)
 refine (Calls.uJ (nA x6 S _ _ _ _ (Row.bel bl R6.out) aB aB)).mono ?_
 rintro e w5 ⟨l5,rfl,hl5,hb5⟩
 (have hz5:=hb5.sz;obtain⟨tc,Cl,IB,IC⟩:=hb5.lay (w.heap.size))
 rcases hl5 with⟨hq5,rfl⟩ | ⟨hq5,aeF⟩
 ·
  have HQ5:=hide hq5
  clear hq5
  go_wp2_with (fail)
  all_goals
   go_returns
   have yh:=rA.out
   have BV:=Lp.out
   have D6:=xT.out
   have H5:=HL2.out
   have Lq:=xd.out
   have Qx:=HL3.out
   have Qy:=DD.out
   have Ty:=HL4.out
   have ZY:=HQ5.out
   exact⟨gn aQ,bl⟩
 have HQ5:=hide hq5
 have HL5:=hide aeF
 have ha5:0<=l5:=aB
 have hc5:l5<=1048576:=aB
 clear hq5 aeF
 go_wp2_with (fail)
 refine (Calls.uJ (nA x7 S _ _ _ _ (Row.bel bl R7.out) aB aB)).mono ?_
 rintro e w6 ⟨l6,rfl,SA,hb6⟩
 (have Sj:=hb6.sz;obtain⟨uL,Cm,ID,IE⟩:=hb6.lay (w.heap.size))
 rcases SA with⟨hq6,rfl⟩ | ⟨hq6,aeH⟩
 ·
  have Mi:=hide hq6
  clear hq6
  go_wp2_with (fail)
  all_goals
   go_returns
   have yh:=rA.out
   have BV:=Lp.out
   have D6:=xT.out
   have H5:=HL2.out
   have Lq:=xd.out
   have Qx:=HL3.out
   have Qy:=DD.out
   have Ty:=HL4.out
   have ZY:=HQ5.out
   have aeI:=HL5.out
   have aeJ:=Mi.out
   exact⟨gn aQ,bl⟩
 have Mi:=hide hq6
 have HL6:=hide aeH
 have ha6:0<=l6:=aB
 have hc6:l6<=1048576:=aB
 clear hq6 aeH
 go_wp2_with (fail)
 refine (Calls.uJ (BR x8 S _ _ _ _ (Row.bel bl R8.out) aB aB)).mono ?_
 rintro e w7 ⟨l7,rfl,SD,hb7⟩
 (have hz7:=hb7.sz;obtain⟨IF,IG,II,IJ⟩:=hb7.lay (w.heap.size))
 rcases SD with⟨hq7,rfl⟩ | ⟨hq7,aeK⟩
 ·
  have Sf:=hide hq7
  clear hq7
  go_wp2_with (fail)
  all_goals
   go_returns
   have yh:=rA.out
   have BV:=Lp.out
   have D6:=xT.out
   have H5:=HL2.out
   have Lq:=xd.out
   have Qx:=HL3.out
   have Qy:=DD.out
   have Ty:=HL4.out
   have ZY:=HQ5.out
   have aeI:=HL5.out
   have aeJ:=Mi.out
   have ah1:=HL6.out
   have ah2:=Sf.out
   exact⟨gn aQ,bl⟩
 have Sf:=hide hq7
 have HL7:=hide aeK
 have ha7:0<=l7:=aB
 have hc7:l7<=1048576:=aB
 clear hq7 aeK
 go_wp2_with (fail)
 all_goals
  go_returns
  have yh:=rA.out
  have BV:=Lp.out
  have D6:=xT.out
  have H5:=HL2.out
  have Lq:=xd.out
  have Qx:=HL3.out
  have Qy:=DD.out
  have Ty:=HL4.out
  have ZY:=HQ5.out
  have aeI:=HL5.out
  have aeJ:=Mi.out
  have ah1:=HL6.out
  have ah2:=Sf.out
  have amW:=HL7.out
  exact⟨gn bh,bl⟩
theorem tC:∀t:cv,Tw t:=by
 rintro⟨x0,x1,x2,x3,x4,x5,x6,x7,x8,x9,x10,x11,x12⟩
 intro S w vs hv hwt
 obtain⟨A0,c0,A1,c1,A2,c2,A3,c3,A6,c6,A7,c7,A8,c8,rfl,hR0,hR1,hR2,xV,g4,g5,J3,J4,J5,-,g10,g11,g12⟩:=cv.vals hv
 have R0:=hide hR0
 have R1:=hide hR1
 have R2:=hide hR2
 have R3:=hide xV
 have R6:=hide J3
 have R7:=hide J4
 have R8:=hide J5
 have HW:=hide hwt
 rw[cv.fU]at hwt
 simp only[Dat.mg,Dat.wt,aj]at hwt
 have hw0:x0.length+Dat.jE (x0.map (fun x=>[Dat.str x]))<=1048576:=aB
 have hw1:x1.length+Dat.jE (x1.map cA.D)<=1048576:=aB
 have hw2:x2.length+Dat.jE (x2.map cz.D)<=1048576:=aB
 have hw3:x3.length+Dat.jE (x3.map cw.D)<=1048576:=aB
 have hw6:x6.length+Dat.jE (x6.map (fun x=>[Dat.str x]))<=1048576:=aB
 have hw7:x7.length+Dat.jE (x7.map (fun x=>[Dat.str x]))<=1048576:=aB
 have hw8:x8.length+Dat.jE (x8.map cJ.D)<=1048576:=aB
 clear hv hwt hR0 hR1 hR2 xV J3 J4 J5
 unfold maxLen at g4
 go_enter Tryz.func17,Tryz.ntmps17
 go_wp2_with (fail)
 refine (nB x0 S _ _ _ (Row.bel bl R0.out) hw0).mono ?_
 rintro e w1 ⟨B0,d0,rfl,hQ0,hb1⟩
 (have hz1:=hb1.sz;obtain⟨eA,fb,fc,fA⟩:=hb1.lay (w.heap.size);obtain⟨ff,fE,fR,fS⟩:=hb1.lay (w.heap.size+1);obtain⟨iM,jx,ko,kp⟩:=hb1.lay (w.heap.size+1+1))
 have Q0:=hide (Row.wide (S':=fun b=>w.heap.size+2<b) (fun b hb=>by simp at hb;omega) hQ0)
 clear hQ0
 go_wp2_with (fail)
 refine (xJ x1 S _ _ _ (Row.bel bl R1.out) hw1).mono ?_
 rintro e w2 ⟨B1,d1,rfl,J1,hb2⟩
 (have hz2:=hb2.sz;obtain⟨gO,lJ,mG,mH⟩:=hb2.lay (w.heap.size);obtain⟨iW,nT,sn,su⟩:=hb2.lay (w.heap.size+1);obtain⟨jW,uO,Aa,Ab⟩:=hb2.lay (w.heap.size+1+1))
 have Q1:=hide (Row.wide (S':=fun b=>w.heap.size+2<b) (fun b hb=>by simp at hb;omega) J1)
 clear J1
 go_wp2_with (fail)
 refine (BZ x2 S _ _ _ (Row.bel bl R2.out) hw2).mono ?_
 rintro e w3 ⟨B2,d2,rfl,hQ2,hb3⟩
 (have hz3:=hb3.sz;obtain⟨jw,uK,zP,zQ⟩:=hb3.lay (w.heap.size);obtain⟨kq,yx,EH,EI⟩:=hb3.lay (w.heap.size+1);obtain⟨lj,Cp,IU,IV⟩:=hb3.lay (w.heap.size+1+1))
 have Q2:=hide (Row.wide (S':=fun b=>w.heap.size+2<b) (fun b hb=>by simp at hb;omega) hQ2)
 clear hQ2
 go_wp2_with (fail)
 refine (sa x3 S _ _ _ (Row.bel bl R3.out) hw3).mono ?_
 rintro e w4 ⟨B3,d3,rfl,JY,hb4⟩
 (have Sz:=hb4.sz;obtain⟨oZ,xe,zR,zS⟩:=hb4.lay (w.heap.size);obtain⟨mr,yy,EJ,EK⟩:=hb4.lay (w.heap.size+1);obtain⟨pd,NR,acw,acx⟩:=hb4.lay (w.heap.size+1+1))
 have Q3:=hide (Row.wide (S':=fun b=>w.heap.size+2<b) (fun b hb=>by simp at hb;omega) JY)
 clear JY
 go_wp2_with (fail)
 refine (nB x6 S _ _ _ (Row.bel bl R6.out) hw6).mono ?_
 rintro e w5 ⟨B6,d6,rfl,hQ6,hb5⟩
 (have hz5:=hb5.sz;obtain⟨tc,Cl,IB,IC⟩:=hb5.lay (w.heap.size);obtain⟨nU,EL,Wf,Wg⟩:=hb5.lay (w.heap.size+1);obtain⟨pe,NY,acy,acz⟩:=hb5.lay (w.heap.size+1+1))
 have Q6:=hide (Row.wide (S':=fun b=>w.heap.size+2<b) (fun b hb=>by simp at hb;omega) hQ6)
 clear hQ6
 go_wp2_with (fail)
 refine (nB x7 S _ _ _ (Row.bel bl R7.out) hw7).mono ?_
 rintro e w6 ⟨B7,d7,rfl,hQ7,hb6⟩
 (have Sj:=hb6.sz;obtain⟨uL,Cm,ID,IE⟩:=hb6.lay (w.heap.size);obtain⟨nV,EO,WB,WC⟩:=hb6.lay (w.heap.size+1);obtain⟨pg,Og,acA,acB⟩:=hb6.lay (w.heap.size+1+1))
 have Q7:=hide (Row.wide (S':=fun b=>w.heap.size+2<b) (fun b hb=>by simp at hb;omega) hQ7)
 clear hQ7
 go_wp2_with (fail)
 refine (BS x8 S _ _ _ (Row.bel bl R8.out) hw8).mono ?_
 rintro e w7 ⟨B8,d8,rfl,hQ8,hb7⟩
 (have hz7:=hb7.sz;obtain⟨IF,IG,II,IJ⟩:=hb7.lay (w.heap.size);obtain⟨IX,IY,WD,WE⟩:=hb7.lay (w.heap.size+1);obtain⟨WG,WH,acW,acX⟩:=hb7.lay (w.heap.size+1+1))
 have Q8:=hide (Row.wide (S':=fun b=>w.heap.size+2<b) (fun b hb=>by simp at hb;omega) hQ8)
 clear hQ8
 go_wp2_with (fail)
 exact bodyPost_ret (v:=.agg #[.slice B0 x0.length d0,.slice B1 x1.length d1,.slice B2 x2.length d2,.slice B3 x3.length d3,.string x4,.int .i64 x5,.slice B6 x6.length d6,.slice B7 x7.length d7,.slice B8 x8.length d8,.bool x9,.int .i64 x10,.int .i64 x11,.int .i64 x12]) (by simp[results,Tryz.results17,go_sem,ff,fE,iW,nT,kq,yx,mr,yy,nU,EL,nV,EO,IX,IY]) rfl
  ⟨[.slice B0 x0.length d0,.slice B1 x1.length d1,.slice B2 x2.length d2,.slice B3 x3.length d3,.string x4,.int .i64 x5,.slice B6 x6.length d6,.slice B7 x7.length d7,.slice B8 x8.length d8,.bool x9,.int .i64 x10,.int .i64 x11,.int .i64 x12],rfl,cv.jk (Row.wide (fun b hb=>by omega) (Row.off Sc Q0.out)) (Row.wide (fun b hb=>by omega) (Row.off Sc Q1.out)) (Row.wide (fun b hb=>by omega) (Row.off Sc Q2.out)) (Row.wide (fun b hb=>by omega) (Row.off Sc Q3.out)) g4 g5 (Row.wide (fun b hb=>by omega) (Row.off Sc Q6.out)) (Row.wide (fun b hb=>by omega) (Row.off Sc Q7.out)) (Row.wide (fun b hb=>by omega) (Row.off Sc Q8.out)) g10 g11 g12,bl⟩
theorem qf:∀t:cv,Tx t:=by
 rintro⟨x0,x1,x2,x3,x4,x5,x6,x7,x8,x9,x10,x11,x12⟩
 intro S S' w vs vs' hv hv'
 obtain⟨A0,c0,A1,c1,A2,c2,A3,c3,A6,c6,A7,c7,A8,c8,rfl,hR0,hR1,hR2,xV,g4,g5,J3,J4,J5,-,g10,g11,g12⟩:=cv.vals hv
 obtain⟨eA0,ec0,eA1,ec1,eA2,ec2,eA3,ec3,eA6,ec6,eA7,ec7,eA8,ec8,rfl,aeL,Qw,aeM,Qv,-,-,aeN,aeO,aeP,-,-,-,-⟩:=cv.vals hv'
 have R0:=hide hR0
 have R1:=hide hR1
 have R2:=hide hR2
 have R3:=hide xV
 have R6:=hide J3
 have R7:=hide J4
 have R8:=hide J5
 have T0:=hide aeL
 have T1:=hide Qw
 have T2:=hide aeM
 have T3:=hide Qv
 have T6:=hide aeN
 have T7:=hide aeO
 have T8:=hide aeP
 clear hv hv' hR0 hR1 hR2 xV J3 J4 J5 aeL Qw aeM Qv aeN aeO aeP
 unfold maxLen at g4
 go_enter Tryz.func19,Tryz.ntmps19
 go_wp2_with (first
  | (go_at_call 58;(with_reducible refine (nC x0 S S' _ _ _ _ _ (Row.bel bl R0.out) (Row.bel bl T0.out)).mono ?_);rintro e w1 ⟨rfl,hb1⟩;have hz1:=hb1.sz;obtain⟨eA,fb,fc,fA⟩:=hb1.lay (w.heap.size);obtain⟨ff,fE,fR,fS⟩:=hb1.lay (w.heap.size+1);(try simp only[cV.val]))
  | (go_at_call 59;(with_reducible refine (xK x1 S S' _ _ _ _ _ (Row.bel bl R1.out) (Row.bel bl T1.out)).mono ?_);rintro e w2 ⟨rfl,hb2⟩;have hz2:=hb2.sz;obtain⟨gO,lJ,mG,mH⟩:=hb2.lay (w.heap.size);obtain⟨iW,nT,sn,su⟩:=hb2.lay (w.heap.size+1);(try simp only[cV.val]))
  | (go_at_call 60;(with_reducible refine (B5 x2 S S' _ _ _ _ _ (Row.bel bl R2.out) (Row.bel bl T2.out)).mono ?_);rintro e w3 ⟨rfl,hb3⟩;have hz3:=hb3.sz;obtain⟨jw,uK,zP,zQ⟩:=hb3.lay (w.heap.size);obtain⟨kq,yx,EH,EI⟩:=hb3.lay (w.heap.size+1);(try simp only[cV.val]))
  | (go_at_call 61;(with_reducible refine (sc x3 S S' _ _ _ _ _ (Row.bel bl R3.out) (Row.bel bl T3.out)).mono ?_);rintro e w4 ⟨rfl,hb4⟩;have Sz:=hb4.sz;obtain⟨oZ,xe,zR,zS⟩:=hb4.lay (w.heap.size);obtain⟨mr,yy,EJ,EK⟩:=hb4.lay (w.heap.size+1);(try simp only[cV.val]))
  | (go_at_call 58;(with_reducible refine (nC x6 S S' _ _ _ _ _ (Row.bel bl R6.out) (Row.bel bl T6.out)).mono ?_);rintro e w5 ⟨rfl,hb5⟩;have hz5:=hb5.sz;obtain⟨tc,Cl,IB,IC⟩:=hb5.lay (w.heap.size);obtain⟨nU,EL,Wf,Wg⟩:=hb5.lay (w.heap.size+1);(try simp only[cV.val]))
  | (go_at_call 58;(with_reducible refine (nC x7 S S' _ _ _ _ _ (Row.bel bl R7.out) (Row.bel bl T7.out)).mono ?_);rintro e w6 ⟨rfl,hb6⟩;have Sj:=hb6.sz;obtain⟨uL,Cm,ID,IE⟩:=hb6.lay (w.heap.size);obtain⟨nV,EO,WB,WC⟩:=hb6.lay (w.heap.size+1);(try simp only[cV.val]))
  | (go_at_call 62;(with_reducible refine (BU x8 S S' _ _ _ _ _ (Row.bel bl R8.out) (Row.bel bl T8.out)).mono ?_);rintro e w7 ⟨rfl,hb7⟩;have hz7:=hb7.sz;obtain⟨IF,IG,II,IJ⟩:=hb7.lay (w.heap.size);obtain⟨IX,IY,WD,WE⟩:=hb7.lay (w.heap.size+1);(try simp only[cV.val])))
 all_goals
  go_returns
  exact⟨rfl,bl⟩
end Go.Proofs.YtjngkknbpfgdcaaGreatDoor
