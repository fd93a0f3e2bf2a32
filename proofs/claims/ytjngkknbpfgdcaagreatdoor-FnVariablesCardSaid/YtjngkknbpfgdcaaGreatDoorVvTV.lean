import Derived.Test.YtjngkknbpfgdcaaGreatDoorVvB
set_option linter.unusedVariables false
set_option linter.unusedSimpArgs false
set_option maxRecDepth 100000
set_option maxHeartbeats 8000000
namespace Go.Proofs.YtjngkknbpfgdcaaGreatDoor
open Go.ChangeShapes Go.WideShapes Go.RowKit Go.Deep
inductive cw where
 | mk (Name:cx) (Fields:List cx) (Line:Int)
def cw.D:cw->List Y
 | .mk x0 x1 x2=>[.str x0,.row 1 (x1.map fun x=>[.str x]),.int x2]
theorem cw.iM {x0:cx} {x1:List cx} {x2:Int}:(cw.mk x0 x1 x2).D=[.str x0,.row 1 (x1.map fun x=>[.str x]),.int x2]:=by
 simp only[cw.D]
theorem cw.xW:∀t:cw,t.D.length=3
 | .mk x0 x1 x2=>by rw[cw.iM];rfl
theorem cw.gK {w:World} {S:Nat->Prop} {x0:cx} {x1:List cx} {x2:Int} {vs:List Value} (h:Y.cA w S (cw.mk x0 x1 x2).D vs):∃xQ xR,vs=[.string x0,.slice xQ x1.length xR,.int .i64 x2]/\x0.size<=maxLen/\Row w S 1 xQ xR (x1.map fun x=>[.str x])/\dT x2:=by
 rw[cw.iM]at h
 match vs,h with
 | [u0,u1,u2],h =>
  obtain⟨h0,h1,h2,-⟩:=h
  obtain⟨rfl,g0⟩:=Y.kc.1 h0
  obtain⟨xQ,xR,rfl,g1⟩:=Y.fB.1 h1
  obtain⟨rfl,g2⟩:=Y.db.1 h2
  exact⟨xQ,xR,by simp only[ar],g0,g1,g2⟩
theorem cw.mG {w:World} {S:Nat->Prop} {x0:cx} {x1:List cx} {x2:Int} {xQ:Option Addr} {xR:Nat} (h0:x0.size<=maxLen) (h1:Row w S 1 xQ xR (x1.map fun x=>[.str x])) (h2:dT x2):Y.cA w S (cw.mk x0 x1 x2).D [.string x0,.slice xQ x1.length xR,.int .i64 x2]:=by
 rw[cw.iM]
 exact⟨Y.kc.2 ⟨rfl,h0⟩,Y.fB.2 ⟨_,_,by simp only[ar],h1⟩,Y.db.2 ⟨rfl,h2⟩,trivial⟩
theorem cw.at {w:World} {S:Nat->Prop} {A:Option Addr} {c:Nat} {l:List cw} (h:Row w S 3 A c (l.map cw.D)) (i:Nat) (hi:i<l.length) :
  ∃b o x0 x1 x2 xQ xR,A=some ⟨b,o,none⟩/\S b/\b<w.heap.size/\l[i]=.mk x0 x1 x2/\Y.cA w S l[i].D [.string x0,.slice xQ x1.length xR,.int .i64 x2]/\x0.size<=maxLen/\Row w S 1 xQ xR (x1.map fun x=>[.str x])/\dT x2/\w.cell? ⟨b,o+i*3,none⟩=some (.string x0)/\w.cell? ⟨b,o+i*3+1,none⟩=some (.slice xQ x1.length xR)/\w.cell? ⟨b,o+i*3+2,none⟩=some (.int .i64 x2):=by
 obtain⟨b,o,vs,hA,hS,hb,hv,hl,hc⟩:=Row.at h i bD
 rw[List.getElem_map]at hv
 obtain⟨x0,x1,x2,hx⟩:∃x0 x1 x2,l[i]=.mk x0 x1 x2:=by cases l[i];exact⟨_,_,_,rfl⟩
 have oZ:=hv
 rw[hx]at oZ
 obtain⟨xQ,xR,rfl,g0,g1,g2⟩:=cw.gK oZ
 exact⟨b,o,_,_,_,_,_,hA,hS,hb,hx,hv,g0,g1,g2,by simpa using hc 0 aI,by simpa using hc 1 aI,by simpa using hc 2 aI⟩
theorem cw.el {w wr:World} {S:Nat->Prop} {A:Option Addr} {c:Nat} {l:List cw} (h:Row w S 3 A c (l.map cw.D)) (i:Nat) (hi:i<l.length) (hB:U w wr) :
  ∃b o x0 x1 x2 xQ xR,A=some ⟨b,o,none⟩/\b<w.heap.size/\b<wr.heap.size/\Hid (l[i]=.mk x0 x1 x2)/\Hid (Y.cA wr S l[i].D [.string x0,.slice xQ x1.length xR,.int .i64 x2])/\x0.size<=maxLen/\Hid (Row w S 1 xQ xR (x1.map fun x=>[.str x]))/\dT x2/\wr.cell? ⟨b,o+i*3,none⟩=some (.string x0)/\wr.cell? ⟨b,o+i*3+1,none⟩=some (.slice xQ x1.length xR)/\wr.cell? ⟨b,o+i*3+2,none⟩=some (.int .i64 x2):=by
  obtain⟨b,o,x0,x1,x2,xQ,xR,hA,-,hb,hx,hv,p0,p1,p2,p3,p4,p5⟩:=cw.at h i hi
  exact⟨b,o,x0,x1,x2,xQ,xR,hA,hb,au hb (U.size hB),I hx,I (Y.cA.de hB hv),p0,I p1,p2,(hB.box b hb _).trans p3,(hB.box b hb _).trans p4,(hB.box b hb _).trans p5⟩
inductive R where
 | mk (Kind:Int) (Number:Int) (Index:Int) (Text:cx) (aaf:Int) (Ul:Int)
def R.D:R->List Y
 | .mk x0 x1 x2 x3 x4 x5=>[.int x0,.int x1,.int x2,.str x3,.int x4,.int x5]
theorem R.iM {x0:Int} {x1:Int} {x2:Int} {x3:cx} {x4:Int} {x5:Int}:(R.mk x0 x1 x2 x3 x4 x5).D=[.int x0,.int x1,.int x2,.str x3,.int x4,.int x5]:=by
 simp only[R.D]
theorem R.xW:∀t:R,t.D.length=6
 | .mk x0 x1 x2 x3 x4 x5=>by rw[R.iM];rfl
theorem R.gK {w:World} {S:Nat->Prop} {x0:Int} {x1:Int} {x2:Int} {x3:cx} {x4:Int} {x5:Int} {vs:List Value} (h:Y.cA w S (R.mk x0 x1 x2 x3 x4 x5).D vs):vs=[.int .i64 x0,.int .i64 x1,.int .i64 x2,.string x3,.int .i64 x4,.int .i64 x5]/\dT x0/\dT x1/\dT x2/\x3.size<=maxLen/\dT x4/\dT x5:=by
 rw[R.iM]at h
 match vs,h with
 | [u0,u1,u2,u3,u4,u5],h =>
  obtain⟨h0,h1,h2,h3,h4,h5,-⟩:=h
  obtain⟨rfl,g0⟩:=Y.db.1 h0
  obtain⟨rfl,g1⟩:=Y.db.1 h1
  obtain⟨rfl,g2⟩:=Y.db.1 h2
  obtain⟨rfl,g3⟩:=Y.kc.1 h3
  obtain⟨rfl,g4⟩:=Y.db.1 h4
  obtain⟨rfl,g5⟩:=Y.db.1 h5
  exact⟨rfl,g0,g1,g2,g3,g4,g5⟩
theorem R.mG {w:World} {S:Nat->Prop} {x0:Int} {x1:Int} {x2:Int} {x3:cx} {x4:Int} {x5:Int} (h0:dT x0) (h1:dT x1) (h2:dT x2) (h3:x3.size<=maxLen) (h4:dT x4) (h5:dT x5):Y.cA w S (R.mk x0 x1 x2 x3 x4 x5).D [.int .i64 x0,.int .i64 x1,.int .i64 x2,.string x3,.int .i64 x4,.int .i64 x5]:=by
 rw[R.iM]
 exact⟨Y.db.2 ⟨rfl,h0⟩,Y.db.2 ⟨rfl,h1⟩,Y.db.2 ⟨rfl,h2⟩,Y.kc.2 ⟨rfl,h3⟩,Y.db.2 ⟨rfl,h4⟩,Y.db.2 ⟨rfl,h5⟩,trivial⟩
theorem R.at {w:World} {S:Nat->Prop} {A:Option Addr} {c:Nat} {l:List R} (h:Row w S 6 A c (l.map R.D)) (i:Nat) (hi:i<l.length) :
  ∃b o x0 x1 x2 x3 x4 x5,A=some ⟨b,o,none⟩/\S b/\b<w.heap.size/\l[i]=.mk x0 x1 x2 x3 x4 x5/\Y.cA w S l[i].D [.int .i64 x0,.int .i64 x1,.int .i64 x2,.string x3,.int .i64 x4,.int .i64 x5]/\dT x0/\dT x1/\dT x2/\x3.size<=maxLen/\dT x4/\dT x5/\w.cell? ⟨b,o+i*6,none⟩=some (.int .i64 x0)/\w.cell? ⟨b,o+i*6+1,none⟩=some (.int .i64 x1)/\w.cell? ⟨b,o+i*6+2,none⟩=some (.int .i64 x2)/\w.cell? ⟨b,o+i*6+3,none⟩=some (.string x3)/\w.cell? ⟨b,o+i*6+4,none⟩=some (.int .i64 x4)/\w.cell? ⟨b,o+i*6+5,none⟩=some (.int .i64 x5):=by
 obtain⟨b,o,vs,hA,hS,hb,hv,hl,hc⟩:=Row.at h i bD
 rw[List.getElem_map]at hv
 obtain⟨x0,x1,x2,x3,x4,x5,hx⟩:∃x0 x1 x2 x3 x4 x5,l[i]=.mk x0 x1 x2 x3 x4 x5:=by cases l[i];exact⟨_,_,_,_,_,_,rfl⟩
 have oZ:=hv
 rw[hx]at oZ
 obtain⟨rfl,g0,g1,g2,g3,g4,g5⟩:=R.gK oZ
 exact⟨b,o,_,_,_,_,_,_,hA,hS,hb,hx,hv,g0,g1,g2,g3,g4,g5,by simpa using hc 0 aI,by simpa using hc 1 aI,by simpa using hc 2 aI,by simpa using hc 3 aI,by simpa using hc 4 aI,by simpa using hc 5 aI⟩
theorem R.el {w wr:World} {S:Nat->Prop} {A:Option Addr} {c:Nat} {l:List R} (h:Row w S 6 A c (l.map R.D)) (i:Nat) (hi:i<l.length) (hB:U w wr) :
  ∃b o x0 x1 x2 x3 x4 x5,A=some ⟨b,o,none⟩/\b<w.heap.size/\b<wr.heap.size/\Hid (l[i]=.mk x0 x1 x2 x3 x4 x5)/\Hid (Y.cA wr S l[i].D [.int .i64 x0,.int .i64 x1,.int .i64 x2,.string x3,.int .i64 x4,.int .i64 x5])/\dT x0/\dT x1/\dT x2/\x3.size<=maxLen/\dT x4/\dT x5/\wr.cell? ⟨b,o+i*6,none⟩=some (.int .i64 x0)/\wr.cell? ⟨b,o+i*6+1,none⟩=some (.int .i64 x1)/\wr.cell? ⟨b,o+i*6+2,none⟩=some (.int .i64 x2)/\wr.cell? ⟨b,o+i*6+3,none⟩=some (.string x3)/\wr.cell? ⟨b,o+i*6+4,none⟩=some (.int .i64 x4)/\wr.cell? ⟨b,o+i*6+5,none⟩=some (.int .i64 x5):=by
  obtain⟨b,o,x0,x1,x2,x3,x4,x5,hA,-,hb,hx,hv,p0,p1,p2,p3,p4,p5,p6,p7,p8,p9,p10,p11⟩:=R.at h i hi
  exact⟨b,o,x0,x1,x2,x3,x4,x5,hA,hb,au hb (U.size hB),I hx,I (Y.cA.de hB hv),p0,p1,p2,p3,p4,p5,(hB.box b hb _).trans p6,(hB.box b hb _).trans p7,(hB.box b hb _).trans p8,(hB.box b hb _).trans p9,(hB.box b hb _).trans p10,(hB.box b hb _).trans p11⟩
theorem R.e0 {w wr:World} {S:Nat->Prop} {A:Option Addr} {c:Nat} {l:List R} (h:Row w S 6 A c (l.map R.D)) (hi:0<l.length) (hB:U w wr) :
  ∃b o x0 x1 x2 x3 x4 x5,A=some ⟨b,o,none⟩/\b<w.heap.size/\b<wr.heap.size/\Hid (l[0]=.mk x0 x1 x2 x3 x4 x5)/\Hid (Y.cA wr S l[0].D [.int .i64 x0,.int .i64 x1,.int .i64 x2,.string x3,.int .i64 x4,.int .i64 x5])/\dT x0/\dT x1/\dT x2/\x3.size<=maxLen/\dT x4/\dT x5/\wr.cell? ⟨b,o,none⟩=some (.int .i64 x0)/\wr.cell? ⟨b,o+1,none⟩=some (.int .i64 x1)/\wr.cell? ⟨b,o+2,none⟩=some (.int .i64 x2)/\wr.cell? ⟨b,o+3,none⟩=some (.string x3)/\wr.cell? ⟨b,o+4,none⟩=some (.int .i64 x4)/\wr.cell? ⟨b,o+5,none⟩=some (.int .i64 x5):=R.el h 0 hi hB
theorem R.e1 {w wr:World} {S:Nat->Prop} {A:Option Addr} {c:Nat} {l:List R} (h:Row w S 6 A c (l.map R.D)) (hi:1<l.length) (hB:U w wr) :
  ∃b o x0 x1 x2 x3 x4 x5,A=some ⟨b,o,none⟩/\b<w.heap.size/\b<wr.heap.size/\Hid (l[1]=.mk x0 x1 x2 x3 x4 x5)/\Hid (Y.cA wr S l[1].D [.int .i64 x0,.int .i64 x1,.int .i64 x2,.string x3,.int .i64 x4,.int .i64 x5])/\dT x0/\dT x1/\dT x2/\x3.size<=maxLen/\dT x4/\dT x5/\wr.cell? ⟨b,o+6,none⟩=some (.int .i64 x0)/\wr.cell? ⟨b,o+7,none⟩=some (.int .i64 x1)/\wr.cell? ⟨b,o+8,none⟩=some (.int .i64 x2)/\wr.cell? ⟨b,o+9,none⟩=some (.string x3)/\wr.cell? ⟨b,o+10,none⟩=some (.int .i64 x4)/\wr.cell? ⟨b,o+11,none⟩=some (.int .i64 x5):=R.el h 1 hi hB
theorem R.e2 {w wr:World} {S:Nat->Prop} {A:Option Addr} {c:Nat} {l:List R} (h:Row w S 6 A c (l.map R.D)) (hi:2<l.length) (hB:U w wr) :
  ∃b o x0 x1 x2 x3 x4 x5,A=some ⟨b,o,none⟩/\b<w.heap.size/\b<wr.heap.size/\Hid (l[2]=.mk x0 x1 x2 x3 x4 x5)/\Hid (Y.cA wr S l[2].D [.int .i64 x0,.int .i64 x1,.int .i64 x2,.string x3,.int .i64 x4,.int .i64 x5])/\dT x0/\dT x1/\dT x2/\x3.size<=maxLen/\dT x4/\dT x5/\wr.cell? ⟨b,o+12,none⟩=some (.int .i64 x0)/\wr.cell? ⟨b,o+13,none⟩=some (.int .i64 x1)/\wr.cell? ⟨b,o+14,none⟩=some (.int .i64 x2)/\wr.cell? ⟨b,o+15,none⟩=some (.string x3)/\wr.cell? ⟨b,o+16,none⟩=some (.int .i64 x4)/\wr.cell? ⟨b,o+17,none⟩=some (.int .i64 x5):=R.el h 2 hi hB
inductive cr where
 | mk (Kind:Int) (Tag:Int) (amx:Int) (Items:List R) (Keys:List R)
def cr.D:cr->List Y
 | .mk x0 x1 x2 x3 x4=>[.int x0,.int x1,.int x2,.row 6 (x3.map R.D),.row 6 (x4.map R.D)]
theorem cr.iM {x0:Int} {x1:Int} {x2:Int} {x3:List R} {x4:List R}:(cr.mk x0 x1 x2 x3 x4).D=[.int x0,.int x1,.int x2,.row 6 (x3.map R.D),.row 6 (x4.map R.D)]:=by
 simp only[cr.D]
theorem cr.xW:∀t:cr,t.D.length=5
 | .mk x0 x1 x2 x3 x4=>by rw[cr.iM];rfl
theorem cr.gK {w:World} {S:Nat->Prop} {x0:Int} {x1:Int} {x2:Int} {x3:List R} {x4:List R} {vs:List Value} (h:Y.cA w S (cr.mk x0 x1 x2 x3 x4).D vs):∃qO qP Gp Gq,vs=[.int .i64 x0,.int .i64 x1,.int .i64 x2,.slice qO x3.length qP,.slice Gp x4.length Gq]/\dT x0/\dT x1/\dT x2/\Row w S 6 qO qP (x3.map R.D)/\Row w S 6 Gp Gq (x4.map R.D):=by
 rw[cr.iM]at h
 match vs,h with
 | [u0,u1,u2,u3,u4],h =>
  obtain⟨h0,h1,h2,h3,h4,-⟩:=h
  obtain⟨rfl,g0⟩:=Y.db.1 h0
  obtain⟨rfl,g1⟩:=Y.db.1 h1
  obtain⟨rfl,g2⟩:=Y.db.1 h2
  obtain⟨qO,qP,rfl,g3⟩:=Y.fB.1 h3
  obtain⟨Gp,Gq,rfl,g4⟩:=Y.fB.1 h4
  exact⟨qO,qP,Gp,Gq,by simp only[ar],g0,g1,g2,g3,g4⟩
theorem cr.mG {w:World} {S:Nat->Prop} {x0:Int} {x1:Int} {x2:Int} {x3:List R} {x4:List R} {qO:Option Addr} {qP:Nat} {Gp:Option Addr} {Gq:Nat} (h0:dT x0) (h1:dT x1) (h2:dT x2) (h3:Row w S 6 qO qP (x3.map R.D)) (h4:Row w S 6 Gp Gq (x4.map R.D)):Y.cA w S (cr.mk x0 x1 x2 x3 x4).D [.int .i64 x0,.int .i64 x1,.int .i64 x2,.slice qO x3.length qP,.slice Gp x4.length Gq]:=by
 rw[cr.iM]
 exact⟨Y.db.2 ⟨rfl,h0⟩,Y.db.2 ⟨rfl,h1⟩,Y.db.2 ⟨rfl,h2⟩,Y.fB.2 ⟨_,_,by simp only[ar],h3⟩,Y.fB.2 ⟨_,_,by simp only[ar],h4⟩,trivial⟩
theorem cr.at {w:World} {S:Nat->Prop} {A:Option Addr} {c:Nat} {l:List cr} (h:Row w S 5 A c (l.map cr.D)) (i:Nat) (hi:i<l.length) :
  ∃b o x0 x1 x2 x3 x4 qO qP Gp Gq,A=some ⟨b,o,none⟩/\S b/\b<w.heap.size/\l[i]=.mk x0 x1 x2 x3 x4/\Y.cA w S l[i].D [.int .i64 x0,.int .i64 x1,.int .i64 x2,.slice qO x3.length qP,.slice Gp x4.length Gq]/\dT x0/\dT x1/\dT x2/\Row w S 6 qO qP (x3.map R.D)/\Row w S 6 Gp Gq (x4.map R.D)/\w.cell? ⟨b,o+i*5,none⟩=some (.int .i64 x0)/\w.cell? ⟨b,o+i*5+1,none⟩=some (.int .i64 x1)/\w.cell? ⟨b,o+i*5+2,none⟩=some (.int .i64 x2)/\w.cell? ⟨b,o+i*5+3,none⟩=some (.slice qO x3.length qP)/\w.cell? ⟨b,o+i*5+4,none⟩=some (.slice Gp x4.length Gq):=by
 obtain⟨b,o,vs,hA,hS,hb,hv,hl,hc⟩:=Row.at h i bD
 rw[List.getElem_map]at hv
 obtain⟨x0,x1,x2,x3,x4,hx⟩:∃x0 x1 x2 x3 x4,l[i]=.mk x0 x1 x2 x3 x4:=by cases l[i];exact⟨_,_,_,_,_,rfl⟩
 have oZ:=hv
 rw[hx]at oZ
 obtain⟨qO,qP,Gp,Gq,rfl,g0,g1,g2,g3,g4⟩:=cr.gK oZ
 exact⟨b,o,_,_,_,_,_,_,_,_,_,hA,hS,hb,hx,hv,g0,g1,g2,g3,g4,by simpa using hc 0 aI,by simpa using hc 1 aI,by simpa using hc 2 aI,by simpa using hc 3 aI,by simpa using hc 4 aI⟩
theorem cr.el {w wr:World} {S:Nat->Prop} {A:Option Addr} {c:Nat} {l:List cr} (h:Row w S 5 A c (l.map cr.D)) (i:Nat) (hi:i<l.length) (hB:U w wr) :
  ∃b o x0 x1 x2 x3 x4 qO qP Gp Gq,A=some ⟨b,o,none⟩/\b<w.heap.size/\b<wr.heap.size/\Hid (l[i]=.mk x0 x1 x2 x3 x4)/\Hid (Y.cA wr S l[i].D [.int .i64 x0,.int .i64 x1,.int .i64 x2,.slice qO x3.length qP,.slice Gp x4.length Gq])/\dT x0/\dT x1/\dT x2/\Hid (Row w S 6 qO qP (x3.map R.D))/\Hid (Row w S 6 Gp Gq (x4.map R.D))/\wr.cell? ⟨b,o+i*5,none⟩=some (.int .i64 x0)/\wr.cell? ⟨b,o+i*5+1,none⟩=some (.int .i64 x1)/\wr.cell? ⟨b,o+i*5+2,none⟩=some (.int .i64 x2)/\wr.cell? ⟨b,o+i*5+3,none⟩=some (.slice qO x3.length qP)/\wr.cell? ⟨b,o+i*5+4,none⟩=some (.slice Gp x4.length Gq):=by
  obtain⟨b,o,x0,x1,x2,x3,x4,qO,qP,Gp,Gq,hA,-,hb,hx,hv,p0,p1,p2,p3,p4,p5,p6,p7,p8,p9⟩:=cr.at h i hi
  exact⟨b,o,x0,x1,x2,x3,x4,qO,qP,Gp,Gq,hA,hb,au hb (U.size hB),I hx,I (Y.cA.de hB hv),p0,p1,p2,I p3,I p4,(hB.box b hb _).trans p5,(hB.box b hb _).trans p6,(hB.box b hb _).trans p7,(hB.box b hb _).trans p8,(hB.box b hb _).trans p9⟩
inductive cV where
 | mk (ajj:Int) (Frame:Int)
def cV.D:cV->List Y
 | .mk x0 x1=>[.int x0,.int x1]
theorem cV.iM {x0:Int} {x1:Int}:(cV.mk x0 x1).D=[.int x0,.int x1]:=by
 simp only[cV.D]
theorem cV.xW:∀t:cV,t.D.length=2
 | .mk x0 x1=>by rw[cV.iM];rfl
theorem cV.gK {w:World} {S:Nat->Prop} {x0:Int} {x1:Int} {vs:List Value} (h:Y.cA w S (cV.mk x0 x1).D vs):vs=[.int .i64 x0,.int .i64 x1]/\dT x0/\dT x1:=by
 rw[cV.iM]at h
 match vs,h with
 | [u0,u1],h =>
  obtain⟨h0,h1,-⟩:=h
  obtain⟨rfl,g0⟩:=Y.db.1 h0
  obtain⟨rfl,g1⟩:=Y.db.1 h1
  exact⟨rfl,g0,g1⟩
theorem cV.mG {w:World} {S:Nat->Prop} {x0:Int} {x1:Int} (h0:dT x0) (h1:dT x1):Y.cA w S (cV.mk x0 x1).D [.int .i64 x0,.int .i64 x1]:=by
 rw[cV.iM]
 exact⟨Y.db.2 ⟨rfl,h0⟩,Y.db.2 ⟨rfl,h1⟩,trivial⟩
theorem cV.at {w:World} {S:Nat->Prop} {A:Option Addr} {c:Nat} {l:List cV} (h:Row w S 2 A c (l.map cV.D)) (i:Nat) (hi:i<l.length) :
  ∃b o x0 x1,A=some ⟨b,o,none⟩/\S b/\b<w.heap.size/\l[i]=.mk x0 x1/\Y.cA w S l[i].D [.int .i64 x0,.int .i64 x1]/\dT x0/\dT x1/\w.cell? ⟨b,o+i*2,none⟩=some (.int .i64 x0)/\w.cell? ⟨b,o+i*2+1,none⟩=some (.int .i64 x1):=by
 obtain⟨b,o,vs,hA,hS,hb,hv,hl,hc⟩:=Row.at h i bD
 rw[List.getElem_map]at hv
 obtain⟨x0,x1,hx⟩:∃x0 x1,l[i]=.mk x0 x1:=by cases l[i];exact⟨_,_,rfl⟩
 have oZ:=hv
 rw[hx]at oZ
 obtain⟨rfl,g0,g1⟩:=cV.gK oZ
 exact⟨b,o,_,_,hA,hS,hb,hx,hv,g0,g1,by simpa using hc 0 aI,by simpa using hc 1 aI⟩
theorem cV.el {w wr:World} {S:Nat->Prop} {A:Option Addr} {c:Nat} {l:List cV} (h:Row w S 2 A c (l.map cV.D)) (i:Nat) (hi:i<l.length) (hB:U w wr) :
  ∃b o x0 x1,A=some ⟨b,o,none⟩/\b<w.heap.size/\b<wr.heap.size/\Hid (l[i]=.mk x0 x1)/\Hid (Y.cA wr S l[i].D [.int .i64 x0,.int .i64 x1])/\dT x0/\dT x1/\wr.cell? ⟨b,o+i*2,none⟩=some (.int .i64 x0)/\wr.cell? ⟨b,o+i*2+1,none⟩=some (.int .i64 x1):=by
  obtain⟨b,o,x0,x1,hA,-,hb,hx,hv,p0,p1,p2,p3⟩:=cV.at h i hi
  exact⟨b,o,x0,x1,hA,hb,au hb (U.size hB),I hx,I (Y.cA.de hB hv),p0,p1,(hB.box b hb _).trans p2,(hB.box b hb _).trans p3⟩
inductive O where
 | mk (Names:List cx) (ajk:List cw) (ajl:List cr) (ajm:List R) (ajn:cx) (Position:Int) (Output:List cx) (Trace:List cx) (ajo:List cV) (ajp:Bool) (aov:Int) (amy:Int) (Made:Int)
def O.D:O->List Y
 | .mk x0 x1 x2 x3 x4 x5 x6 x7 x8 x9 F G Z=>[.row 1 (x0.map fun x=>[.str x]),.row 3 (x1.map cw.D),.row 5 (x2.map cr.D),.row 6 (x3.map R.D),.str x4,.int x5,.row 1 (x6.map fun x=>[.str x]),.row 1 (x7.map fun x=>[.str x]),.row 2 (x8.map cV.D),.bool x9,.int F,.int G,.int Z]
theorem O.iM {x0:List cx} {x1:List cw} {x2:List cr} {x3:List R} {x4:cx} {x5:Int} {x6:List cx} {x7:List cx} {x8:List cV} {x9:Bool} {F:Int} {G:Int} {Z:Int}:(O.mk x0 x1 x2 x3 x4 x5 x6 x7 x8 x9 F G Z).D=[.row 1 (x0.map fun x=>[.str x]),.row 3 (x1.map cw.D),.row 5 (x2.map cr.D),.row 6 (x3.map R.D),.str x4,.int x5,.row 1 (x6.map fun x=>[.str x]),.row 1 (x7.map fun x=>[.str x]),.row 2 (x8.map cV.D),.bool x9,.int F,.int G,.int Z]:=by
 simp only[O.D]
theorem O.xW:∀t:O,t.D.length=13
 | .mk x0 x1 x2 x3 x4 x5 x6 x7 x8 x9 F G Z=>by rw[O.iM];rfl
theorem O.gK {w:World} {S:Nat->Prop} {x0:List cx} {x1:List cw} {x2:List cr} {x3:List R} {x4:cx} {x5:Int} {x6:List cx} {x7:List cx} {x8:List cV} {x9:Bool} {F:Int} {G:Int} {Z:Int} {vs:List Value} (h:Y.cA w S (O.mk x0 x1 x2 x3 x4 x5 x6 x7 x8 x9 F G Z).D vs):∃O0 O1 xQ xR O2 O4 qO qP O5 O6 O7 O8 O9 Pa,vs=[.slice O0 x0.length O1,.slice xQ x1.length xR,.slice O2 x2.length O4,.slice qO x3.length qP,.string x4,.int .i64 x5,.slice O5 x6.length O6,.slice O7 x7.length O8,.slice O9 x8.length Pa,.bool x9,.int .i64 F,.int .i64 G,.int .i64 Z]/\Row w S 1 O0 O1 (x0.map fun x=>[.str x])/\Row w S 3 xQ xR (x1.map cw.D)/\Row w S 5 O2 O4 (x2.map cr.D)/\Row w S 6 qO qP (x3.map R.D)/\x4.size<=maxLen/\dT x5/\Row w S 1 O5 O6 (x6.map fun x=>[.str x])/\Row w S 1 O7 O8 (x7.map fun x=>[.str x])/\Row w S 2 O9 Pa (x8.map cV.D)/\True/\dT F/\dT G/\dT Z:=by
 rw[O.iM]at h
 have hl:=h.length
 obtain⟨u0,u1,u2,u3,u4,u5,u6,u7,u8,u9,rX,rY,qu,rfl⟩:=WL (hl.trans rfl)
 clear hl
 simp only[Y.cA]at h
 ·
  obtain⟨h0,h1,h2,h3,h4,h5,h6,h7,h8,h9,Be,CU,CV,-⟩:=h
  obtain⟨O0,O1,rfl,g0⟩:=Y.fB.1 h0
  obtain⟨xQ,xR,rfl,g1⟩:=Y.fB.1 h1
  obtain⟨O2,O4,rfl,g2⟩:=Y.fB.1 h2
  obtain⟨qO,qP,rfl,g3⟩:=Y.fB.1 h3
  obtain⟨rfl,g4⟩:=Y.kc.1 h4
  obtain⟨rfl,g5⟩:=Y.db.1 h5
  obtain⟨O5,O6,rfl,g6⟩:=Y.fB.1 h6
  obtain⟨O7,O8,rfl,g7⟩:=Y.fB.1 h7
  obtain⟨O9,Pa,rfl,g8⟩:=Y.fB.1 h8
  obtain rfl:=Y.wW.1 h9
  obtain⟨rfl,g10⟩:=Y.db.1 Be
  obtain⟨rfl,g11⟩:=Y.db.1 CU
  obtain⟨rfl,g12⟩:=Y.db.1 CV
  exact⟨O0,O1,xQ,xR,O2,O4,qO,qP,O5,O6,O7,O8,O9,Pa,by simp only[ar],g0,g1,g2,g3,g4,g5,g6,g7,g8,trivial,g10,g11,g12⟩
theorem O.mG {w:World} {S:Nat->Prop} {x0:List cx} {x1:List cw} {x2:List cr} {x3:List R} {x4:cx} {x5:Int} {x6:List cx} {x7:List cx} {x8:List cV} {x9:Bool} {F:Int} {G:Int} {Z:Int} {O0:Option Addr} {O1:Nat} {xQ:Option Addr} {xR:Nat} {O2:Option Addr} {O4:Nat} {qO:Option Addr} {qP:Nat} {O5:Option Addr} {O6:Nat} {O7:Option Addr} {O8:Nat} {O9:Option Addr} {Pa:Nat} (h0:Row w S 1 O0 O1 (x0.map fun x=>[.str x])) (h1:Row w S 3 xQ xR (x1.map cw.D)) (h2:Row w S 5 O2 O4 (x2.map cr.D)) (h3:Row w S 6 qO qP (x3.map R.D)) (h4:x4.size<=maxLen) (h5:dT x5) (h6:Row w S 1 O5 O6 (x6.map fun x=>[.str x])) (h7:Row w S 1 O7 O8 (x7.map fun x=>[.str x])) (h8:Row w S 2 O9 Pa (x8.map cV.D)) (Be:dT F) (CU:dT G) (CV:dT Z):Y.cA w S (O.mk x0 x1 x2 x3 x4 x5 x6 x7 x8 x9 F G Z).D [.slice O0 x0.length O1,.slice xQ x1.length xR,.slice O2 x2.length O4,.slice qO x3.length qP,.string x4,.int .i64 x5,.slice O5 x6.length O6,.slice O7 x7.length O8,.slice O9 x8.length Pa,.bool x9,.int .i64 F,.int .i64 G,.int .i64 Z]:=by
 rw[O.iM]
 exact⟨Y.fB.2 ⟨_,_,by simp only[ar],h0⟩,Y.fB.2 ⟨_,_,by simp only[ar],h1⟩,Y.fB.2 ⟨_,_,by simp only[ar],h2⟩,Y.fB.2 ⟨_,_,by simp only[ar],h3⟩,Y.kc.2 ⟨rfl,h4⟩,Y.db.2 ⟨rfl,h5⟩,Y.fB.2 ⟨_,_,by simp only[ar],h6⟩,Y.fB.2 ⟨_,_,by simp only[ar],h7⟩,Y.fB.2 ⟨_,_,by simp only[ar],h8⟩,Y.wW.2 rfl,Y.db.2 ⟨rfl,Be⟩,Y.db.2 ⟨rfl,CU⟩,Y.db.2 ⟨rfl,CV⟩,trivial⟩
theorem O.at {w:World} {S:Nat->Prop} {A:Option Addr} {c:Nat} {l:List O} (h:Row w S 13 A c (l.map O.D)) (i:Nat) (hi:i<l.length) :
  ∃b o x0 x1 x2 x3 x4 x5 x6 x7 x8 x9 F G Z O0 O1 xQ xR O2 O4 qO qP O5 O6 O7 O8 O9 Pa,A=some ⟨b,o,none⟩/\S b/\b<w.heap.size/\l[i]=.mk x0 x1 x2 x3 x4 x5 x6 x7 x8 x9 F G Z/\Y.cA w S l[i].D [.slice O0 x0.length O1,.slice xQ x1.length xR,.slice O2 x2.length O4,.slice qO x3.length qP,.string x4,.int .i64 x5,.slice O5 x6.length O6,.slice O7 x7.length O8,.slice O9 x8.length Pa,.bool x9,.int .i64 F,.int .i64 G,.int .i64 Z]/\Row w S 1 O0 O1 (x0.map fun x=>[.str x])/\Row w S 3 xQ xR (x1.map cw.D)/\Row w S 5 O2 O4 (x2.map cr.D)/\Row w S 6 qO qP (x3.map R.D)/\x4.size<=maxLen/\dT x5/\Row w S 1 O5 O6 (x6.map fun x=>[.str x])/\Row w S 1 O7 O8 (x7.map fun x=>[.str x])/\Row w S 2 O9 Pa (x8.map cV.D)/\True/\dT F/\dT G/\dT Z/\w.cell? ⟨b,o+i*13,none⟩=some (.slice O0 x0.length O1)/\w.cell? ⟨b,o+i*13+1,none⟩=some (.slice xQ x1.length xR)/\w.cell? ⟨b,o+i*13+2,none⟩=some (.slice O2 x2.length O4)/\w.cell? ⟨b,o+i*13+3,none⟩=some (.slice qO x3.length qP)/\w.cell? ⟨b,o+i*13+4,none⟩=some (.string x4)/\w.cell? ⟨b,o+i*13+5,none⟩=some (.int .i64 x5)/\w.cell? ⟨b,o+i*13+6,none⟩=some (.slice O5 x6.length O6)/\w.cell? ⟨b,o+i*13+7,none⟩=some (.slice O7 x7.length O8)/\w.cell? ⟨b,o+i*13+8,none⟩=some (.slice O9 x8.length Pa)/\w.cell? ⟨b,o+i*13+9,none⟩=some (.bool x9)/\w.cell? ⟨b,o+i*13+10,none⟩=some (.int .i64 F)/\w.cell? ⟨b,o+i*13+11,none⟩=some (.int .i64 G)/\w.cell? ⟨b,o+i*13+12,none⟩=some (.int .i64 Z):=by
 obtain⟨b,o,vs,hA,hS,hb,hv,hl,hc⟩:=Row.at h i bD
 rw[List.getElem_map]at hv
 obtain⟨x0,x1,x2,x3,x4,x5,x6,x7,x8,x9,F,G,Z,hx⟩:∃x0 x1 x2 x3 x4 x5 x6 x7 x8 x9 F G Z,l[i]=.mk x0 x1 x2 x3 x4 x5 x6 x7 x8 x9 F G Z:=by cases l[i];exact⟨_,_,_,_,_,_,_,_,_,_,_,_,_,rfl⟩
 have oZ:=hv
 rw[hx]at oZ
 obtain⟨O0,O1,xQ,xR,O2,O4,qO,qP,O5,O6,O7,O8,O9,Pa,rfl,g0,g1,g2,g3,g4,g5,g6,g7,g8,g9,g10,g11,g12⟩:=O.gK oZ
 exact⟨b,o,_,_,_,_,_,_,_,_,_,_,_,_,_,_,_,_,_,_,_,_,_,_,_,_,_,_,_,hA,hS,hb,hx,hv,g0,g1,g2,g3,g4,g5,g6,g7,g8,g9,g10,g11,g12,by simpa using hc 0 aI,by simpa using hc 1 aI,by simpa using hc 2 aI,by simpa using hc 3 aI,by simpa using hc 4 aI,by simpa using hc 5 aI,by simpa using hc 6 aI,by simpa using hc 7 aI,by simpa using hc 8 aI,by simpa using hc 9 aI,by simpa using hc 10 aI,by simpa using hc 11 aI,by simpa using hc 12 aI⟩
inductive gu where
 | mk (Kind:Int) (Op:Int) (Count:Int) (ard:List R)
def gu.D:gu->List Y
 | .mk x0 x1 x2 x3=>[.int x0,.int x1,.int x2,.row 6 (x3.map R.D)]
theorem gu.iM {x0:Int} {x1:Int} {x2:Int} {x3:List R}:(gu.mk x0 x1 x2 x3).D=[.int x0,.int x1,.int x2,.row 6 (x3.map R.D)]:=by
 simp only[gu.D]
theorem gu.xW:∀t:gu,t.D.length=4
 | .mk x0 x1 x2 x3=>by rw[gu.iM];rfl
theorem gu.gK {w:World} {S:Nat->Prop} {x0:Int} {x1:Int} {x2:Int} {x3:List R} {vs:List Value} (h:Y.cA w S (gu.mk x0 x1 x2 x3).D vs):∃qO qP,vs=[.int .i64 x0,.int .i64 x1,.int .i64 x2,.slice qO x3.length qP]/\dT x0/\dT x1/\dT x2/\Row w S 6 qO qP (x3.map R.D):=by
 rw[gu.iM]at h
 match vs,h with
 | [u0,u1,u2,u3],h =>
  obtain⟨h0,h1,h2,h3,-⟩:=h
  obtain⟨rfl,g0⟩:=Y.db.1 h0
  obtain⟨rfl,g1⟩:=Y.db.1 h1
  obtain⟨rfl,g2⟩:=Y.db.1 h2
  obtain⟨qO,qP,rfl,g3⟩:=Y.fB.1 h3
  exact⟨qO,qP,by simp only[ar],g0,g1,g2,g3⟩
theorem gu.mG {w:World} {S:Nat->Prop} {x0:Int} {x1:Int} {x2:Int} {x3:List R} {qO:Option Addr} {qP:Nat} (h0:dT x0) (h1:dT x1) (h2:dT x2) (h3:Row w S 6 qO qP (x3.map R.D)):Y.cA w S (gu.mk x0 x1 x2 x3).D [.int .i64 x0,.int .i64 x1,.int .i64 x2,.slice qO x3.length qP]:=by
 rw[gu.iM]
 exact⟨Y.db.2 ⟨rfl,h0⟩,Y.db.2 ⟨rfl,h1⟩,Y.db.2 ⟨rfl,h2⟩,Y.fB.2 ⟨_,_,by simp only[ar],h3⟩,trivial⟩
theorem gu.at {w:World} {S:Nat->Prop} {A:Option Addr} {c:Nat} {l:List gu} (h:Row w S 4 A c (l.map gu.D)) (i:Nat) (hi:i<l.length) :
  ∃b o x0 x1 x2 x3 qO qP,A=some ⟨b,o,none⟩/\S b/\b<w.heap.size/\l[i]=.mk x0 x1 x2 x3/\Y.cA w S l[i].D [.int .i64 x0,.int .i64 x1,.int .i64 x2,.slice qO x3.length qP]/\dT x0/\dT x1/\dT x2/\Row w S 6 qO qP (x3.map R.D)/\w.cell? ⟨b,o+i*4,none⟩=some (.int .i64 x0)/\w.cell? ⟨b,o+i*4+1,none⟩=some (.int .i64 x1)/\w.cell? ⟨b,o+i*4+2,none⟩=some (.int .i64 x2)/\w.cell? ⟨b,o+i*4+3,none⟩=some (.slice qO x3.length qP):=by
 obtain⟨b,o,vs,hA,hS,hb,hv,hl,hc⟩:=Row.at h i bD
 rw[List.getElem_map]at hv
 obtain⟨x0,x1,x2,x3,hx⟩:∃x0 x1 x2 x3,l[i]=.mk x0 x1 x2 x3:=by cases l[i];exact⟨_,_,_,_,rfl⟩
 have oZ:=hv
 rw[hx]at oZ
 obtain⟨qO,qP,rfl,g0,g1,g2,g3⟩:=gu.gK oZ
 exact⟨b,o,_,_,_,_,_,_,hA,hS,hb,hx,hv,g0,g1,g2,g3,by simpa using hc 0 aI,by simpa using hc 1 aI,by simpa using hc 2 aI,by simpa using hc 3 aI⟩
end Go.Proofs.YtjngkknbpfgdcaaGreatDoor
namespace Go.Proofs.YtjngkknbpfgdcaaGreatDoor
open Go.RowKit
theorem zO {w:World} {S:Nat->Prop} {A:Option Addr} {c:Nat} {l:List cx} (h:Row w S 1 A c (l.map fun x=>[Y.str x])) (i:Nat) (hi:i<l.length) :
  ∃b o,A=some ⟨b,o,none⟩/\S b/\b<w.heap.size/\l[i].size<=maxLen/\w.cell? ⟨b,o+i,none⟩=some (.string l[i]):=by
 obtain⟨b,o,vs,hA,hS,hb,hv,hl,hc⟩:=Row.at h i bD
 rw[List.getElem_map]at hv
 match vs,hv with
 | [v],hv =>
  obtain⟨rfl,hs⟩:=Y.kc.1 hv.1
  exact⟨b,o,hA,hS,hb,hs,by simpa using hc 0 aI⟩
end Go.Proofs.YtjngkknbpfgdcaaGreatDoor
