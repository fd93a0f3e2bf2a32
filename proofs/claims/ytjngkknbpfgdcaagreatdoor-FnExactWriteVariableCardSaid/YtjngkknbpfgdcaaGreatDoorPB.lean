import Derived.Test.YtjngkknbpfgdcaaGreatDoorPa
import Derived.Test.YtjngkknbpfgdcaaGreatDoorProg
import Derived.WalkKit
import Derived.WalkSpells
import Derived.WalkLawsBesides
import Derived.ProofKit
import Derived.OpenShut
import Derived.ShutString
import Derived.ChangeOld
import Derived.Below
import Derived.Lib.Hide
import Derived.Handy
import Derived.Deep.Light
import Derived.Deep.Slices
import Derived.Laws.IdiomCopy
import Derived.Laws.MakeOwn
import Derived.Deep.QuietTactic
import Derived.BigQuiet
import Derived.Deep.RegionHeld3
import Derived.Deep.RegionWith
import Derived.StillTailTactics
import Derived.Deep.Cut
set_option linter.unusedVariables false
set_option linter.unusedSimpArgs false
set_option maxRecDepth 100000
set_option maxHeartbeats 8000000
namespace Go.Proofs.YtjngkknbpfgdcaaGreatDoor
open Go.ChangeShapes Go.WideShapes Go.ChangeAt Go.RowKit
open Go.ChangeMaps (open_string shut_string)
theorem own:ownKnob Tryz.prog.godebug=none:=by kernel_rfl
theorem laidOut:laidOutB Tryz.prog=true:=by kernel_rfl
def fD (n:Int):Prop:=-9223372036854775808<=n/\n<=9223372036854775807
theorem gy {n:Int} (h:(Lit.int .i64 n).wf=true):fD n:=by
 have:=bounds_i64 h
 unfold fD;omega
theorem hide {p:Prop} (h:p):Hid p:=h
def cE (w w':World):Prop:=Below w.heap.size w w'
namespace cE
theorem refl (w:World):cE w w:=Below.refl _ _
theorem size {w w':World} (h:cE w w'):w.heap.size<=w'.heap.size:=Below.size h
theorem trans {a b c:World} (h:cE a b) (k:cE b c):cE a c:=Below.trans h (Below.mono k h.size)
theorem alloc {a b:World} (h:cE a b) (o:Obj):cE a (b.alloc o):=Below.alloc h h.size o
theorem drew {a b:World} (h:cE a b):cE a b.drew:=Below.drew h
theorem drewN {a b:World} (h:cE a b) (n:Nat):cE a (b.drewN n):=⟨h.os,h.tape,h.output,h.size,h.block⟩
theorem set {a b:World} (h:cE a b) {p:Addr} (hp:a.heap.size<=p.block) (v:Value):cE a (b.setCell p v):=Below.setCell h hp v
theorem facts {W w1:World} (hb:cE W w1):(∀b o,b<W.heap.size->w1.cell? ⟨b,o,none⟩=W.cell? ⟨b,o,none⟩)/\(∀b o,b<W.heap.size->w1.frozen? ⟨b,o,none⟩=W.frozen? ⟨b,o,none⟩)/\W.heap.size<=w1.heap.size :=
 ⟨fun b o h=>Below.cell (p:=⟨b,o,none⟩) hb h,fun b o h=>Below.frozen (p:=⟨b,o,none⟩) hb h,hb.size⟩
theorem box {W w1:World} (hb:cE W w1) (b:Nat) (h:b<W.heap.size):∀o,w1.cell? ⟨b,o,none⟩=W.cell? ⟨b,o,none⟩:=fun o=>hb.facts.1 b o h
theorem De {W w1:World} (hb:cE W w1) (b:Nat) (h:b<W.heap.size):∀o,w1.frozen? ⟨b,o,none⟩=W.frozen? ⟨b,o,none⟩:=fun o=>hb.facts.2.1 b o h
theorem lay {W w1:World} (hb:cE W w1) (b:Nat) (h:b<W.heap.size:=by first | (simp;done) | (simp;omega) | omega) :
  (∀o,w1.cell? ⟨b,o,none⟩=W.cell? ⟨b,o,none⟩)/\(∀o,w1.frozen? ⟨b,o,none⟩=W.frozen? ⟨b,o,none⟩)/\b<w1.heap.size/\¬b=w1.heap.size :=
 ⟨hb.box b h,hb.De b h,ak h hb.size,fun e=>Nat.lt_irrefl _ (e▸ak h hb.size)⟩
theorem sz {W w1:World} {n:Nat} (hb:cE W w1) (h:W.heap.size=n:=by first | (simp only[World.size_alloc,World.size_setCell,World.size_drew,World.heap_drewN];exact rfl) | exact rfl):n<=w1.heap.size:=h▸hb.size
end cE
theorem bl {w w':World} (h:cE w w':=by repeat' (first | with_reducible exact cE.refl _ | with_reducible assumption | with_reducible refine cE.set ?_ ?_ _ | with_reducible refine cE.alloc ?_ _ | with_reducible refine cE.drew ?_ | with_reducible refine cE.drewN ?_ _ | with_reducible refine cE.trans ?_ cr | (simp;done) | (simp;omega) | refine cE.alloc ?_ _ | refine cE.drew ?_ | refine cE.drewN ?_ _ | refine cE.set ?_ ?_ _)):cE w w':=h
theorem ba_eq (s t:ByteArray):s.toList=t.toList↔s=t:=by
 constructor
 ·
  intro h
  have e:∀x:ByteArray,x.toList=x.data.toList:=fun x=>ByteArray.toList_eq x
  rw[e,e]at h
  exact ByteArray.ext (Array.toList_inj.1 h)
 ·
  rintro rfl;rfl
structure cV where
 k:Int
 n:Int
 i:Int
 t:ByteArray
 lo:Int
 hi:Int
def cV.val (v:cV):Value:=.agg #[.int .i64 v.k,.int .i64 v.n,.int .i64 v.i,.string v.t,.int .i64 v.lo,.int .i64 v.hi]
structure cV.Ok (v:cV):Prop where
 k:fD v.k
 n:fD v.n
 i:fD v.i
 t:v.t.size<=maxLen
 lo:fD v.lo
 hi:fD v.hi
theorem TQ {α:Type} {l:List α} (h:l.length=2):∃a b,l=[a,b]:=by
 match l,h with
 | [a,b],_=>exact⟨a,b,rfl⟩
theorem abw {α:Type} {l:List α} (h:l.length=5):∃a b c d e,l=[a,b,c,d,e]:=by
 match l,h with
 | [a,b,c,d,e],_=>exact⟨a,b,c,d,e,rfl⟩
theorem abx {α:Type} {l:List α} (h:l.length=6):∃a b c d e f,l=[a,b,c,d,e,f]:=by
 match l,h with
 | [a,b,c,d,e,f],_=>exact⟨a,b,c,d,e,f,rfl⟩
section
variable {H:Type} {enc:TypeId × Value->H} {w:World} {base:Nat} {spare:Nat->Bool} {held:Bool}
theorem GA {fuel:Nat} {cs:List Value} {x:DataW H × List MemPlace} (h:DataW.trod enc Tryz.prog w base spare held fuel 52 cs=some x) :
  ∃lo hi:Int,cs=[.int .i64 lo,.int .i64 hi]/\fD lo/\fD hi:=by
 obtain⟨xs,n,_,hx,hl,hlen,hg⟩:=DataW.trod_struct Tryz.underlying52 h
 obtain⟨c0,c1,rfl⟩:=TQ (hl.trans aC)
 obtain⟨y0,y1,rfl⟩:=TQ (hlen.trans aC)
 have g0:=hg 0 _ rfl
 have g1:=hg 1 _ rfl
 obtain⟨a,e0,_,w0⟩:=DataW.trod_int (cs:=[c0]) Tryz.underlying3 g0
 obtain⟨b,e1,_,w1⟩:=DataW.trod_int (cs:=[c1]) Tryz.underlying3 g1
 simp only[List.cons.injEq,and_true]at e0 e1
 subst e0 e1
 exact⟨a,b,rfl,gy w0,gy w1⟩
theorem Em {fuel:Nat} {cs:List Value} {x:DataW H × List MemPlace} (h:DataW.trod enc Tryz.prog w base spare held fuel 54 cs=some x) :
  ∃v:cV,cs=[.int .i64 v.k,.int .i64 v.n,.int .i64 v.i,.string v.t,.int .i64 v.lo,.int .i64 v.hi]/\v.Ok:=by
 obtain⟨xs,n,_,hx,hl,hlen,hg⟩:=DataW.trod_struct Tryz.underlying54 h
 obtain⟨c0,c1,c2,c3,c4,c5,rfl⟩:=abx (hl.trans aC)
 obtain⟨y0,y1,y2,y3,y4,rfl⟩:=abw (hlen.trans aC)
 have g0:=hg 0 _ rfl
 have g1:=hg 1 _ rfl
 have g2:=hg 2 _ rfl
 have g3:=hg 3 _ rfl
 have g4:=hg 4 _ rfl
 obtain⟨a,e0,_,w0⟩:=DataW.trod_int (cs:=[c0]) Tryz.underlying3 g0
 obtain⟨b,e1,_,w1⟩:=DataW.trod_int (cs:=[c1]) Tryz.underlying3 g1
 obtain⟨c,e2,_,w2⟩:=DataW.trod_int (cs:=[c2]) Tryz.underlying3 g2
 obtain⟨s,e3,_,w3⟩:=DataW.trod_string (cs:=[c3]) Tryz.underlying9 g3
 obtain⟨lo,hi,e4,w4,w5⟩:=GA (cs:=[c4,c5]) g4
 simp only[List.cons.injEq,and_true]at e0 e1 e2 e3 e4
 obtain⟨rfl,rfl⟩:=e4
 subst e0 e1 e2 e3
 exact⟨⟨a,b,c,s,lo,hi⟩,rfl,⟨gy w0,gy w1,gy w2,w3,w4,w5⟩⟩
theorem yv {r:Reach} {b0:Nat} {v:Value} {d:DataW H} {p:List MemPlace} (hv:Value.okWide Tryz.prog w r b0 54 v) (h:DataW.Trod enc Tryz.prog w base spare held 54 v d p) :
  ∃x:cV,v=x.val/\x.Ok:=by
 obtain⟨cs,rfl,hsz⟩:=okWide_struct Tryz.underlying54 hv
 obtain⟨fuel,hf⟩:=h
 obtain⟨x,e,h1⟩:=Em hf
 obtain⟨l⟩:=cs
 simp only[Value.cells]at e
 subst e
 exact⟨x,rfl,h1⟩
end
end Go.Proofs.YtjngkknbpfgdcaaGreatDoor
namespace Go.Proofs.YtjngkknbpfgdcaaGreatDoor
open Go.ChangeShapes Go.WideShapes Go.RowKit Go.Deep
theorem En {w:World} {a:Addr} {v:Value} (h:w.cell? a=some v):a.spot=none/\a.block<w.heap.size:=by
 unfold World.cell? at h
 split at h
 ·
  rename_i c _ _ hb
  refine⟨?_,?_⟩
  ·
   split at h
   ·
    cases h
   ·
    rename_i hs;cases hsp:a.spot with
    | none=>rfl
    | some x=>rw[hsp]at hs;simp at hs
  ·
   rcases Nat.lt_or_ge a.block w.heap.size with h' | h'
   ·
    exact h'
   ·
    rw[Array.getElem?_eq_none h']at hb;cases hb
 ·
  cases h
inductive Dat where
 | int (n:Int)
 | str (s:ByteArray)
 | bool (b:Bool)
 | row (k:Nat) (xs:List (List Dat))
mutual
def Dat.Holds (w:World) (S:Nat->Prop):Dat->Value->Prop
 | .int n,v=>v=.int .i64 n/\fD n
 | .str s,v=>v=.string s/\s.size<=maxLen
 | .bool b,v=>v=.bool b
 | .row k xs,v=>∃A c,v=.slice A xs.length c/\xs.length<=c/\c<=maxLen/\(xs≠[]->∃b o,A=some ⟨b,o,none⟩/\S b/\b<w.heap.size/\Dat.fI w S k b o xs)
def Dat.fI (w:World) (S:Nat->Prop) (k b:Nat):Nat->List (List Dat)->Prop
 | _,[]=>True
 | o,ds :: r=>Dat.fN w S b o ds/\ds.length=k/\Dat.fI w S k b (o+k) r
def Dat.fN (w:World) (S:Nat->Prop) (b:Nat):Nat->List Dat->Prop
 | _,[]=>True
 | o,d :: r=>(∃u,w.cell? ⟨b,o,none⟩=some u/\Dat.Holds w S d u)/\Dat.fN w S b (o+1) r
end
def Dat.cC (w:World) (S:Nat->Prop):List Dat->List Value->Prop
 | [],[]=>True
 | d :: r,v :: vs=>Dat.Holds w S d v/\Dat.cC w S r vs
 | _,_=>False
def Row (w:World) (S:Nat->Prop) (k:Nat) (A:Option Addr) (c:Nat) (xs:List (List Dat)):Prop :=
 xs.length<=c/\c<=maxLen/\(xs≠[]->∃b o,A=some ⟨b,o,none⟩/\S b/\b<w.heap.size/\Dat.fI w S k b o xs)
section
variable {w w':World} {S S':Nat->Prop}
theorem Dat.fo {k:Nat} {xs:List (List Dat)} {v:Value}:(Dat.row k xs).Holds w S v↔∃A c,v=.slice A xs.length c/\Row w S k A c xs:=by
 simp only[Dat.Holds,Row]
theorem Dat.dA {n:Int} {v:Value}:(Dat.int n).Holds w S v↔v=.int .i64 n/\fD n:=by simp only[Dat.Holds]
theorem Dat.gz {s:ByteArray} {v:Value}:(Dat.str s).Holds w S v↔v=.string s/\s.size<=maxLen:=by simp only[Dat.Holds]
theorem Dat.wu {b:Bool} {v:Value}:(Dat.bool b).Holds w S v↔v=.bool b:=by simp only[Dat.Holds]
mutual
theorem Dat.Holds.keep (hs:w.heap.size<=w'.heap.size) (hw:∀b o,S b->b<w.heap.size->w'.cell? ⟨b,o,none⟩=w.cell? ⟨b,o,none⟩) (h1:∀b,S b->S' b) :
  ∀(d:Dat) (v:Value),d.Holds w S v->d.Holds w' S' v
 | .int n,v,h=>by simpa only[Dat.Holds]using h
 | .str s,v,h=>by simpa only[Dat.Holds]using h
 | .bool b,v,h=>by simpa only[Dat.Holds]using h
 | .row k xs,v,h=>by
  simp only[Dat.Holds]at h |-
  obtain⟨A,c,rfl,hl,hc,hx⟩:=h
  refine⟨A,c,rfl,hl,hc,fun hne=>?_⟩
  obtain⟨b,o,rfl,g1,g2,hr⟩:=hx hne
  exact⟨b,o,rfl,h1 b g1,by omega,Dat.fI.keep hs hw h1 b g1 g2 xs o hr⟩
theorem Dat.fI.keep (hs:w.heap.size<=w'.heap.size) (hw:∀b o,S b->b<w.heap.size->w'.cell? ⟨b,o,none⟩=w.cell? ⟨b,o,none⟩) (h1:∀b,S b->S' b) {k:Nat} (b:Nat) (hb1:S b) (hb2:b<w.heap.size) :
  ∀(xs:List (List Dat)) (o:Nat),Dat.fI w S k b o xs->Dat.fI w' S' k b o xs
 | [],o,h=>by simp only[Dat.fI]
 | ds :: r,o,h=>by
  simp only[Dat.fI]at h |-
  exact⟨Dat.fN.keep hs hw h1 b hb1 hb2 ds o h.1,h.2.1,Dat.fI.keep hs hw h1 b hb1 hb2 r _ h.2.2⟩
theorem Dat.fN.keep (hs:w.heap.size<=w'.heap.size) (hw:∀b o,S b->b<w.heap.size->w'.cell? ⟨b,o,none⟩=w.cell? ⟨b,o,none⟩) (h1:∀b,S b->S' b) (b:Nat) (hb1:S b) (hb2:b<w.heap.size) :
  ∀(ds:List Dat) (o:Nat),Dat.fN w S b o ds->Dat.fN w' S' b o ds
 | [],o,h=>by simp only[Dat.fN]
 | d :: r,o,h=>by
  simp only[Dat.fN]at h |-
  obtain⟨⟨u,hu,hd⟩,hr⟩:=h
  exact⟨⟨u,(hw b o hb1 hb2).trans hu,Dat.Holds.keep hs hw h1 d u hd⟩,Dat.fN.keep hs hw h1 b hb1 hb2 r _ hr⟩
end
theorem Dat.cC.keep (hs:w.heap.size<=w'.heap.size) (hw:∀b o,S b->b<w.heap.size->w'.cell? ⟨b,o,none⟩=w.cell? ⟨b,o,none⟩) (h1:∀b,S b->S' b) :
  ∀(ds:List Dat) (vs:List Value),Dat.cC w S ds vs->Dat.cC w' S' ds vs
 | [],[],_=>trivial
 | d :: r,v :: vs,h=>⟨Dat.Holds.keep hs hw h1 d v h.1,Dat.cC.keep hs hw h1 r vs h.2⟩
 | [],_ :: _,h=>h.elim
 | _ :: _,[],h=>h.elim
theorem Row.keep (hs:w.heap.size<=w'.heap.size) (hw:∀b o,S b->b<w.heap.size->w'.cell? ⟨b,o,none⟩=w.cell? ⟨b,o,none⟩) (h1:∀b,S b->S' b) {k:Nat} {A:Option Addr} {c:Nat} {xs:List (List Dat)}
  (h:Row w S k A c xs):Row w' S' k A c xs:=by
 obtain⟨hl,hc,hx⟩:=h
 refine⟨hl,hc,fun hne=>?_⟩
 obtain⟨b,o,rfl,g1,g2,hr⟩:=hx hne
 exact⟨b,o,rfl,h1 b g1,by omega,Dat.fI.keep hs hw h1 b g1 g2 xs o hr⟩
theorem Dat.Holds.bel (hb:cE w w') {d:Dat} {v:Value} (hh:d.Holds w S v):d.Holds w' S v :=
 Dat.Holds.keep hb.size (fun b o _ h2=>hb.box b h2 o) (fun _ h=>h) d v hh
theorem Dat.cC.bel (hb:cE w w') {ds:List Dat} {vs:List Value} (hh:Dat.cC w S ds vs):Dat.cC w' S ds vs :=
 Dat.cC.keep hb.size (fun b o _ h2=>hb.box b h2 o) (fun _ h=>h) ds vs hh
theorem Row.bel (hb:cE w w') {k:Nat} {A:Option Addr} {c:Nat} {xs:List (List Dat)} (hh:Row w S k A c xs):Row w' S k A c xs :=
 Row.keep hb.size (fun b o _ h2=>hb.box b h2 o) (fun _ h=>h) hh
theorem Row.wide (h1:∀b,S b->S' b) {k:Nat} {A:Option Addr} {c:Nat} {xs:List (List Dat)} (hh:Row w S k A c xs):Row w S' k A c xs :=
 Row.keep (Nat.le_refl _) (fun _ _ _ _=>rfl) h1 hh
theorem Dat.cC.wide (h1:∀b,S b->S' b) {ds:List Dat} {vs:List Value} (hh:Dat.cC w S ds vs):Dat.cC w S' ds vs :=
 Dat.cC.keep (Nat.le_refl _) (fun _ _ _ _=>rfl) h1 ds vs hh
theorem Dat.fI.get {k b:Nat}:∀{xs:List (List Dat)} {o:Nat},Dat.fI w S k b o xs->∀(i:Nat) (hi':i<xs.length),Dat.fN w S b (o+i*k) xs[i]/\xs[i].length=k
 | [],_,_,i,h=>absurd h aK
 | ds :: r,o,h,0,_=>by
  simp only[Dat.fI]at h
  simpa using ⟨h.1,h.2.1⟩
 | ds :: r,o,h,i+1,hl=>by
  simp only[Dat.fI]at h
  have:=Dat.fI.get h.2.2 i (by simpa using hl)
  have e:o+(i+1)*k=o+k+i*k:=by rw[Nat.add_mul];omega
  rw[e]
  simpa using this
theorem Dat.fI.mk {k b:Nat}:∀{xs:List (List Dat)} {o:Nat},(∀(i:Nat) (hi':i<xs.length),Dat.fN w S b (o+i*k) xs[i]/\xs[i].length=k)->Dat.fI w S k b o xs
 | [],_,_=>by simp only[Dat.fI]
 | ds :: r,o,h=>by
  simp only[Dat.fI]
  have h0:=h 0 aK
  refine⟨by simpa using h0.1,by simpa using h0.2,Dat.fI.mk fun i hi'=>?_⟩
  have:=h (i+1) (by simpa using hi')
  have e:o+(i+1)*k=o+k+i*k:=by rw[Nat.add_mul];omega
  rw[e]at this
  simpa using this
theorem Dat.fN.nu {b:Nat}:∀{ds:List Dat} {vs:List Value} {o:Nat},Dat.cC w S ds vs->(∀j,j<vs.length->w.cell? ⟨b,o+j,none⟩=vs[j]?)->Dat.fN w S b o ds
 | [],_,_,_,_=>by simp only[Dat.fN]
 | _ :: _,[],_,h,_=>h.elim
 | d :: r,v :: vs,o,h,hc=>by
  simp only[Dat.fN]
  refine⟨⟨v,by simpa using hc 0 aK,h.1⟩,Dat.fN.nu h.2 fun j hj=>?_⟩
  have:=hc (j+1) bI
  rw[show o+(j+1)=o+1+j from by omega]at this
  simpa using this
theorem Dat.fN.tJ {b:Nat}:∀{ds:List Dat} {o:Nat},Dat.fN w S b o ds->∃vs:List Value,Dat.cC w S ds vs/\vs.length=ds.length/\∀j,j<vs.length->w.cell? ⟨b,o+j,none⟩=vs[j]?
 | [],_,_=>⟨[],trivial,rfl,fun _ h=>absurd h aK⟩
 | d :: r,o,h=>by
  simp only[Dat.fN]at h
  obtain⟨⟨u,hu,hd⟩,hr⟩:=h
  obtain⟨vs,h1,h2,h3⟩:=Dat.fN.tJ hr
  refine⟨u :: vs,⟨hd,h1⟩,by simp[h2],fun j hj=>?_⟩
  cases j with
  | zero=>simpa using hu
  | succ j =>
   have:=h3 j bI
   rw[show o+1+j=o+(j+1)from by omega]at this
   simpa using this
theorem Dat.cC.length:∀{ds:List Dat} {vs:List Value},Dat.cC w S ds vs->vs.length=ds.length
 | [],[],_=>rfl
 | _ :: _,_ :: _,h=>by simpa using Dat.cC.length h.2
 | [],_ :: _,h=>h.elim
 | _ :: _,[],h=>h.elim
theorem Row.at {k:Nat} {A:Option Addr} {c:Nat} {xs:List (List Dat)} (h:Row w S k A c xs) (i:Nat) (hi:i<xs.length) :
  ∃b o vs,A=some ⟨b,o,none⟩/\S b/\b<w.heap.size/\Dat.cC w S xs[i] vs/\vs.length=k/\∀j,j<k->w.cell? ⟨b,o+i*k+j,none⟩=vs[j]?:=by
 obtain⟨b,o,hA,h1,h2,hr⟩:=h.2.2 (by intro e;rw[e]at hi;simp at hi)
 obtain⟨hc,hl⟩:=hr.get i hi
 obtain⟨vs,g1,g2,g3⟩:=hc.tJ
 exact⟨b,o,vs,hA,h1,h2,g1,by omega,fun j hj=>g3 j aB⟩
end
theorem xb {α:Type} {Q:Nat->α->Prop}:∀(n:Nat),(∀i,i<n->∃x,Q i x)->∃l:List α,l.length=n/\∀(i:Nat) (h:i<l.length),Q i l[i]
 | 0,_=>⟨[],rfl,fun i h=>absurd h aK⟩
 | n+1,h=>by
  obtain⟨l,hl,hq⟩:=xb n fun i hi=>h i aB
  obtain⟨x,hx⟩:=h n aB
  refine⟨l++[x],by simp[hl],fun i hi=>?_⟩
  by_cases e:i<l.length
  ·
   rw[List.getElem_append_left e]
   exact hq i e
  ·
   obtain rfl:i=l.length:=by simp at hi;omega
   simpa[hl]using hx
section
variable {H:Type} {enc:TypeId × Value->H} {P:Program} {w:World} {spare:Nat->Bool} {held:Bool}
theorem addr_add {b o i:Nat}:(⟨b,o,none⟩:Addr).add i=⟨b,o+i,none⟩:=by
 unfold Addr.add
 by_cases h:i=0
 ·
  subst h;rfl
 ·
  simp[h]
theorem open_row {α:Type} (D:α->List Dat) {t e:TypeId} {k n:Nat} {cs:List Value} {x:DataW H × List MemPlace} (ht:P.underlying t=some (.slice e)) (hk:P.cellsOf e=k) (hk0:0<k)
  (hlen:∀y,(D y).length=k)
  (IH:∀m,m<n->∀(cs:List Value) (x:DataW H × List MemPlace),DataW.trod enc P w 0 spare held m e cs=some x->∃y:α,Dat.cC w (fun _=>True) (D y) cs)
  (h:DataW.trod enc P w 0 spare held n t cs=some x):∃(l:List α) (A:Option Addr) (c:Nat),cs=[.slice A l.length c]/\Row w (fun _=>True) k A c (l.map D):=by
 rcases DataW.trod_slice ht h with⟨rfl,_⟩ | ⟨a,len,cap,elems,rest,m,rfl,rfl,_,_,hl,hc,hel,hi,_,_⟩
 ·
  exact⟨[],none,0,rfl,by simp,by simp,fun h=>absurd rfl h⟩
 ·
  rw[hk]at hi
  have aby:∀i,i<len->∃y:α,∃vs,Dat.cC w (fun _=>True) (D y) vs/\w.cells? 0 (a.add (i*k)) k=some vs:=by
   intro i hlt
   have h1:=hi i hlt
   rw[List.getElem?_eq_getElem aB]at h1
   cases hcs:w.cells? 0 (a.add (i*k)) k with
   | none=>rw[hcs]at h1;simp at h1
   | some vs =>
    rw[hcs]at h1
    simp only[Option.bind_some]at h1
    obtain⟨y,hy⟩:=IH m aB vs _ h1
    exact⟨y,vs,hy,rfl⟩
  obtain⟨l,hll,hq⟩:=xb len aby
  refine⟨l,some a,cap,by rw[hll],by simp[hll,hl],hc,fun hne=>?_⟩
  have hpos:0<l.length:=by
   cases l with
   | nil=>simp at hne
   | cons y r=>simp
  obtain⟨TR,g0,g1⟩:=hq 0 hpos
  obtain⟨_,hcl,hat⟩:=World.cells?_some g1
  have hin:=En ((hat 0 hk0).trans (List.getElem?_eq_getElem aB))
  rw[add_add]at hin
  obtain⟨b,o,sp⟩:=a
  have hsp:sp=none:=by
   have:=hin.1
   simp only[Nat.zero_mul,Nat.add_zero,Addr.add]at this
   simpa using this
  subst hsp
  refine⟨b,o,rfl,trivial,?_,?_⟩
  ·
   simpa[addr_add]using hin.2
  ·
   refine Dat.fI.mk fun i hi'=>?_
   simp only[aj]at hi'
   obtain⟨vs,g0,g1⟩:=hq i hi'
   obtain⟨_,hcl,hat⟩:=World.cells?_some g1
   have hlv:=g0.length
   rw[hlen]at hlv
   simp only[List.getElem_map]
   refine⟨Dat.fN.nu g0 ?_,hlen _⟩
   intro j hj
   have:=hat j aB
   rw[addr_add,addr_add]at this
   exact this
end
end Go.Proofs.YtjngkknbpfgdcaaGreatDoor
namespace Go.Proofs.YtjngkknbpfgdcaaGreatDoor
open Go.ChangeShapes Go.WideShapes Go.RowKit Go.Deep
theorem Sq {α:Type} {l:List α} (h:l.length=2):∃a0 a1,l=[a0,a1]:=by
 match l,h with
 | [a0,a1],_=>exact⟨a0,a1,rfl⟩
theorem abz {α:Type} {l:List α} (h:l.length=3):∃a0 a1 a2,l=[a0,a1,a2]:=by
 match l,h with
 | [a0,a1,a2],_=>exact⟨a0,a1,a2,rfl⟩
theorem YP {α:Type} {l:List α} (h:l.length=5):∃a0 a1 a2 a3 a4,l=[a0,a1,a2,a3,a4]:=by
 match l,h with
 | [a0,a1,a2,a3,a4],_=>exact⟨a0,a1,a2,a3,a4,rfl⟩
theorem agp {α:Type} {l:List α} (h:l.length=6):∃a0 a1 a2 a3 a4 a5,l=[a0,a1,a2,a3,a4,a5]:=by
 match l,h with
 | [a0,a1,a2,a3,a4,a5],_=>exact⟨a0,a1,a2,a3,a4,a5,rfl⟩
theorem IA {α:Type} {l:List α} (h:l.length=13):∃a0 a1 a2 a3 a4 a5 a6 a7 a8 a9 a10 a11 a12,l=[a0,a1,a2,a3,a4,a5,a6,a7,a8,a9,a10,a11,a12]:=by
 match l,h with
 | [a0,a1,a2,a3,a4,a5,a6,a7,a8,a9,a10,a11,a12],_=>exact⟨a0,a1,a2,a3,a4,a5,a6,a7,a8,a9,a10,a11,a12,rfl⟩
inductive lP where
 | mk (Low:Int) (High:Int)
def lP.D:lP->List Dat
 | .mk x0 x1=>[.int x0,.int x1]
theorem lP.fU {x0:Int} {x1:Int}:(lP.mk x0 x1).D=[.int x0,.int x1]:=by
 simp only[lP.D]
theorem lP.oO:∀t:lP,t.D.length=2
 | .mk x0 x1=>by rw[lP.fU];rfl
theorem lP.vals {w:World} {S:Nat->Prop} {x0:Int} {x1:Int} {vs:List Value} (h:Dat.cC w S (lP.mk x0 x1).D vs):vs=[.int .i64 x0,.int .i64 x1]/\fD x0/\fD x1:=by
 rw[lP.fU]at h
 match vs,h with
 | [u0,u1],h =>
  obtain⟨h0,h1,-⟩:=h
  obtain⟨rfl,g0⟩:=Dat.dA.1 h0
  obtain⟨rfl,g1⟩:=Dat.dA.1 h1
  exact⟨rfl,g0,g1⟩
theorem lP.jk {w:World} {S:Nat->Prop} {x0:Int} {x1:Int} (h0:fD x0) (h1:fD x1):Dat.cC w S (lP.mk x0 x1).D [.int .i64 x0,.int .i64 x1]:=by
 rw[lP.fU]
 exact⟨Dat.dA.2 ⟨rfl,h0⟩,Dat.dA.2 ⟨rfl,h1⟩,trivial⟩
theorem lP.at {w:World} {S:Nat->Prop} {A:Option Addr} {c:Nat} {l:List lP} (h:Row w S 2 A c (l.map lP.D)) (i:Nat) (hi:i<l.length) :
  ∃b o x0 x1,A=some ⟨b,o,none⟩/\S b/\b<w.heap.size/\l[i]=.mk x0 x1/\Dat.cC w S l[i].D [.int .i64 x0,.int .i64 x1]/\fD x0/\fD x1/\w.cell? ⟨b,o+i*2,none⟩=some (.int .i64 x0)/\w.cell? ⟨b,o+i*2+1,none⟩=some (.int .i64 x1):=by
 obtain⟨b,o,vs,hA,hS,hb,hv,hl,hc⟩:=Row.at h i br
 rw[List.getElem_map]at hv
 obtain⟨x0,x1,hx⟩:∃x0 x1,l[i]=.mk x0 x1:=by cases l[i];exact⟨_,_,rfl⟩
 have hv2:=hv
 rw[hx]at hv2
 obtain⟨rfl,g0,g1⟩:=lP.vals hv2
 exact⟨b,o,_,_,hA,hS,hb,hx,hv,g0,g1,by simpa using hc 0 aF,by simpa using hc 1 aF⟩
inductive et where
 | mk (Op:Int) (Text:ByteArray) (Number:Int) (YQ:Int) (Sr:Int) (Kids:List et)
mutual
def et.D:et->List Dat
 | .mk x0 x1 x2 x3 x4 x5=>[.int x0,.str x1,.int x2,.int x3,.int x4,.row 6 (et.Ds x5)]
def et.Ds:List et->List (List Dat)
 | []=>[]
 | x :: r=>et.D x :: et.Ds r
end
theorem et.Eo:∀l,et.Ds l=l.map et.D
 | []=>by simp[et.Ds]
 | x :: r=>by simp[et.Ds,et.Eo r]
mutual
theorem et.ind {P:et->Prop} (h:∀x0 x1 x2 x3 x4 x5,(∀(i:Nat) (hi:i<x5.length),P x5[i])->P (.mk x0 x1 x2 x3 x4 x5)):∀t,P t
 | .mk x0 x1 x2 x3 x4 x5=>h x0 x1 x2 x3 x4 x5 (et.MF h x5)
theorem et.MF {P:et->Prop} (h:∀x0 x1 x2 x3 x4 x5,(∀(i:Nat) (hi:i<x5.length),P x5[i])->P (.mk x0 x1 x2 x3 x4 x5)):∀(l:List et) (i:Nat) (hi:i<l.length),P l[i]
 | [],i,hi=>absurd hi aK
 | x :: r,0,_=>et.ind h x
 | x :: r,i+1,hi=>et.MF h r i br
end
theorem et.fU {x0:Int} {x1:ByteArray} {x2:Int} {x3:Int} {x4:Int} {x5:List et}:(et.mk x0 x1 x2 x3 x4 x5).D=[.int x0,.str x1,.int x2,.int x3,.int x4,.row 6 (x5.map et.D)]:=by
 simp only[et.D,et.Eo]
theorem et.oO:∀t:et,t.D.length=6
 | .mk x0 x1 x2 x3 x4 x5=>by rw[et.fU];rfl
theorem et.vals {w:World} {S:Nat->Prop} {x0:Int} {x1:ByteArray} {x2:Int} {x3:Int} {x4:Int} {x5:List et} {vs:List Value} (h:Dat.cC w S (et.mk x0 x1 x2 x3 x4 x5).D vs):∃zq zr,vs=[.int .i64 x0,.string x1,.int .i64 x2,.int .i64 x3,.int .i64 x4,.slice zq x5.length zr]/\fD x0/\x1.size<=maxLen/\fD x2/\fD x3/\fD x4/\Row w S 6 zq zr (x5.map et.D):=by
 rw[et.fU]at h
 match vs,h with
 | [u0,u1,u2,u3,u4,u5],h =>
  obtain⟨h0,h1,h2,h3,h4,h5,-⟩:=h
  obtain⟨rfl,g0⟩:=Dat.dA.1 h0
  obtain⟨rfl,g1⟩:=Dat.gz.1 h1
  obtain⟨rfl,g2⟩:=Dat.dA.1 h2
  obtain⟨rfl,g3⟩:=Dat.dA.1 h3
  obtain⟨rfl,g4⟩:=Dat.dA.1 h4
  obtain⟨zq,zr,rfl,g5⟩:=Dat.fo.1 h5
  exact⟨zq,zr,by simp only[aj],g0,g1,g2,g3,g4,g5⟩
theorem et.jk {w:World} {S:Nat->Prop} {x0:Int} {x1:ByteArray} {x2:Int} {x3:Int} {x4:Int} {x5:List et} {zq:Option Addr} {zr:Nat} (h0:fD x0) (h1:x1.size<=maxLen) (h2:fD x2) (h3:fD x3) (h4:fD x4) (h5:Row w S 6 zq zr (x5.map et.D)):Dat.cC w S (et.mk x0 x1 x2 x3 x4 x5).D [.int .i64 x0,.string x1,.int .i64 x2,.int .i64 x3,.int .i64 x4,.slice zq x5.length zr]:=by
 rw[et.fU]
 exact⟨Dat.dA.2 ⟨rfl,h0⟩,Dat.gz.2 ⟨rfl,h1⟩,Dat.dA.2 ⟨rfl,h2⟩,Dat.dA.2 ⟨rfl,h3⟩,Dat.dA.2 ⟨rfl,h4⟩,Dat.fo.2 ⟨_,_,by simp only[aj],h5⟩,trivial⟩
theorem et.at {w:World} {S:Nat->Prop} {A:Option Addr} {c:Nat} {l:List et} (h:Row w S 6 A c (l.map et.D)) (i:Nat) (hi:i<l.length) :
  ∃b o x0 x1 x2 x3 x4 x5 zq zr,A=some ⟨b,o,none⟩/\S b/\b<w.heap.size/\l[i]=.mk x0 x1 x2 x3 x4 x5/\Dat.cC w S l[i].D [.int .i64 x0,.string x1,.int .i64 x2,.int .i64 x3,.int .i64 x4,.slice zq x5.length zr]/\fD x0/\x1.size<=maxLen/\fD x2/\fD x3/\fD x4/\Row w S 6 zq zr (x5.map et.D)/\w.cell? ⟨b,o+i*6,none⟩=some (.int .i64 x0)/\w.cell? ⟨b,o+i*6+1,none⟩=some (.string x1)/\w.cell? ⟨b,o+i*6+2,none⟩=some (.int .i64 x2)/\w.cell? ⟨b,o+i*6+3,none⟩=some (.int .i64 x3)/\w.cell? ⟨b,o+i*6+4,none⟩=some (.int .i64 x4)/\w.cell? ⟨b,o+i*6+5,none⟩=some (.slice zq x5.length zr):=by
 obtain⟨b,o,vs,hA,hS,hb,hv,hl,hc⟩:=Row.at h i br
 rw[List.getElem_map]at hv
 obtain⟨x0,x1,x2,x3,x4,x5,hx⟩:∃x0 x1 x2 x3 x4 x5,l[i]=.mk x0 x1 x2 x3 x4 x5:=by cases l[i];exact⟨_,_,_,_,_,_,rfl⟩
 have hv2:=hv
 rw[hx]at hv2
 obtain⟨zq,zr,rfl,g0,g1,g2,g3,g4,g5⟩:=et.vals hv2
 exact⟨b,o,_,_,_,_,_,_,_,_,hA,hS,hb,hx,hv,g0,g1,g2,g3,g4,g5,by simpa using hc 0 aF,by simpa using hc 1 aF,by simpa using hc 2 aF,by simpa using hc 3 aF,by simpa using hc 4 aF,by simpa using hc 5 aF⟩
inductive gH where
 | mk (Kind:Int) (Op:Int) (Number:Int) (Line:Int) (Text:ByteArray) (Kids:List gH)
mutual
def gH.D:gH->List Dat
 | .mk x0 x1 x2 x3 x4 x5=>[.int x0,.int x1,.int x2,.int x3,.str x4,.row 6 (gH.Ds x5)]
def gH.Ds:List gH->List (List Dat)
 | []=>[]
 | x :: r=>gH.D x :: gH.Ds r
end
theorem gH.Eo:∀l,gH.Ds l=l.map gH.D
 | []=>by simp[gH.Ds]
 | x :: r=>by simp[gH.Ds,gH.Eo r]
mutual
theorem gH.ind {P:gH->Prop} (h:∀x0 x1 x2 x3 x4 x5,(∀(i:Nat) (hi:i<x5.length),P x5[i])->P (.mk x0 x1 x2 x3 x4 x5)):∀t,P t
 | .mk x0 x1 x2 x3 x4 x5=>h x0 x1 x2 x3 x4 x5 (gH.MF h x5)
theorem gH.MF {P:gH->Prop} (h:∀x0 x1 x2 x3 x4 x5,(∀(i:Nat) (hi:i<x5.length),P x5[i])->P (.mk x0 x1 x2 x3 x4 x5)):∀(l:List gH) (i:Nat) (hi:i<l.length),P l[i]
 | [],i,hi=>absurd hi aK
 | x :: r,0,_=>gH.ind h x
 | x :: r,i+1,hi=>gH.MF h r i br
end
theorem gH.fU {x0:Int} {x1:Int} {x2:Int} {x3:Int} {x4:ByteArray} {x5:List gH}:(gH.mk x0 x1 x2 x3 x4 x5).D=[.int x0,.int x1,.int x2,.int x3,.str x4,.row 6 (x5.map gH.D)]:=by
 simp only[gH.D,gH.Eo]
theorem gH.oO:∀t:gH,t.D.length=6
 | .mk x0 x1 x2 x3 x4 x5=>by rw[gH.fU];rfl
theorem gH.vals {w:World} {S:Nat->Prop} {x0:Int} {x1:Int} {x2:Int} {x3:Int} {x4:ByteArray} {x5:List gH} {vs:List Value} (h:Dat.cC w S (gH.mk x0 x1 x2 x3 x4 x5).D vs):∃zq zr,vs=[.int .i64 x0,.int .i64 x1,.int .i64 x2,.int .i64 x3,.string x4,.slice zq x5.length zr]/\fD x0/\fD x1/\fD x2/\fD x3/\x4.size<=maxLen/\Row w S 6 zq zr (x5.map gH.D):=by
 rw[gH.fU]at h
 match vs,h with
 | [u0,u1,u2,u3,u4,u5],h =>
  obtain⟨h0,h1,h2,h3,h4,h5,-⟩:=h
  obtain⟨rfl,g0⟩:=Dat.dA.1 h0
  obtain⟨rfl,g1⟩:=Dat.dA.1 h1
  obtain⟨rfl,g2⟩:=Dat.dA.1 h2
  obtain⟨rfl,g3⟩:=Dat.dA.1 h3
  obtain⟨rfl,g4⟩:=Dat.gz.1 h4
  obtain⟨zq,zr,rfl,g5⟩:=Dat.fo.1 h5
  exact⟨zq,zr,by simp only[aj],g0,g1,g2,g3,g4,g5⟩
theorem gH.jk {w:World} {S:Nat->Prop} {x0:Int} {x1:Int} {x2:Int} {x3:Int} {x4:ByteArray} {x5:List gH} {zq:Option Addr} {zr:Nat} (h0:fD x0) (h1:fD x1) (h2:fD x2) (h3:fD x3) (h4:x4.size<=maxLen) (h5:Row w S 6 zq zr (x5.map gH.D)):Dat.cC w S (gH.mk x0 x1 x2 x3 x4 x5).D [.int .i64 x0,.int .i64 x1,.int .i64 x2,.int .i64 x3,.string x4,.slice zq x5.length zr]:=by
 rw[gH.fU]
 exact⟨Dat.dA.2 ⟨rfl,h0⟩,Dat.dA.2 ⟨rfl,h1⟩,Dat.dA.2 ⟨rfl,h2⟩,Dat.dA.2 ⟨rfl,h3⟩,Dat.gz.2 ⟨rfl,h4⟩,Dat.fo.2 ⟨_,_,by simp only[aj],h5⟩,trivial⟩
theorem gH.at {w:World} {S:Nat->Prop} {A:Option Addr} {c:Nat} {l:List gH} (h:Row w S 6 A c (l.map gH.D)) (i:Nat) (hi:i<l.length) :
  ∃b o x0 x1 x2 x3 x4 x5 zq zr,A=some ⟨b,o,none⟩/\S b/\b<w.heap.size/\l[i]=.mk x0 x1 x2 x3 x4 x5/\Dat.cC w S l[i].D [.int .i64 x0,.int .i64 x1,.int .i64 x2,.int .i64 x3,.string x4,.slice zq x5.length zr]/\fD x0/\fD x1/\fD x2/\fD x3/\x4.size<=maxLen/\Row w S 6 zq zr (x5.map gH.D)/\w.cell? ⟨b,o+i*6,none⟩=some (.int .i64 x0)/\w.cell? ⟨b,o+i*6+1,none⟩=some (.int .i64 x1)/\w.cell? ⟨b,o+i*6+2,none⟩=some (.int .i64 x2)/\w.cell? ⟨b,o+i*6+3,none⟩=some (.int .i64 x3)/\w.cell? ⟨b,o+i*6+4,none⟩=some (.string x4)/\w.cell? ⟨b,o+i*6+5,none⟩=some (.slice zq x5.length zr):=by
 obtain⟨b,o,vs,hA,hS,hb,hv,hl,hc⟩:=Row.at h i br
 rw[List.getElem_map]at hv
 obtain⟨x0,x1,x2,x3,x4,x5,hx⟩:∃x0 x1 x2 x3 x4 x5,l[i]=.mk x0 x1 x2 x3 x4 x5:=by cases l[i];exact⟨_,_,_,_,_,_,rfl⟩
 have hv2:=hv
 rw[hx]at hv2
 obtain⟨zq,zr,rfl,g0,g1,g2,g3,g4,g5⟩:=gH.vals hv2
 exact⟨b,o,_,_,_,_,_,_,_,_,hA,hS,hb,hx,hv,g0,g1,g2,g3,g4,g5,by simpa using hc 0 aF,by simpa using hc 1 aF,by simpa using hc 2 aF,by simpa using hc 3 aF,by simpa using hc 4 aF,by simpa using hc 5 aF⟩
theorem JO {H:Type} {enc:TypeId × Value->H} {w:World} {spare:Nat->Bool} {held:Bool}:∀(fuel:Nat) (cs:List Value) (x:DataW H × List MemPlace),DataW.trod enc Tryz.prog w 0 spare held fuel 52 cs=some x->∃t:lP,Dat.cC w (fun _=>True) t.D cs:=by
 intro fuel
 induction fuel using Nat.strongRecOn with
 | ind fuel ih =>
 intro cs x h
 obtain⟨xs,n,rfl,hx,hl,hlen,hg⟩:=DataW.trod_struct Tryz.underlying52 h
 obtain⟨c0,c1,rfl⟩:=Sq (hl.trans aC)
 obtain⟨y0,y1,rfl⟩:=Sq (hlen.trans aC)
 have g0:=hg 0 _ rfl
 have g1:=hg 1 _ rfl
 obtain⟨a0,e0,_,w0⟩:=DataW.trod_int (cs:=[c0]) Tryz.underlying3 g0
 simp only[List.cons.injEq,and_true]at e0
 subst e0
 obtain⟨a1,e1,_,w1⟩:=DataW.trod_int (cs:=[c1]) Tryz.underlying3 g1
 simp only[List.cons.injEq,and_true]at e1
 subst e1
 exact⟨.mk a0 a1,lP.jk (gy w0) (gy w1)⟩
end Go.Proofs.YtjngkknbpfgdcaaGreatDoor
namespace Go.Proofs.YtjngkknbpfgdcaaGreatDoor
open Go.RowKit
def nf (cur:Array Value):Nat->List Value->Array Value
 | _,[]=>cur
 | o,v :: r=>nf (cur.setIfInBounds o v) (o+1) r
theorem sS:∀(vs:List Value) (o:Nat) (cur:Array Value),(nf cur o vs).size=cur.size
 | [],_,_=>rfl
 | v :: r,o,cur=>by rw[nf,sS r];simp
theorem rG:∀(vs:List Value) (o:Nat) (cur:Array Value) (i:Nat),i<o\/o+vs.length<=i->(nf cur o vs)[i]?=cur[i]?
 | [],_,_,_,_=>rfl
 | v :: r,o,cur,i,h=>by
  rw[nf,rG r (o+1) _ i (by simp at h;omega),Array.getElem?_setIfInBounds_ne (by simp at h;omega)]
theorem xP:∀(vs:List Value) (o:Nat) (cur:Array Value) (l:Nat),l<vs.length->o+vs.length<=cur.size->(nf cur o vs)[o+l]?=vs[l]?
 | [],_,_,_,h,_=>absurd h aK
 | v :: r,o,cur,0,_,hs=>by
  rw[nf,rG r (o+1) _ (o+0) aB]
  simp at hs
  simp[Array.getElem?_setIfInBounds]
  omega
 | v :: r,o,cur,l+1,h,hs=>by
  rw[nf,show o+(l+1)=(o+1)+l by omega,xP r (o+1) _ l bM (by simp at hs |-;omega)]
  simp
theorem qg {g:Nat} {E:TypeId} {f:Nat × Nat}:∀(vs:List Value) (o:Nat) (w:World) (cur:Array Value),w.heap[g]?=some (.cells cur E f)->(w.setCells g o vs).heap[g]?=some (.cells (nf cur o vs) E f)
 | [],_,_,_,h=>h
 | v :: r,o,w,cur,h=>by
  rw[World.setCells,nf]
  refine qg r (o+1) _ _ ?_
  simp[World.setCell,Array.getElem?_modify,h]
theorem mB {g b:Nat} (hb:b≠g):∀(vs:List Value) (o:Nat) (w:World),(w.setCells g o vs).heap[b]?=w.heap[b]?
 | [],_,_=>rfl
 | v :: r,o,w=>by
  rw[World.setCells,mB hb r (o+1)]
  exact Below.heap_setCell w ⟨g,o,none⟩ v b hb
theorem size_setCells {g:Nat}:∀(vs:List Value) (o:Nat) (w:World),(w.setCells g o vs).heap.size=w.heap.size
 | [],_,_=>rfl
 | v :: r,o,w=>by
  rw[World.setCells,size_setCells r (o+1)]
  simp
theorem cE.setCells {a:World} {g:Nat} (hg:a.heap.size<=g):∀(vs:List Value) (o:Nat) (b:World),cE a b->cE a (b.setCells g o vs)
 | [],_,_,h=>h
 | v :: r,o,b,h=>by
  rw[World.setCells]
  exact cE.setCells hg r (o+1) _ (h.set (p:=⟨g,o,none⟩) hg v)
structure Off (S:Nat->Prop) (w w':World):Prop where
 size:w.heap.size<=w'.heap.size
 cell:∀b o,S b->b<w.heap.size->w'.cell? ⟨b,o,none⟩=w.cell? ⟨b,o,none⟩
namespace Off
variable {S:Nat->Prop} {a b c:World}
theorem refl (S:Nat->Prop) (w:World):Off S w w:=⟨Nat.le_refl _,fun _ _ _ _=>rfl⟩
theorem trans (h:Off S a b) (k:Off S b c):Off S a c:=⟨al h.size k.size,fun i o hS hi=>(k.cell i o hS (ak hi h.size)).trans (h.cell i o hS hi)⟩
theorem gI (S:Nat->Prop) (h:cE a b):Off S a b:=⟨cE.size h,fun i o _ hi=>h.box i hi o⟩
theorem bel (h:Off S a b) (k:cE b c):Off S a c:=h.trans (gI S k)
theorem alloc (h:Off S a b) (o:Obj):Off S a (b.alloc o):=h.bel (cE.alloc (cE.refl _) o)
theorem drew (h:Off S a b):Off S a b.drew:=h.bel (cE.drew (cE.refl _))
theorem drewN (h:Off S a b) (n:Nat):Off S a (b.drewN n):=h.bel (cE.drewN (cE.refl _) n)
theorem set (h:Off S a b) {p:Addr} (hp:¬S p.block) (v:Value):Off S a (b.setCell p v) :=
 h.trans ⟨by simp,fun i o hS hi=>World.cell?_setCell_other b p ⟨i,o,none⟩ v (fun e=>hp (by rw[e];exact hS))⟩
end Off
theorem Sc {S:Nat->Prop} {a b:World} (h:Off S a b:=by repeat' (first | with_reducible exact Off.refl _ _ | with_reducible refine Off.set ?_ ?_ _ | with_reducible refine Off.alloc ?_ _ | with_reducible refine Off.drew ?_ | with_reducible refine Off.drewN ?_ _ | with_reducible refine Off.bel ?_ cr | (simp;done) | (simp;omega) | omega)):Off S a b:=h
theorem Row.off {S:Nat->Prop} {w w':World} (h:Off S w w') {k:Nat} {A:Option Addr} {c:Nat} {xs:List (List Dat)} (hh:Row w S k A c xs):Row w' S k A c xs:=Row.keep h.size h.cell (fun _ h=>h) hh
theorem Dat.cC.off {S:Nat->Prop} {w w':World} (h:Off S w w') {ds:List Dat} {vs:List Value} (hh:Dat.cC w S ds vs):Dat.cC w' S ds vs:=Dat.cC.keep h.size h.cell (fun _ h=>h) ds vs hh
def Fill (w:World) (g:Nat) (E:TypeId) (k n:Nat) (S:Nat->Prop) (ds:List (List Dat)):Prop :=
 ds.length<=n/\∃cur,w.heap[g]?=some (.cells cur E (0,0))/\cur.size=n*k/\∀(j:Nat) (h:j<ds.length),∃vs,Dat.cC w S ds[j] vs/\vs.length=k/\∀l,l<k->cur[j*k+l]?=vs[l]?
section
variable {w w':World} {g:Nat} {E:TypeId} {k n:Nat} {S:Nat->Prop} {ds:List (List Dat)}
theorem Fill.start (w:World) (E:TypeId) (k n:Nat) (S:Nat->Prop) {cur:Array Value} (h:cur.size=n*k):Fill (w.alloc (.cells cur E)) w.heap.size E k n S [] :=
 ⟨by simp,cur,heap_alloc_new w _,h,fun j hj=>absurd hj aK⟩
theorem Fill.lt (h:Fill w g E k n S ds):g<w.heap.size:=by
 obtain⟨_,cur,hc,_⟩:=h
 rcases Nat.lt_or_ge g w.heap.size with h' | h'
 ·
  exact h'
 ·
  rw[Array.getElem?_eq_none h']at hc;cases hc
theorem Fill.bel (h:Fill w g E k n S ds) (hb:cE w w'):Fill w' g E k n S ds:=by
 have hl:=h.lt
 obtain⟨h0,cur,hc,hs,hj⟩:=h
 refine⟨h0,cur,(Below.block hb g hl).trans hc,hs,fun j hjl=>?_⟩
 obtain⟨vs,g1,g2⟩:=hj j hjl
 exact⟨vs,g1.bel hb,g2⟩
theorem Fill.cell (h:Fill w g E k n S ds) {i:Nat} (hi:i<n*k):∃u,w.cell? ⟨g,i,none⟩=some u:=by
 obtain⟨h0,cur,hc,hs,hj⟩:=h
 refine⟨cur[i]' aB,?_⟩
 rw[cell_of_row w g i cur E (0,0) hc]
 exact Array.getElem?_eq_getElem aB
theorem Fill.free (h:Fill w g E k n S ds) (i:Nat):w.frozen? ⟨g,i,none⟩=false:=by
 obtain⟨h0,cur,hc,hs,hj⟩:=h
 simp[World.frozen?,hc]
theorem Fill.put (h:Fill w g E k n S ds) (hn:ds.length<n) (hS:∀b,S b->b≠g) {d:List Dat} {vs:List Value} (hv:Dat.cC w S d vs) (hk:vs.length=k):Fill (w.setCells g (ds.length*k) vs) g E k n S (ds++[d]):=by
 obtain⟨h0,cur,hc,hs,hj⟩:=h
 have hle:ds.length*k+k<=n*k:=by rw[<-Nat.succ_mul];exact Nat.mul_le_mul_right k hn
 have keep:∀(d:List Dat) (vs':List Value),Dat.cC w S d vs'->Dat.cC (w.setCells g (ds.length*k) vs) S d vs':=fun d vs' hd =>
  Dat.cC.keep (by rw[size_setCells];exact Nat.le_refl _) (fun b o hb _=>World.cell?_of_block (mB (hS b hb) vs _ w)) (fun _ h=>h) d vs' hd
 refine⟨by simp;omega,nf cur (ds.length*k) vs,qg vs _ w cur hc,by rw[sS];exact hs,fun j hjl=>?_⟩
 by_cases e:j<ds.length
 ·
  rw[List.getElem_append_left e]
  obtain⟨vs',g1,g2,g3⟩:=hj j e
  refine⟨vs',keep _ _ g1,g2,fun l hl=>?_⟩
  have:j*k+k<=ds.length*k:=by rw[<-Nat.succ_mul];exact Nat.mul_le_mul_right k e
  rw[rG _ _ _ _ aB]
  exact g3 l hl
 ·
  obtain rfl:j=ds.length:=by simp at hjl;omega
  refine⟨vs,by simpa using keep _ _ hv,hk,fun l hl=>?_⟩
  exact xP vs _ cur l aB aB
theorem Fill.row (h:Fill w g E k n S ds) (hn:ds.length=n) (hm:n<=maxLen) {S':Nat->Prop} (hS:∀b,S b->S' b) (hg:S' g):Row w S' k (some ⟨g,0,none⟩) n ds:=by
 have hlt:=h.lt
 obtain⟨h0,cur,hc,hs,hj⟩:=h
 refine⟨h0,hm,fun _=>⟨g,0,rfl,hg,hlt,Dat.fI.mk fun j hjl=>?_⟩⟩
 obtain⟨vs,g1,g2,g3⟩:=hj j hjl
 refine⟨Dat.fN.nu (g1.wide hS) fun l hl=>?_,by rw[<-g1.length];exact g2⟩
 rw[cell_of_row w g _ cur E (0,0) hc,<-g3 l aB]
 congr 1
 omega
end
theorem take_snoc {α:Type} {l:List α} {j:Nat} (h:j<l.length):l.take (j+1)=l.take j++[l[j]]:=by
 rw[List.take_succ_eq_append_getElem h]
theorem Fill.snoc {α:Type} {D:α->List Dat} {l:List α} {w:World} {g:Nat} {E:TypeId} {k n j:Nat} {S S1:Nat->Prop} (h:Fill w g E k n S ((l.map D).take j)) (hj:j<l.length) (hn:l.length=n) (hS:∀b,S b->b≠g)
  {vs:List Value} (hv:Dat.cC w S1 (D l[j]) vs) (h1:∀b,S1 b->S b) (hk:vs.length=k):Fill (w.setCells g (j*k) vs) g E k n S ((l.map D).take (j+1)):=by
 have hlen:((l.map D).take j).length=j:=aD
 have:=h.put (by rw[hlen];omega) hS (hv.wide h1) hk
 rw[hlen]at this
 rw[take_snoc bI,List.getElem_map]
 exact this
theorem Fill.done {α:Type} {D:α->List Dat} {l:List α} {w:World} {g:Nat} {E:TypeId} {k n j:Nat} {S S':Nat->Prop} (h:Fill w g E k n S ((l.map D).take j)) (hj:l.length<=j) (hn:l.length=n) (hm:n<=maxLen) (hS:∀b,S b->S' b) (hg:S' g) :
  Row w S' k (some ⟨g,0,none⟩) n (l.map D):=by
 rw[List.take_of_length_le bI]at h
 exact h.row (by simpa using hn) hm hS hg
theorem Fill.MG {α:Type} {D:α->List Dat} {l:List α} {w:World} {g:Nat} {E:TypeId} {n j:Nat} {S S1:Nat->Prop} {u0:Value} (h:Fill w g E 1 n S ((l.map D).take j)) (hj:j<l.length) (hn:l.length=n) (hS:∀b,S b->b≠g)
  (hv:Dat.cC w S1 (D l[j]) [u0]) (h1:∀b,S1 b->S b):Fill (w.setCell ⟨g,j,none⟩ u0) g E 1 n S ((l.map D).take (j+1)):=by
 have:=Fill.snoc h hj hn hS hv h1 rfl
 rw[Nat.mul_one]at this
 exact this
theorem Fill.MH {α:Type} {D:α->List Dat} {l:List α} {w:World} {g:Nat} {E:TypeId} {n j:Nat} {S S1:Nat->Prop} {u0 u1:Value} (h:Fill w g E 2 n S ((l.map D).take j)) (hj:j<l.length) (hn:l.length=n) (hS:∀b,S b->b≠g)
  (hv:Dat.cC w S1 (D l[j]) [u0,u1]) (h1:∀b,S1 b->S b):Fill ((w.setCell ⟨g,j*2,none⟩ u0).setCell ⟨g,j*2+1,none⟩ u1) g E 2 n S ((l.map D).take (j+1)):=by
 have:=Fill.snoc h hj hn hS hv h1 rfl
 exact this
theorem Fill.MI {α:Type} {D:α->List Dat} {l:List α} {w:World} {g:Nat} {E:TypeId} {n j:Nat} {S S1:Nat->Prop} {u0 u1 u2:Value} (h:Fill w g E 3 n S ((l.map D).take j)) (hj:j<l.length) (hn:l.length=n) (hS:∀b,S b->b≠g)
  (hv:Dat.cC w S1 (D l[j]) [u0,u1,u2]) (h1:∀b,S1 b->S b):Fill (((w.setCell ⟨g,j*3,none⟩ u0).setCell ⟨g,j*3+1,none⟩ u1).setCell ⟨g,j*3+2,none⟩ u2) g E 3 n S ((l.map D).take (j+1)):=by
 have:=Fill.snoc h hj hn hS hv h1 rfl
 exact this
theorem Fill.MJ {α:Type} {D:α->List Dat} {l:List α} {w:World} {g:Nat} {E:TypeId} {n j:Nat} {S S1:Nat->Prop} {u0 u1 u2 u3 u4:Value} (h:Fill w g E 5 n S ((l.map D).take j)) (hj:j<l.length) (hn:l.length=n) (hS:∀b,S b->b≠g)
  (hv:Dat.cC w S1 (D l[j]) [u0,u1,u2,u3,u4]) (h1:∀b,S1 b->S b):Fill (((((w.setCell ⟨g,j*5,none⟩ u0).setCell ⟨g,j*5+1,none⟩ u1).setCell ⟨g,j*5+2,none⟩ u2).setCell ⟨g,j*5+3,none⟩ u3).setCell ⟨g,j*5+4,none⟩ u4) g E 5 n S ((l.map D).take (j+1)):=by
 have:=Fill.snoc h hj hn hS hv h1 rfl
 exact this
theorem Fill.MK {α:Type} {D:α->List Dat} {l:List α} {w:World} {g:Nat} {E:TypeId} {n j:Nat} {S S1:Nat->Prop} {u0 u1 u2 u3 u4 u5:Value} (h:Fill w g E 6 n S ((l.map D).take j)) (hj:j<l.length) (hn:l.length=n) (hS:∀b,S b->b≠g)
  (hv:Dat.cC w S1 (D l[j]) [u0,u1,u2,u3,u4,u5]) (h1:∀b,S1 b->S b):Fill ((((((w.setCell ⟨g,j*6,none⟩ u0).setCell ⟨g,j*6+1,none⟩ u1).setCell ⟨g,j*6+2,none⟩ u2).setCell ⟨g,j*6+3,none⟩ u3).setCell ⟨g,j*6+4,none⟩ u4).setCell ⟨g,j*6+5,none⟩ u5) g E 6 n S ((l.map D).take (j+1)):=by
 have:=Fill.snoc h hj hn hS hv h1 rfl
 exact this
theorem kZ {P:Program} {t e:TypeId} {k:Nat} (n:Nat) (hn:n<=1048576) (ht:P.underlying t=some (.slice e)) (hinfo:(P.info? e).map (fun i=>(i.zero.isSome,i.size,decide (i.bytes<=1000)))=some (true,k,true)) :
  ∃cur:Array Value,cur.size=n*k/\∀w,(Instr.makeSlice t (.int .i64 (n:Int)) (.int .i64 (n:Int))).run P w=.ok (.slice (some ⟨w.heap.size,0,none⟩) n n) (w.alloc (.cells cur e)):=by
 obtain⟨i,hi,hzz⟩:=Option.map_eq_some_iff.1 hinfo
 simp only[Prod.mk.injEq]at hzz
 obtain⟨h1,h2,h3⟩:=hzz
 obtain⟨z,hz⟩:=Option.isSome_iff_exists.1 h1
 refine⟨madeCells z.cells (n*k),size_madeCells _ _,fun w=>?_⟩
 have hbn:i.bytes*n<=1000*1048576:=Nat.mul_le_mul (by simpa using h3) hn
 have hb':(i.bytes:Int)*(n:Int)<=281474976710656:=by
  rw[<-Int.natCast_mul];omega
 have hr:=run_make (P:=P) w t e i z ht hi hz .i64 .i64 n n aB (Int.le_refl _) hb' aB
 rw[h2]at hr
 simpa using hr
def Ep (w:World) (ds:List Dat) (e:Ending) (w':World):Prop :=
 ∃vs,e=.returned (.agg vs.toArray)/\Dat.cC w' (fun b=>w.heap.size<=b) ds vs/\cE w w'
def uI (w:World) (k:Nat) (xs:List (List Dat)) (e:Ending) (w':World):Prop :=
 ∃A c,e=.returned (.slice A xs.length c)/\Row w' (fun b=>w.heap.size<=b) k A c xs/\cE w w'
end Go.Proofs.YtjngkknbpfgdcaaGreatDoor
namespace Go.Proofs.YtjngkknbpfgdcaaGreatDoor
open Go.RowKit
mutual
def Dat.wt:Dat->Nat
 | .int _=>0
 | .str s=>s.size
 | .bool _=>0
 | .row _ xs=>xs.length+Dat.jE xs
def Dat.jE:List (List Dat)->Nat
 | []=>0
 | ds :: r=>Dat.mg ds+Dat.jE r
def Dat.mg:List Dat->Nat
 | []=>0
 | d :: r=>Dat.wt d+Dat.mg r
end
theorem Dat.jZ:∀(l:List (List Dat)) (k:Nat) (h:k<l.length),Dat.jE (l.take (k+1))=Dat.jE (l.take k)+Dat.mg l[k]
 | x :: r,0,_=>by simp[Dat.jE]
 | x :: r,k+1,h=>by
  have:=Dat.jZ r k bM
  simp only[List.take_succ_cons,Dat.jE,ah,this]
  omega
theorem Dat.ng:∀(l:List (List Dat)) (k:Nat),Dat.jE (l.take k)<=Dat.jE l
 | [],k=>by simp
 | x :: r,0=>by simp[Dat.jE]
 | x :: r,k+1=>by
  have:=Dat.ng r k
  simp only[List.take_succ_cons,Dat.jE]
  omega
def Df (m:Nat) (left:Int):Int:=if left<m then -1 else left - m
theorem xQ {m:Nat} {left:Int} (h:left<m):Df m left = -1:=by unfold Df;rw[if_pos h]
theorem tK {m:Nat} {left:Int} (h:¬left<m):Df m left=left - m:=by unfold Df;rw[if_neg h]
theorem gn {a b:Int} (h:a=b):Ending.returned (.int .i64 a)=.returned (.int .i64 b):=by rw[h]
theorem Calls.uJ {P:Program} {f:FuncId} {args:Array Value} {w:World} {m:Nat} {left:Int} (h:Calls P f args w fun e w'=>e=.returned (.int .i64 (Df m left))/\cE w w') :
  Calls P f args w fun e w'=>∃l:Int,e=.returned (.int .i64 l)/\((left<m/\l = -1)\/((m:Int)<=left/\l=left - m))/\cE w w' :=
 h.mono fun e w' ⟨he,hb⟩=>⟨_,he,by
  rcases Int.lt_or_le left m with hq | hq
  ·
   exact Or.inl ⟨hq,xQ hq⟩
  ·
   exact Or.inr ⟨hq,tK aB⟩,hb⟩
theorem Calls.named {P:Program} {f:FuncId} {args:Array Value} {W:World} {Q:Ending->World->Prop} (h:∀wq,W=wq->Calls P f args wq Q):Calls P f args W Q:=h W rfl
theorem Er {P:Program} {f:FuncId} {args:Array Value} {w:World} {n:Nat} {v:Value}
  (h:Calls P f args (w.drewN n) fun e w'=>e=.returned v/\w.drewN n=w'):Calls P f args (w.drewN n) fun e w''=>e=.returned v/\∃m,w''=w.drewN m :=
 Calls.quiet_of_same (h.mono fun _ _ ⟨a,b⟩=>⟨a,b.symm⟩)
theorem yw (lo hi:Int) (w:World) :
  Calls Tryz.prog 57 #[.agg #[.int .i64 lo,.int .i64 hi]] w fun e w'=>e=.returned (.agg #[.int .i64 lo,.int .i64 hi])/\cE w w':=by
 go_enter Tryz.func57,Tryz.ntmps57
 go_wp2
 go_returns
 exact⟨rfl,bl⟩
theorem Es (lo hi:Int) (w:World) :
  Calls Tryz.prog 143 #[.agg #[.int .i64 lo,.int .i64 hi],.agg #[.int .i64 lo,.int .i64 hi]] w fun e w'=>e=.returned (.bool true)/\cE w w':=by
 go_enter Tryz.func143,Tryz.ntmps143
 go_wp2
 all_goals
  go_returns
  exact⟨rfl,bl⟩
section
variable {P:Program} {ops:Array Oper} {Q:Exit->Act->World->Prop} {md:Region.Mode} {S:World->Prop}
theorem eH {oi:Oper} {v:Value} {fuel:Nat} {listed l':Array Bool} {a a':Act} {w:World} (i:Nat) (h:wpAnyH P md ops Q S fuel l' a' w)
  (hi:ops[i]?=some oi:=by rfl) (hs:Region.noSelect ops=true:=by kernel_rfl) (hf:Region.free md ops listed i=true:=by kernel_rfl) (hr:(Region.ready md ops listed).contains i=true:=by kernel_rfl)
  (hw:Region.wanted oi (yielded ops a.tmps)=true:=by rfl)
  (hv:∀w,S w->(execOp a.eval oi).run P w=.ok (.value v) w:=by intro w hSw;(try dsimp only at hSw);go_simp;(try with_reducible rfl))
  (hl:listed.setIfInBounds i true=l':=by first | (simp only[aa,ab,ae];exact rfl) | exact rfl)
  (ha:a.put oi.dst v=a':=by simp only[Act.put,aa,ab,ae,af,ag,ah];exact rfl)
  (hQ:∀c a w,Q (.panic c) (a.put oi.dst v) w->Q (.panic c) a w:=by exact fun _ _ _ h=>h) (hS:S w:=by assumption):wpAnyH P md ops Q S (fuel+1) listed a w:=by
 subst hl ha
 exact wpAnyH_take hi hs hf hr hQ (Or.inl ⟨hw,hv⟩) hS h
theorem sj {oi:Oper} {fuel:Nat} {listed l':Array Bool} {a a':Act} {w:World} (i:Nat) (h:wpAnyH P md ops Q S fuel l' a' w)
  (hi:ops[i]?=some oi:=by rfl) (hs:Region.noSelect ops=true:=by kernel_rfl) (hf:Region.free md ops listed i=true:=by kernel_rfl) (hr:(Region.ready md ops listed).contains i=true:=by kernel_rfl)
  (hw:Region.wanted oi (yielded ops a.tmps)=false:=by rfl)
  (hl:listed.setIfInBounds i true=l':=by first | (simp only[aa,ab,ae];exact rfl) | exact rfl)
  (ha:a.put oi.dst undef=a':=by simp only[Act.put,aa,ab,ae,af,ag,ah];exact rfl)
  (hQ:∀c a w,Q (.panic c) (a.put oi.dst undef) w->Q (.panic c) a w:=by exact fun _ _ _ h=>h) (hS:S w:=by assumption):wpAnyH P md ops Q S (fuel+1) listed a w:=by
 subst hl ha
 exact wpAnyH_take hi hs hf hr hQ (Or.inr ⟨hw,rfl⟩) hS h
end
def ML (t:ByteArray) (left:Int):Int:=if left<t.size then -1 else left - t.size
theorem Et (v:cV) (left:Int) (w:World) (h0:0<=left) (h1:left<=1048576) (ht:v.t.size<=maxLen) :
  Calls Tryz.prog 16 #[v.val,.int .i64 left] w fun e w'=>e=.returned (.int .i64 (ML v.t left))/\cE w w':=by
 obtain⟨k,n,i,t,lo,hi⟩:=v
 simp only[cV.val]
 simp only at ht
 unfold maxLen at ht
 go_enter Tryz.func16,Tryz.ntmps16
 go_wp2
 all_goals
  go_returns
  go_light
  refine⟨?_,bl⟩
  simp_all [ML]
  try omega
theorem pY (v:cV) (w:World) :
  Calls Tryz.prog 18 #[v.val] w fun e w'=>e=.returned v.val/\cE w w':=by
 obtain⟨k,n,i,t,lo,hi⟩:=v
 simp only[cV.val]
 go_enter Tryz.func18,Tryz.ntmps18
 go_wp2
 go_returns
 exact⟨rfl,bl⟩
def cV.tL (a b:cV):Bool:=decide (a.k=b.k)&&decide (a.n=b.n)&&decide (a.i=b.i)&&decide (a.t=b.t)&&decide (a.lo=b.lo)&&decide (a.hi=b.hi)
def isRef (k:Int):Bool:=decide (13<=k)&&decide (k<=18)
theorem oy (v:cV) (w:World) :
  Calls Tryz.prog 32 #[v.val] w fun e w'=>e=.returned (.bool (isRef v.k))/\cE w w':=by
 obtain⟨k,n,i,t,lo,hi⟩:=v
 simp only[cV.val]
 by_cases h1:13<=k
 ·
  have hd:decide (13<=k)=true:=aX
  go_enter Tryz.func32,Tryz.ntmps32
  go_wp2
  go_returns
  refine⟨?_,bl⟩
  simp[isRef,h1]
 ·
  have hd:decide (13<=k)=false:=aX
  go_enter Tryz.func32,Tryz.ntmps32
  go_wp2
  go_returns
  refine⟨?_,bl⟩
  simp[isRef]
  omega
theorem jY (v:cV) (w:World) :
  Calls Tryz.prog 26 #[v.val] w fun e w'=>e=.returned (.bool (isRef v.k))/\cE w w':=by
 obtain⟨k,n,i,t,lo,hi⟩:=v
 simp only[cV.val]
 by_cases h1:13<=k
 ·
  have hd:decide (13<=k)=true:=aX
  go_enter Tryz.func26,Tryz.ntmps26
  go_wp2
  go_returns
  refine⟨?_,bl⟩
  simp[isRef,h1]
 ·
  have hd:decide (13<=k)=false:=aX
  go_enter Tryz.func26,Tryz.ntmps26
  go_wp2
  go_returns
  refine⟨?_,bl⟩
  simp[isRef]
  omega
def byteAt (s:ByteArray) (i:Nat):Nat:=(s.data.toList.getD i 0).toNat
theorem mo (s:ByteArray) (i:Nat) (h:i<s.size):(s[i]'h).toNat=byteAt s i:=by
 unfold byteAt
 have h2:i<s.data.toList.length:=bM
 rw[List.getD_eq_getElem?_getD,List.getElem?_eq_getElem h2]
 rfl
@[go_sem] theorem Sd (w:World) (a:Addr) (v:Value) (h:(w.cell? a).isSome=true):(w.setCell a v).cell? a=some v:=by
 obtain⟨u,hu⟩:=Option.isSome_iff_exists.1 h
 exact World.cell?_setCell_same w a v hu
def cV.zero:cV:=⟨0,0,0,ByteArray.empty,0,0⟩
def cV.ofInt (n:Int):cV:=⟨1,n,0,ByteArray.empty,0,0⟩
def Z6 (w:World) (b:Nat):Prop:=w.cell? ⟨b,0,none⟩=some (.int .i64 0)/\w.cell? ⟨b,1,none⟩=some (.int .i64 0)/\w.cell? ⟨b,2,none⟩=some (.int .i64 0)/\w.cell? ⟨b,3,none⟩=some (.string ByteArray.empty)/\w.cell? ⟨b,4,none⟩=some (.int .i64 0)/\w.cell? ⟨b,5,none⟩=some (.int .i64 0)/\(∀o,w.frozen? ⟨b,o,none⟩=false)/\b<w.heap.size
theorem Z6.on {w w':World} {b:Nat} (h:Z6 w b) (hb:cE w w'):Z6 w' b:=by
 obtain⟨c0,c1,c2,c3,c4,c5,f,l⟩:=h
 exact⟨(hb.box b l 0).trans c0,(hb.box b l 1).trans c1,(hb.box b l 2).trans c2,(hb.box b l 3).trans c3,(hb.box b l 4).trans c4,(hb.box b l 5).trans c5,fun o=>(hb.De b l o).trans (f o),ak l hb.size⟩
theorem Z6.new {w:World} {t:TypeId}:Z6 (w.alloc (.cells #[.int .i64 0,.int .i64 0,.int .i64 0,.string ByteArray.empty,.int .i64 0,.int .i64 0] t)) w.heap.size :=
 ⟨by simp,by simp,by simp,by simp,by simp,by simp,fun o=>by simp,by simp⟩
def wv (w:World) (b:Nat) (x0 x1 x2 x3 x4 x5:Value):World:=(((((w.setCell ⟨b,0,none⟩ x0).setCell ⟨b,1,none⟩ x1).setCell ⟨b,2,none⟩ x2).setCell ⟨b,3,none⟩ x3).setCell ⟨b,4,none⟩ x4).setCell ⟨b,5,none⟩ x5
theorem Z6.put {w:World} {b:Nat} (h:Z6 w b) (x0 x1 x2 x3 x4 x5:Value) :
  (wv w b x0 x1 x2 x3 x4 x5).cell? ⟨b,0,none⟩=some x0/\(wv w b x0 x1 x2 x3 x4 x5).cell? ⟨b,1,none⟩=some x1/\(wv w b x0 x1 x2 x3 x4 x5).cell? ⟨b,2,none⟩=some x2/\(wv w b x0 x1 x2 x3 x4 x5).cell? ⟨b,3,none⟩=some x3/\(wv w b x0 x1 x2 x3 x4 x5).cell? ⟨b,4,none⟩=some x4/\(wv w b x0 x1 x2 x3 x4 x5).cell? ⟨b,5,none⟩=some x5:=by
 obtain⟨c0,c1,c2,c3,c4,c5,f,l⟩:=h
 have n:∀i j:Nat,i≠j->(⟨b,i,none⟩:Addr)≠⟨b,j,none⟩:=fun i j h e=>h (by injection e)
 unfold wv
 refine⟨?_,?_,?_,?_,?_,?_⟩
 ·
  rw[World.cell?_setCell_other (h:=n 5 0 aF),World.cell?_setCell_other (h:=n 4 0 aF),World.cell?_setCell_other (h:=n 3 0 aF),World.cell?_setCell_other (h:=n 2 0 aF),World.cell?_setCell_other (h:=n 1 0 aF),World.cell?_setCell_same (h:=c0)]
 ·
  rw[World.cell?_setCell_other (h:=n 5 1 aF),World.cell?_setCell_other (h:=n 4 1 aF),World.cell?_setCell_other (h:=n 3 1 aF),World.cell?_setCell_other (h:=n 2 1 aF),World.cell?_setCell_same (u:=.int .i64 0) (h:=by rw[World.cell?_setCell_other (h:=n 0 1 aF)];exact c1)]
 ·
  rw[World.cell?_setCell_other (h:=n 5 2 aF),World.cell?_setCell_other (h:=n 4 2 aF),World.cell?_setCell_other (h:=n 3 2 aF),World.cell?_setCell_same (u:=.int .i64 0) (h:=by rw[World.cell?_setCell_other (h:=n 1 2 aF),World.cell?_setCell_other (h:=n 0 2 aF)];exact c2)]
 ·
  rw[World.cell?_setCell_other (h:=n 5 3 aF),World.cell?_setCell_other (h:=n 4 3 aF),World.cell?_setCell_same (u:=.string ByteArray.empty) (h:=by rw[World.cell?_setCell_other (h:=n 2 3 aF),World.cell?_setCell_other (h:=n 1 3 aF),World.cell?_setCell_other (h:=n 0 3 aF)];exact c3)]
 ·
  rw[World.cell?_setCell_other (h:=n 5 4 aF),World.cell?_setCell_same (u:=.int .i64 0) (h:=by rw[World.cell?_setCell_other (h:=n 3 4 aF),World.cell?_setCell_other (h:=n 2 4 aF),World.cell?_setCell_other (h:=n 1 4 aF),World.cell?_setCell_other (h:=n 0 4 aF)];exact c4)]
 ·
  rw[World.cell?_setCell_same (u:=.int .i64 0) (h:=by rw[World.cell?_setCell_other (h:=n 4 5 aF),World.cell?_setCell_other (h:=n 3 5 aF),World.cell?_setCell_other (h:=n 2 5 aF),World.cell?_setCell_other (h:=n 1 5 aF),World.cell?_setCell_other (h:=n 0 5 aF)];exact c5)]
theorem cE.wv {w0 w:World} (h:cE w0 w) {b:Nat} (hb:w0.heap.size<=b) (x0 x1 x2 x3 x4 x5:Value):cE w0 (wv w b x0 x1 x2 x3 x4 x5) :=
 cE.set (cE.set (cE.set (cE.set (cE.set (cE.set h hb x0) hb x1) hb x2) hb x3) hb x4) hb x5
end Go.Proofs.YtjngkknbpfgdcaaGreatDoor
