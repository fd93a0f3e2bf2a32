/- The base of all texts of this seat: closed facts, values of the language (six cells) and character sets (two cells) as arguments, small lemmas. -/
import Derived.Test.YtoikhhnmbbbjjaaDoorProg
import Derived.WalkKit
import Derived.WalkSpells
import Derived.WalkLawsBesides
import Derived.ProofKit
import Derived.OpenShut
import Derived.ShutString
import Derived.ChangeOld
import Derived.Below
import Derived.Lib.Hide
import Derived.Handy
import Derived.Deep.Light
import Derived.Deep.QuietTactic
import Derived.BigQuiet
import Derived.Deep.RegionHeld3
import Derived.StillTailTactics
import Derived.Deep.Slices
import Derived.Laws.IdiomCopy
import Derived.Laws.MakeOwn
import Derived.Deep.RegionWith
namespace Go.Proofs.YtoikhhnmbbbjjaaDoor
set_option linter.unusedVariables false
set_option linter.unusedSimpArgs false
set_option maxRecDepth 100000
open Go.ChangeShapes Go.WideShapes Go.ChangeAt Go.RowKit
open Go.ChangeMaps (open_string shut_string)
theorem own:ownKnob Tryd.prog.godebug=none:=by kernel_rfl
theorem laidOut:laidOutB Tryd.prog=true:=by kernel_rfl
def InI (n:Int):Prop:=-9223372036854775808≤n∧n≤9223372036854775807
theorem hide {p:Prop} (h:p):Hid p:=h
def Bel (w w':World):Prop:=Below w.heap.size w w'
namespace Bel
theorem refl (w:World):Bel w w:=Below.refl _ _
theorem size {w w':World} (h:Bel w w'):w.heap.size≤w'.heap.size:=Below.size h
theorem trans {a b c:World} (h:Bel a b) (k:Bel b c):Bel a c:=Below.trans h (Below.mono k h.size)
theorem alloc {a b:World} (h:Bel a b) (o:Obj):Bel a (b.alloc o):=Below.alloc h h.size o
theorem drew {a b:World} (h:Bel a b):Bel a b.drew:=Below.drew h
theorem drewN {a b:World} (h:Bel a b) (n:Nat):Bel a (b.drewN n):=⟨h.os,h.tape,h.output,h.size,h.block⟩
theorem set {a b:World} (h:Bel a b) {p:Addr} (hp:a.heap.size≤p.block) (v:Value):Bel a (b.setCell p v):=Below.setCell h hp v
theorem facts {W w1:World} (hb:Bel W w1):(∀b o,b<W.heap.size→w1.cell? ⟨b,o,none⟩=W.cell? ⟨b,o,none⟩)∧(∀b o,b<W.heap.size→w1.frozen? ⟨b,o,none⟩=W.frozen? ⟨b,o,none⟩)∧W.heap.size≤w1.heap.size :=
 ⟨fun b o h=>Below.cell (p:=⟨b,o,none⟩) hb h,fun b o h=>Below.frozen (p:=⟨b,o,none⟩) hb h,hb.size⟩
theorem box {W w1:World} (hb:Bel W w1) (b:Nat) (h:b<W.heap.size):∀o,w1.cell? ⟨b,o,none⟩=W.cell? ⟨b,o,none⟩:=fun o=>hb.facts.1 b o h
theorem boxf {W w1:World} (hb:Bel W w1) (b:Nat) (h:b<W.heap.size):∀o,w1.frozen? ⟨b,o,none⟩=W.frozen? ⟨b,o,none⟩:=fun o=>hb.facts.2.1 b o h
theorem lay {W w1:World} (hb:Bel W w1) (b:Nat) (h:b<W.heap.size:=by first | (simp;done) | (simp;omega) | omega) :
  (∀o,w1.cell? ⟨b,o,none⟩=W.cell? ⟨b,o,none⟩)∧(∀o,w1.frozen? ⟨b,o,none⟩=W.frozen? ⟨b,o,none⟩)∧b<w1.heap.size∧¬b=w1.heap.size :=
 ⟨hb.box b h,hb.boxf b h,Nat.lt_of_lt_of_le h hb.size,fun e=>Nat.lt_irrefl _ (e▸Nat.lt_of_lt_of_le h hb.size)⟩
theorem sz {W w1:World} {n:Nat} (hb:Bel W w1) (h:W.heap.size=n:=by first | (simp only[World.size_alloc,World.size_setCell,World.size_drew,World.heap_drewN];exact rfl) | exact rfl):n≤w1.heap.size:=h▸hb.size
end Bel
theorem bl {w w':World} (h:Bel w w':=by repeat' (first | with_reducible exact Bel.refl _ | with_reducible assumption | with_reducible refine Bel.set ?_ ?_ _ | with_reducible refine Bel.alloc ?_ _ | with_reducible refine Bel.drew ?_ | with_reducible refine Bel.drewN ?_ _ | with_reducible refine Bel.trans ?_ (by with_reducible assumption) | (simp;done) | (simp;omega) | refine Bel.alloc ?_ _ | refine Bel.drew ?_ | refine Bel.drewN ?_ _ | refine Bel.set ?_ ?_ _)):Bel w w':=h
theorem ba_eq (s t:ByteArray):s.toList=t.toList↔s=t:=by
 constructor
 ·
  intro h
  have e:∀x:ByteArray,x.toList=x.data.toList:=fun x=>ByteArray.toList_eq x
  rw[e,e]at h
  exact ByteArray.ext (Array.toList_inj.1 h)
 ·
  rintro rfl;rfl
theorem run_ins_int {P:Program} (w0:World) (es:Array MapEntry) (c:Nat) {t kt e:TypeId} (ht:P.underlying t=some (.map kt e)) (hk:P.underlying kt=some (.int .i64)) (b:Nat) (k:Int) (v:Value)
  (hb:b=w0.heap.size) (hnew:Instr.findNow (.int .i64) (.int .i64 k) es.toList 0=some none) :
  (Instr.mapUpdate t (.map (some b)) (.int .i64 k) v).run P (w0.alloc (.map es c))=.ok () (w0.alloc (.map (es.push ⟨.int .i64 k,v,c⟩) (c+1))):=by
 subst hb
 have h0:(w0.alloc (.map es c)).heap[w0.heap.size]?=some (.map es c):=heap_alloc_new w0 _
 have hck:∀w,(Instr.checkKey false 10000 kt (.int .i64 k)).run P w=.ok () w:=fun w=>MapKept.run_checkKey hk (by simp[MapKept.IsKey]) false 9999
 simp[Instr.mapUpdate,run_underlying ht,MapKept.run_getObj_map h0,hck,run_underlying hk,Instr.findKey,hnew,MapKept.run_setObj_map _ h0,Result.andThen]
 have e:∀o o',(w0.heap.push o).setIfInBounds w0.heap.size o'=w0.heap.push o':=fun o o'=>by apply Array.toList_inj.1;simp[Array.toList_setIfInBounds,List.set_append,←Array.length_toList]
 have e2:∀o o',{ w0 with heap:=(w0.heap.push o).setIfInBounds w0.heap.size o' }=({ w0 with heap:=w0.heap.push o' }:World):=fun o o'=>by rw[e]
 exact e2 _ _
structure VVal where
 k:Int
 n:Int
 i:Int
 t:ByteArray
 lo:Int
 hi:Int
def VVal.val (v:VVal):Value:=.agg #[.int .i64 v.k,.int .i64 v.n,.int .i64 v.i,.string v.t,.int .i64 v.lo,.int .i64 v.hi]
structure VVal.Ok (v:VVal):Prop where
 k:InI v.k
 n:InI v.n
 i:InI v.i
 t:v.t.size≤maxLen
 lo:InI v.lo
 hi:InI v.hi
section
variable {H:Type} {enc:TypeId × Value→H} {w:World} {base:Nat} {spare:Nat→Bool} {held:Bool}
end
end Go.Proofs.YtoikhhnmbbbjjaaDoor
namespace Go.Proofs.YtoikhhnmbbbjjaaDoor
set_option linter.unusedVariables false
set_option linter.unusedSimpArgs false
set_option maxRecDepth 100000
open Go.RowKit
def byteAt (s:ByteArray) (i:Nat):Nat:=(s.data.toList.getD i 0).toNat
theorem byteAt_eq (s:ByteArray) (i:Nat) (h:i<s.size):(s[i]'h).toNat=byteAt s i:=by
 unfold byteAt
 have h2:i<s.data.toList.length:=by simpa using h
 rw[List.getD_eq_getElem?_getD,List.getElem?_eq_getElem h2]
 rfl
@[go_sem] theorem cell_set_same (w:World) (a:Addr) (v:Value) (h:(w.cell? a).isSome=true):(w.setCell a v).cell? a=some v:=by
 obtain⟨u,hu⟩:=Option.isSome_iff_exists.1 h
 exact World.cell?_setCell_same w a v hu
end Go.Proofs.YtoikhhnmbbbjjaaDoor
namespace Go.Proofs.YtoikhhnmbbbjjaaDoor
set_option linter.unusedVariables false
set_option linter.unusedSimpArgs false
set_option maxRecDepth 100000
open Go.RowKit
def VVal.eqB (a b:VVal):Bool:=decide (a.k=b.k)&&decide (a.n=b.n)&&decide (a.i=b.i)&&decide (a.t=b.t)&&decide (a.lo=b.lo)&&decide (a.hi=b.hi)
theorem VVal.eqB_self (a:VVal):a.eqB a=true:=by simp[VVal.eqB]
end Go.Proofs.YtoikhhnmbbbjjaaDoor
namespace Go.Proofs.YtoikhhnmbbbjjaaDoor
set_option linter.unusedVariables false
set_option linter.unusedSimpArgs false
set_option maxRecDepth 100000
open Go.RowKit
def VVal.zero:VVal:=⟨0,0,0,ByteArray.empty,0,0⟩
def VVal.ofInt (n:Int):VVal:=⟨1,n,0,ByteArray.empty,0,0⟩
def VVal.ofText (s:ByteArray):VVal:=⟨2,0,0,s,0,0⟩
def VVal.ofSet (lo hi:Int):VVal:=⟨3,0,0,ByteArray.empty,lo,hi⟩
end Go.Proofs.YtoikhhnmbbbjjaaDoor
namespace Go.Proofs.YtoikhhnmbbbjjaaDoor
set_option linter.unusedVariables false
set_option linter.unusedSimpArgs false
set_option maxRecDepth 100000
open Go.ChangeShapes Go.WideShapes Go.RowKit Go.Deep
theorem cell_in' {w:World} {a:Addr} {v:Value} (h:w.cell? a=some v):a.spot=none∧a.block<w.heap.size:=by
 unfold World.cell? at h
 split at h
 ·
  rename_i c _ _ hb
  refine⟨?_,?_⟩
  ·
   split at h
   ·
    cases h
   ·
    rename_i hs;cases hsp:a.spot with
    | none=>rfl
    | some x=>rw[hsp]at hs;simp at hs
  ·
   rcases Nat.lt_or_ge a.block w.heap.size with h' | h'
   ·
    exact h'
   ·
    rw[Array.getElem?_eq_none h']at hb;cases hb
 ·
  cases h
inductive Dat where
 | int (n:Int)
 | str (s:ByteArray)
 | bool (b:Bool)
 | row (k:Nat) (xs:List (List Dat))
mutual
/-- The value v holds d in w; every slice within it lies in a block of S. -/
def Dat.Holds (w:World) (S:Nat→Prop):Dat→Value→Prop
 | .int n,v=>v=.int .i64 n∧InI n
 | .str s,v=>v=.string s∧s.size≤maxLen
 | .bool b,v=>v=.bool b
 | .row k xs,v=>∃A c,v=.slice A xs.length c∧xs.length≤c∧c≤maxLen∧(xs≠[]→∃b o,A=some ⟨b,o,none⟩∧S b∧b<w.heap.size∧Dat.HoldRows w S k b o xs)
def Dat.HoldRows (w:World) (S:Nat→Prop) (k b:Nat):Nat→List (List Dat)→Prop
 | _,[]=>True
 | o,ds :: r=>Dat.HoldCells w S b o ds∧ds.length=k∧Dat.HoldRows w S k b (o+k) r
def Dat.HoldCells (w:World) (S:Nat→Prop) (b:Nat):Nat→List Dat→Prop
 | _,[]=>True
 | o,d :: r=>(∃u,w.cell? ⟨b,o,none⟩=some u∧Dat.Holds w S d u)∧Dat.HoldCells w S b (o+1) r
end
def Dat.HoldVals (w:World) (S:Nat→Prop):List Dat→List Value→Prop
 | [],[]=>True
 | d :: r,v :: vs=>Dat.Holds w S d v∧Dat.HoldVals w S r vs
 | _,_=>False
def Row (w:World) (S:Nat→Prop) (k:Nat) (A:Option Addr) (c:Nat) (xs:List (List Dat)):Prop :=
 xs.length≤c∧c≤maxLen∧(xs≠[]→∃b o,A=some ⟨b,o,none⟩∧S b∧b<w.heap.size∧Dat.HoldRows w S k b o xs)
section
variable {w w':World} {S S':Nat→Prop}
theorem Dat.holds_row {k:Nat} {xs:List (List Dat)} {v:Value}:(Dat.row k xs).Holds w S v↔∃A c,v=.slice A xs.length c∧Row w S k A c xs:=by
 simp only[Dat.Holds,Row]
theorem Dat.holds_int {n:Int} {v:Value}:(Dat.int n).Holds w S v↔v=.int .i64 n∧InI n:=by simp only[Dat.Holds]
theorem Dat.holds_str {s:ByteArray} {v:Value}:(Dat.str s).Holds w S v↔v=.string s∧s.size≤maxLen:=by simp only[Dat.Holds]
theorem Dat.holds_bool {b:Bool} {v:Value}:(Dat.bool b).Holds w S v↔v=.bool b:=by simp only[Dat.Holds]
mutual
theorem Dat.Holds.keep (hs:w.heap.size≤w'.heap.size) (hw:∀b o,S b→b<w.heap.size→w'.cell? ⟨b,o,none⟩=w.cell? ⟨b,o,none⟩) (h1:∀b,S b→S' b) :
  ∀(d:Dat) (v:Value),d.Holds w S v→d.Holds w' S' v
 | .int n,v,h=>by simpa only[Dat.Holds]using h
 | .str s,v,h=>by simpa only[Dat.Holds]using h
 | .bool b,v,h=>by simpa only[Dat.Holds]using h
 | .row k xs,v,h=>by
  simp only[Dat.Holds]at h ⊢
  obtain⟨A,c,rfl,hl,hc,hx⟩:=h
  refine⟨A,c,rfl,hl,hc,fun hne=>?_⟩
  obtain⟨b,o,rfl,g1,g2,hr⟩:=hx hne
  exact⟨b,o,rfl,h1 b g1,by omega,Dat.HoldRows.keep hs hw h1 b g1 g2 xs o hr⟩
theorem Dat.HoldRows.keep (hs:w.heap.size≤w'.heap.size) (hw:∀b o,S b→b<w.heap.size→w'.cell? ⟨b,o,none⟩=w.cell? ⟨b,o,none⟩) (h1:∀b,S b→S' b) {k:Nat} (b:Nat) (hb1:S b) (hb2:b<w.heap.size) :
  ∀(xs:List (List Dat)) (o:Nat),Dat.HoldRows w S k b o xs→Dat.HoldRows w' S' k b o xs
 | [],o,h=>by simp only[Dat.HoldRows]
 | ds :: r,o,h=>by
  simp only[Dat.HoldRows]at h ⊢
  exact⟨Dat.HoldCells.keep hs hw h1 b hb1 hb2 ds o h.1,h.2.1,Dat.HoldRows.keep hs hw h1 b hb1 hb2 r _ h.2.2⟩
theorem Dat.HoldCells.keep (hs:w.heap.size≤w'.heap.size) (hw:∀b o,S b→b<w.heap.size→w'.cell? ⟨b,o,none⟩=w.cell? ⟨b,o,none⟩) (h1:∀b,S b→S' b) (b:Nat) (hb1:S b) (hb2:b<w.heap.size) :
  ∀(ds:List Dat) (o:Nat),Dat.HoldCells w S b o ds→Dat.HoldCells w' S' b o ds
 | [],o,h=>by simp only[Dat.HoldCells]
 | d :: r,o,h=>by
  simp only[Dat.HoldCells]at h ⊢
  obtain⟨⟨u,hu,hd⟩,hr⟩:=h
  exact⟨⟨u,(hw b o hb1 hb2).trans hu,Dat.Holds.keep hs hw h1 d u hd⟩,Dat.HoldCells.keep hs hw h1 b hb1 hb2 r _ hr⟩
end
theorem Dat.HoldVals.keep (hs:w.heap.size≤w'.heap.size) (hw:∀b o,S b→b<w.heap.size→w'.cell? ⟨b,o,none⟩=w.cell? ⟨b,o,none⟩) (h1:∀b,S b→S' b) :
  ∀(ds:List Dat) (vs:List Value),Dat.HoldVals w S ds vs→Dat.HoldVals w' S' ds vs
 | [],[],_=>trivial
 | d :: r,v :: vs,h=>⟨Dat.Holds.keep hs hw h1 d v h.1,Dat.HoldVals.keep hs hw h1 r vs h.2⟩
 | [],_ :: _,h=>h.elim
 | _ :: _,[],h=>h.elim
theorem Row.keep (hs:w.heap.size≤w'.heap.size) (hw:∀b o,S b→b<w.heap.size→w'.cell? ⟨b,o,none⟩=w.cell? ⟨b,o,none⟩) (h1:∀b,S b→S' b) {k:Nat} {A:Option Addr} {c:Nat} {xs:List (List Dat)}
  (h:Row w S k A c xs):Row w' S' k A c xs:=by
 obtain⟨hl,hc,hx⟩:=h
 refine⟨hl,hc,fun hne=>?_⟩
 obtain⟨b,o,rfl,g1,g2,hr⟩:=hx hne
 exact⟨b,o,rfl,h1 b g1,by omega,Dat.HoldRows.keep hs hw h1 b g1 g2 xs o hr⟩
theorem Dat.Holds.bel (hb:Bel w w') {d:Dat} {v:Value} (hh:d.Holds w S v):d.Holds w' S v :=
 Dat.Holds.keep hb.size (fun b o _ h2=>hb.box b h2 o) (fun _ h=>h) d v hh
theorem Dat.HoldVals.bel (hb:Bel w w') {ds:List Dat} {vs:List Value} (hh:Dat.HoldVals w S ds vs):Dat.HoldVals w' S ds vs :=
 Dat.HoldVals.keep hb.size (fun b o _ h2=>hb.box b h2 o) (fun _ h=>h) ds vs hh
theorem Row.bel (hb:Bel w w') {k:Nat} {A:Option Addr} {c:Nat} {xs:List (List Dat)} (hh:Row w S k A c xs):Row w' S k A c xs :=
 Row.keep hb.size (fun b o _ h2=>hb.box b h2 o) (fun _ h=>h) hh
theorem Row.wide (h1:∀b,S b→S' b) {k:Nat} {A:Option Addr} {c:Nat} {xs:List (List Dat)} (hh:Row w S k A c xs):Row w S' k A c xs :=
 Row.keep (Nat.le_refl _) (fun _ _ _ _=>rfl) h1 hh
theorem Dat.HoldVals.wide (h1:∀b,S b→S' b) {ds:List Dat} {vs:List Value} (hh:Dat.HoldVals w S ds vs):Dat.HoldVals w S' ds vs :=
 Dat.HoldVals.keep (Nat.le_refl _) (fun _ _ _ _=>rfl) h1 ds vs hh
theorem Dat.HoldRows.get {k b:Nat}:∀{xs:List (List Dat)} {o:Nat},Dat.HoldRows w S k b o xs→∀(i:Nat) (hi':i<xs.length),Dat.HoldCells w S b (o+i*k) xs[i]∧xs[i].length=k
 | [],_,_,i,h=>absurd h (by simp)
 | ds :: r,o,h,0,_=>by
  simp only[Dat.HoldRows]at h
  simpa using ⟨h.1,h.2.1⟩
 | ds :: r,o,h,i+1,hl=>by
  simp only[Dat.HoldRows]at h
  have:=Dat.HoldRows.get h.2.2 i (by simpa using hl)
  have e:o+(i+1)*k=o+k+i*k:=by rw[Nat.add_mul];omega
  rw[e]
  simpa using this
theorem Dat.HoldRows.mk {k b:Nat}:∀{xs:List (List Dat)} {o:Nat},(∀(i:Nat) (hi':i<xs.length),Dat.HoldCells w S b (o+i*k) xs[i]∧xs[i].length=k)→Dat.HoldRows w S k b o xs
 | [],_,_=>by simp only[Dat.HoldRows]
 | ds :: r,o,h=>by
  simp only[Dat.HoldRows]
  have h0:=h 0 (by simp)
  refine⟨by simpa using h0.1,by simpa using h0.2,Dat.HoldRows.mk fun i hi'=>?_⟩
  have:=h (i+1) (by simpa using hi')
  have e:o+(i+1)*k=o+k+i*k:=by rw[Nat.add_mul];omega
  rw[e]at this
  simpa using this
theorem Dat.HoldCells.of_vals {b:Nat}:∀{ds:List Dat} {vs:List Value} {o:Nat},Dat.HoldVals w S ds vs→(∀j,j<vs.length→w.cell? ⟨b,o+j,none⟩=vs[j]?)→Dat.HoldCells w S b o ds
 | [],_,_,_,_=>by simp only[Dat.HoldCells]
 | _ :: _,[],_,h,_=>h.elim
 | d :: r,v :: vs,o,h,hc=>by
  simp only[Dat.HoldCells]
  refine⟨⟨v,by simpa using hc 0 (by simp),h.1⟩,Dat.HoldCells.of_vals h.2 fun j hj=>?_⟩
  have:=hc (j+1) (by simpa using hj)
  rw[show o+(j+1)=o+1+j from by omega]at this
  simpa using this
theorem Dat.HoldCells.to_vals {b:Nat}:∀{ds:List Dat} {o:Nat},Dat.HoldCells w S b o ds→∃vs:List Value,Dat.HoldVals w S ds vs∧vs.length=ds.length∧∀j,j<vs.length→w.cell? ⟨b,o+j,none⟩=vs[j]?
 | [],_,_=>⟨[],trivial,rfl,fun _ h=>absurd h (by simp)⟩
 | d :: r,o,h=>by
  simp only[Dat.HoldCells]at h
  obtain⟨⟨u,hu,hd⟩,hr⟩:=h
  obtain⟨vs,h1,h2,h3⟩:=Dat.HoldCells.to_vals hr
  refine⟨u :: vs,⟨hd,h1⟩,by simp[h2],fun j hj=>?_⟩
  cases j with
  | zero=>simpa using hu
  | succ j =>
   have:=h3 j (by simpa using hj)
   rw[show o+1+j=o+(j+1)from by omega]at this
   simpa using this
theorem Dat.HoldVals.length:∀{ds:List Dat} {vs:List Value},Dat.HoldVals w S ds vs→vs.length=ds.length
 | [],[],_=>rfl
 | _ :: _,_ :: _,h=>by simpa using Dat.HoldVals.length h.2
 | [],_ :: _,h=>h.elim
 | _ :: _,[],h=>h.elim
theorem Row.at {k:Nat} {A:Option Addr} {c:Nat} {xs:List (List Dat)} (h:Row w S k A c xs) (i:Nat) (hi:i<xs.length) :
  ∃b o vs,A=some ⟨b,o,none⟩∧S b∧b<w.heap.size∧Dat.HoldVals w S xs[i] vs∧vs.length=k∧∀j,j<k→w.cell? ⟨b,o+i*k+j,none⟩=vs[j]?:=by
 obtain⟨b,o,hA,h1,h2,hr⟩:=h.2.2 (by intro e;rw[e]at hi;simp at hi)
 obtain⟨hc,hl⟩:=hr.get i hi
 obtain⟨vs,g1,g2,g3⟩:=hc.to_vals
 exact⟨b,o,vs,hA,h1,h2,g1,by omega,fun j hj=>g3 j (by omega)⟩
end
section
variable {H:Type} {enc:TypeId × Value→H} {P:Program} {w:World} {spare:Nat→Bool} {held:Bool}
theorem addr_add {b o i:Nat}:(⟨b,o,none⟩:Addr).add i=⟨b,o+i,none⟩:=by
 unfold Addr.add
 by_cases h:i=0
 ·
  subst h;rfl
 ·
  simp[h]
end
end Go.Proofs.YtoikhhnmbbbjjaaDoor
namespace Go.Proofs.YtoikhhnmbbbjjaaDoor
set_option linter.unusedVariables false
set_option linter.unusedSimpArgs false
set_option maxRecDepth 100000
open Go.ChangeShapes Go.WideShapes Go.RowKit Go.Deep
theorem lst13 {α:Type} {l:List α} (h:l.length=13):∃a0 a1 a2 a3 a4 a5 a6 a7 a8 a9 a10 a11 a12,l=[a0,a1,a2,a3,a4,a5,a6,a7,a8,a9,a10,a11,a12]:=by
 match l,h with
 | [a0,a1,a2,a3,a4,a5,a6,a7,a8,a9,a10,a11,a12],_=>exact⟨a0,a1,a2,a3,a4,a5,a6,a7,a8,a9,a10,a11,a12,rfl⟩
inductive TCset where
 | mk (Low:Int) (High:Int)
def TCset.D:TCset→List Dat
 | .mk x0 x1=>[.int x0,.int x1]
theorem TCset.D_mk {x0:Int} {x1:Int}:(TCset.mk x0 x1).D=[.int x0,.int x1]:=by
 simp only[TCset.D]
theorem TCset.D_len:∀t:TCset,t.D.length=2
 | .mk x0 x1=>by rw[TCset.D_mk];rfl
theorem TCset.vals {w:World} {S:Nat→Prop} {x0:Int} {x1:Int} {vs:List Value} (h:Dat.HoldVals w S (TCset.mk x0 x1).D vs):vs=[.int .i64 x0,.int .i64 x1]∧InI x0∧InI x1:=by
 rw[TCset.D_mk]at h
 match vs,h with
 | [u0,u1],h =>
  obtain⟨h0,h1,-⟩:=h
  obtain⟨rfl,g0⟩:=Dat.holds_int.1 h0
  obtain⟨rfl,g1⟩:=Dat.holds_int.1 h1
  exact⟨rfl,g0,g1⟩
theorem TCset.vals_mk {w:World} {S:Nat→Prop} {x0:Int} {x1:Int} (h0:InI x0) (h1:InI x1):Dat.HoldVals w S (TCset.mk x0 x1).D [.int .i64 x0,.int .i64 x1]:=by
 rw[TCset.D_mk]
 exact⟨Dat.holds_int.2 ⟨rfl,h0⟩,Dat.holds_int.2 ⟨rfl,h1⟩,trivial⟩
theorem TCset.at {w:World} {S:Nat→Prop} {A:Option Addr} {c:Nat} {l:List TCset} (h:Row w S 2 A c (l.map TCset.D)) (i:Nat) (hi:i<l.length) :
  ∃b o x0 x1,A=some ⟨b,o,none⟩∧S b∧b<w.heap.size∧l[i]=.mk x0 x1∧Dat.HoldVals w S l[i].D [.int .i64 x0,.int .i64 x1]∧InI x0∧InI x1∧w.cell? ⟨b,o+i*2,none⟩=some (.int .i64 x0)∧w.cell? ⟨b,o+i*2+1,none⟩=some (.int .i64 x1):=by
 obtain⟨b,o,vs,hA,hS,hb,hv,hl,hc⟩:=Row.at h i (by simpa using hi)
 rw[List.getElem_map]at hv
 obtain⟨x0,x1,hx⟩:∃x0 x1,l[i]=.mk x0 x1:=by cases l[i];exact⟨_,_,rfl⟩
 have hv2:=hv
 rw[hx]at hv2
 obtain⟨rfl,g0,g1⟩:=TCset.vals hv2
 exact⟨b,o,_,_,hA,hS,hb,hx,hv,g0,g1,by simpa using hc 0 (by decide),by simpa using hc 1 (by decide)⟩
inductive TPattern where
 | mk (Op:Int) (Text:ByteArray) (Number:Int) (SetLow:Int) (SetHigh:Int) (Kids:List TPattern)
mutual
def TPattern.D:TPattern→List Dat
 | .mk x0 x1 x2 x3 x4 x5=>[.int x0,.str x1,.int x2,.int x3,.int x4,.row 6 (TPattern.Ds x5)]
def TPattern.Ds:List TPattern→List (List Dat)
 | []=>[]
 | x :: r=>TPattern.D x :: TPattern.Ds r
end
theorem TPattern.Ds_eq:∀l,TPattern.Ds l=l.map TPattern.D
 | []=>by simp[TPattern.Ds]
 | x :: r=>by simp[TPattern.Ds,TPattern.Ds_eq r]
theorem TPattern.D_mk {x0:Int} {x1:ByteArray} {x2:Int} {x3:Int} {x4:Int} {x5:List TPattern}:(TPattern.mk x0 x1 x2 x3 x4 x5).D=[.int x0,.str x1,.int x2,.int x3,.int x4,.row 6 (x5.map TPattern.D)]:=by
 simp only[TPattern.D,TPattern.Ds_eq]
theorem TPattern.D_len:∀t:TPattern,t.D.length=6
 | .mk x0 x1 x2 x3 x4 x5=>by rw[TPattern.D_mk];rfl
theorem TPattern.vals {w:World} {S:Nat→Prop} {x0:Int} {x1:ByteArray} {x2:Int} {x3:Int} {x4:Int} {x5:List TPattern} {vs:List Value} (h:Dat.HoldVals w S (TPattern.mk x0 x1 x2 x3 x4 x5).D vs):∃Ax5 cx5,vs=[.int .i64 x0,.string x1,.int .i64 x2,.int .i64 x3,.int .i64 x4,.slice Ax5 x5.length cx5]∧InI x0∧x1.size≤maxLen∧InI x2∧InI x3∧InI x4∧Row w S 6 Ax5 cx5 (x5.map TPattern.D):=by
 rw[TPattern.D_mk]at h
 match vs,h with
 | [u0,u1,u2,u3,u4,u5],h =>
  obtain⟨h0,h1,h2,h3,h4,h5,-⟩:=h
  obtain⟨rfl,g0⟩:=Dat.holds_int.1 h0
  obtain⟨rfl,g1⟩:=Dat.holds_str.1 h1
  obtain⟨rfl,g2⟩:=Dat.holds_int.1 h2
  obtain⟨rfl,g3⟩:=Dat.holds_int.1 h3
  obtain⟨rfl,g4⟩:=Dat.holds_int.1 h4
  obtain⟨Ax5,cx5,rfl,g5⟩:=Dat.holds_row.1 h5
  exact⟨Ax5,cx5,by simp only[List.length_map],g0,g1,g2,g3,g4,g5⟩
theorem TPattern.vals_mk {w:World} {S:Nat→Prop} {x0:Int} {x1:ByteArray} {x2:Int} {x3:Int} {x4:Int} {x5:List TPattern} {Ax5:Option Addr} {cx5:Nat} (h0:InI x0) (h1:x1.size≤maxLen) (h2:InI x2) (h3:InI x3) (h4:InI x4) (h5:Row w S 6 Ax5 cx5 (x5.map TPattern.D)):Dat.HoldVals w S (TPattern.mk x0 x1 x2 x3 x4 x5).D [.int .i64 x0,.string x1,.int .i64 x2,.int .i64 x3,.int .i64 x4,.slice Ax5 x5.length cx5]:=by
 rw[TPattern.D_mk]
 exact⟨Dat.holds_int.2 ⟨rfl,h0⟩,Dat.holds_str.2 ⟨rfl,h1⟩,Dat.holds_int.2 ⟨rfl,h2⟩,Dat.holds_int.2 ⟨rfl,h3⟩,Dat.holds_int.2 ⟨rfl,h4⟩,Dat.holds_row.2 ⟨_,_,by simp only[List.length_map],h5⟩,trivial⟩
theorem TPattern.at {w:World} {S:Nat→Prop} {A:Option Addr} {c:Nat} {l:List TPattern} (h:Row w S 6 A c (l.map TPattern.D)) (i:Nat) (hi:i<l.length) :
  ∃b o x0 x1 x2 x3 x4 x5 Ax5 cx5,A=some ⟨b,o,none⟩∧S b∧b<w.heap.size∧l[i]=.mk x0 x1 x2 x3 x4 x5∧Dat.HoldVals w S l[i].D [.int .i64 x0,.string x1,.int .i64 x2,.int .i64 x3,.int .i64 x4,.slice Ax5 x5.length cx5]∧InI x0∧x1.size≤maxLen∧InI x2∧InI x3∧InI x4∧Row w S 6 Ax5 cx5 (x5.map TPattern.D)∧w.cell? ⟨b,o+i*6,none⟩=some (.int .i64 x0)∧w.cell? ⟨b,o+i*6+1,none⟩=some (.string x1)∧w.cell? ⟨b,o+i*6+2,none⟩=some (.int .i64 x2)∧w.cell? ⟨b,o+i*6+3,none⟩=some (.int .i64 x3)∧w.cell? ⟨b,o+i*6+4,none⟩=some (.int .i64 x4)∧w.cell? ⟨b,o+i*6+5,none⟩=some (.slice Ax5 x5.length cx5):=by
 obtain⟨b,o,vs,hA,hS,hb,hv,hl,hc⟩:=Row.at h i (by simpa using hi)
 rw[List.getElem_map]at hv
 obtain⟨x0,x1,x2,x3,x4,x5,hx⟩:∃x0 x1 x2 x3 x4 x5,l[i]=.mk x0 x1 x2 x3 x4 x5:=by cases l[i];exact⟨_,_,_,_,_,_,rfl⟩
 have hv2:=hv
 rw[hx]at hv2
 obtain⟨Ax5,cx5,rfl,g0,g1,g2,g3,g4,g5⟩:=TPattern.vals hv2
 exact⟨b,o,_,_,_,_,_,_,_,_,hA,hS,hb,hx,hv,g0,g1,g2,g3,g4,g5,by simpa using hc 0 (by decide),by simpa using hc 1 (by decide),by simpa using hc 2 (by decide),by simpa using hc 3 (by decide),by simpa using hc 4 (by decide),by simpa using hc 5 (by decide)⟩
inductive TCore where
 | mk (Kind:Int) (Op:Int) (Number:Int) (Line:Int) (Text:ByteArray) (Kids:List TCore)
mutual
def TCore.D:TCore→List Dat
 | .mk x0 x1 x2 x3 x4 x5=>[.int x0,.int x1,.int x2,.int x3,.str x4,.row 6 (TCore.Ds x5)]
def TCore.Ds:List TCore→List (List Dat)
 | []=>[]
 | x :: r=>TCore.D x :: TCore.Ds r
end
theorem TCore.Ds_eq:∀l,TCore.Ds l=l.map TCore.D
 | []=>by simp[TCore.Ds]
 | x :: r=>by simp[TCore.Ds,TCore.Ds_eq r]
theorem TCore.D_mk {x0:Int} {x1:Int} {x2:Int} {x3:Int} {x4:ByteArray} {x5:List TCore}:(TCore.mk x0 x1 x2 x3 x4 x5).D=[.int x0,.int x1,.int x2,.int x3,.str x4,.row 6 (x5.map TCore.D)]:=by
 simp only[TCore.D,TCore.Ds_eq]
theorem TCore.D_len:∀t:TCore,t.D.length=6
 | .mk x0 x1 x2 x3 x4 x5=>by rw[TCore.D_mk];rfl
theorem TCore.vals {w:World} {S:Nat→Prop} {x0:Int} {x1:Int} {x2:Int} {x3:Int} {x4:ByteArray} {x5:List TCore} {vs:List Value} (h:Dat.HoldVals w S (TCore.mk x0 x1 x2 x3 x4 x5).D vs):∃Ax5 cx5,vs=[.int .i64 x0,.int .i64 x1,.int .i64 x2,.int .i64 x3,.string x4,.slice Ax5 x5.length cx5]∧InI x0∧InI x1∧InI x2∧InI x3∧x4.size≤maxLen∧Row w S 6 Ax5 cx5 (x5.map TCore.D):=by
 rw[TCore.D_mk]at h
 match vs,h with
 | [u0,u1,u2,u3,u4,u5],h =>
  obtain⟨h0,h1,h2,h3,h4,h5,-⟩:=h
  obtain⟨rfl,g0⟩:=Dat.holds_int.1 h0
  obtain⟨rfl,g1⟩:=Dat.holds_int.1 h1
  obtain⟨rfl,g2⟩:=Dat.holds_int.1 h2
  obtain⟨rfl,g3⟩:=Dat.holds_int.1 h3
  obtain⟨rfl,g4⟩:=Dat.holds_str.1 h4
  obtain⟨Ax5,cx5,rfl,g5⟩:=Dat.holds_row.1 h5
  exact⟨Ax5,cx5,by simp only[List.length_map],g0,g1,g2,g3,g4,g5⟩
theorem TCore.vals_mk {w:World} {S:Nat→Prop} {x0:Int} {x1:Int} {x2:Int} {x3:Int} {x4:ByteArray} {x5:List TCore} {Ax5:Option Addr} {cx5:Nat} (h0:InI x0) (h1:InI x1) (h2:InI x2) (h3:InI x3) (h4:x4.size≤maxLen) (h5:Row w S 6 Ax5 cx5 (x5.map TCore.D)):Dat.HoldVals w S (TCore.mk x0 x1 x2 x3 x4 x5).D [.int .i64 x0,.int .i64 x1,.int .i64 x2,.int .i64 x3,.string x4,.slice Ax5 x5.length cx5]:=by
 rw[TCore.D_mk]
 exact⟨Dat.holds_int.2 ⟨rfl,h0⟩,Dat.holds_int.2 ⟨rfl,h1⟩,Dat.holds_int.2 ⟨rfl,h2⟩,Dat.holds_int.2 ⟨rfl,h3⟩,Dat.holds_str.2 ⟨rfl,h4⟩,Dat.holds_row.2 ⟨_,_,by simp only[List.length_map],h5⟩,trivial⟩
theorem TCore.at {w:World} {S:Nat→Prop} {A:Option Addr} {c:Nat} {l:List TCore} (h:Row w S 6 A c (l.map TCore.D)) (i:Nat) (hi:i<l.length) :
  ∃b o x0 x1 x2 x3 x4 x5 Ax5 cx5,A=some ⟨b,o,none⟩∧S b∧b<w.heap.size∧l[i]=.mk x0 x1 x2 x3 x4 x5∧Dat.HoldVals w S l[i].D [.int .i64 x0,.int .i64 x1,.int .i64 x2,.int .i64 x3,.string x4,.slice Ax5 x5.length cx5]∧InI x0∧InI x1∧InI x2∧InI x3∧x4.size≤maxLen∧Row w S 6 Ax5 cx5 (x5.map TCore.D)∧w.cell? ⟨b,o+i*6,none⟩=some (.int .i64 x0)∧w.cell? ⟨b,o+i*6+1,none⟩=some (.int .i64 x1)∧w.cell? ⟨b,o+i*6+2,none⟩=some (.int .i64 x2)∧w.cell? ⟨b,o+i*6+3,none⟩=some (.int .i64 x3)∧w.cell? ⟨b,o+i*6+4,none⟩=some (.string x4)∧w.cell? ⟨b,o+i*6+5,none⟩=some (.slice Ax5 x5.length cx5):=by
 obtain⟨b,o,vs,hA,hS,hb,hv,hl,hc⟩:=Row.at h i (by simpa using hi)
 rw[List.getElem_map]at hv
 obtain⟨x0,x1,x2,x3,x4,x5,hx⟩:∃x0 x1 x2 x3 x4 x5,l[i]=.mk x0 x1 x2 x3 x4 x5:=by cases l[i];exact⟨_,_,_,_,_,_,rfl⟩
 have hv2:=hv
 rw[hx]at hv2
 obtain⟨Ax5,cx5,rfl,g0,g1,g2,g3,g4,g5⟩:=TCore.vals hv2
 exact⟨b,o,_,_,_,_,_,_,_,_,hA,hS,hb,hx,hv,g0,g1,g2,g3,g4,g5,by simpa using hc 0 (by decide),by simpa using hc 1 (by decide),by simpa using hc 2 (by decide),by simpa using hc 3 (by decide),by simpa using hc 4 (by decide),by simpa using hc 5 (by decide)⟩
end Go.Proofs.YtoikhhnmbbbjjaaDoor
namespace Go.Proofs.YtoikhhnmbbbjjaaDoor
set_option linter.unusedVariables false
set_option linter.unusedSimpArgs false
set_option maxRecDepth 100000
open Go.RowKit
def setAll (cur:Array Value):Nat→List Value→Array Value
 | _,[]=>cur
 | o,v :: r=>setAll (cur.setIfInBounds o v) (o+1) r
theorem setAll_size:∀(vs:List Value) (o:Nat) (cur:Array Value),(setAll cur o vs).size=cur.size
 | [],_,_=>rfl
 | v :: r,o,cur=>by rw[setAll,setAll_size r];simp
theorem setAll_out:∀(vs:List Value) (o:Nat) (cur:Array Value) (i:Nat),i<o∨o+vs.length≤i→(setAll cur o vs)[i]?=cur[i]?
 | [],_,_,_,_=>rfl
 | v :: r,o,cur,i,h=>by
  rw[setAll,setAll_out r (o+1) _ i (by simp at h;omega),Array.getElem?_setIfInBounds_ne (by simp at h;omega)]
theorem setAll_in:∀(vs:List Value) (o:Nat) (cur:Array Value) (l:Nat),l<vs.length→o+vs.length≤cur.size→(setAll cur o vs)[o+l]?=vs[l]?
 | [],_,_,_,h,_=>absurd h (by simp)
 | v :: r,o,cur,0,_,hs=>by
  rw[setAll,setAll_out r (o+1) _ (o+0) (by omega)]
  simp at hs
  simp[Array.getElem?_setIfInBounds]
  omega
 | v :: r,o,cur,l+1,h,hs=>by
  rw[setAll,show o+(l+1)=(o+1)+l by omega,setAll_in r (o+1) _ l (by simpa using h) (by simp at hs ⊢;omega)]
  simp
theorem heap_setCells {g:Nat} {E:TypeId} {f:Nat × Nat}:∀(vs:List Value) (o:Nat) (w:World) (cur:Array Value),w.heap[g]?=some (.cells cur E f)→(w.setCells g o vs).heap[g]?=some (.cells (setAll cur o vs) E f)
 | [],_,_,_,h=>h
 | v :: r,o,w,cur,h=>by
  rw[World.setCells,setAll]
  refine heap_setCells r (o+1) _ _ ?_
  simp[World.setCell,Array.getElem?_modify,h]
theorem heap_setCells_far {g b:Nat} (hb:b≠g):∀(vs:List Value) (o:Nat) (w:World),(w.setCells g o vs).heap[b]?=w.heap[b]?
 | [],_,_=>rfl
 | v :: r,o,w=>by
  rw[World.setCells,heap_setCells_far hb r (o+1)]
  exact Below.heap_setCell w ⟨g,o,none⟩ v b hb
theorem size_setCells {g:Nat}:∀(vs:List Value) (o:Nat) (w:World),(w.setCells g o vs).heap.size=w.heap.size
 | [],_,_=>rfl
 | v :: r,o,w=>by
  rw[World.setCells,size_setCells r (o+1)]
  simp
theorem Bel.setCells {a:World} {g:Nat} (hg:a.heap.size≤g):∀(vs:List Value) (o:Nat) (b:World),Bel a b→Bel a (b.setCells g o vs)
 | [],_,_,h=>h
 | v :: r,o,b,h=>by
  rw[World.setCells]
  exact Bel.setCells hg r (o+1) _ (h.set (p:=⟨g,o,none⟩) hg v)
structure Off (S:Nat→Prop) (w w':World):Prop where
 size:w.heap.size≤w'.heap.size
 cell:∀b o,S b→b<w.heap.size→w'.cell? ⟨b,o,none⟩=w.cell? ⟨b,o,none⟩
namespace Off
variable {S:Nat→Prop} {a b c:World}
theorem refl (S:Nat→Prop) (w:World):Off S w w:=⟨Nat.le_refl _,fun _ _ _ _=>rfl⟩
theorem trans (h:Off S a b) (k:Off S b c):Off S a c:=⟨Nat.le_trans h.size k.size,fun i o hS hi=>(k.cell i o hS (Nat.lt_of_lt_of_le hi h.size)).trans (h.cell i o hS hi)⟩
theorem of_bel (S:Nat→Prop) (h:Bel a b):Off S a b:=⟨Bel.size h,fun i o _ hi=>h.box i hi o⟩
theorem bel (h:Off S a b) (k:Bel b c):Off S a c:=h.trans (of_bel S k)
theorem alloc (h:Off S a b) (o:Obj):Off S a (b.alloc o):=h.bel (Bel.alloc (Bel.refl _) o)
theorem drew (h:Off S a b):Off S a b.drew:=h.bel (Bel.drew (Bel.refl _))
theorem drewN (h:Off S a b) (n:Nat):Off S a (b.drewN n):=h.bel (Bel.drewN (Bel.refl _) n)
theorem set (h:Off S a b) {p:Addr} (hp:¬S p.block) (v:Value):Off S a (b.setCell p v) :=
 h.trans ⟨by simp,fun i o hS hi=>World.cell?_setCell_other b p ⟨i,o,none⟩ v (fun e=>hp (by rw[e];exact hS))⟩
end Off
theorem Row.off {S:Nat→Prop} {w w':World} (h:Off S w w') {k:Nat} {A:Option Addr} {c:Nat} {xs:List (List Dat)} (hh:Row w S k A c xs):Row w' S k A c xs:=Row.keep h.size h.cell (fun _ h=>h) hh
theorem Dat.HoldVals.off {S:Nat→Prop} {w w':World} (h:Off S w w') {ds:List Dat} {vs:List Value} (hh:Dat.HoldVals w S ds vs):Dat.HoldVals w' S ds vs:=Dat.HoldVals.keep h.size h.cell (fun _ h=>h) ds vs hh
def Fill (w:World) (g:Nat) (E:TypeId) (k n:Nat) (S:Nat→Prop) (ds:List (List Dat)):Prop :=
 ds.length≤n∧∃cur,w.heap[g]?=some (.cells cur E (0,0))∧cur.size=n*k∧∀(j:Nat) (h:j<ds.length),∃vs,Dat.HoldVals w S ds[j] vs∧vs.length=k∧∀l,l<k→cur[j*k+l]?=vs[l]?
section
variable {w w':World} {g:Nat} {E:TypeId} {k n:Nat} {S:Nat→Prop} {ds:List (List Dat)}
theorem Fill.start (w:World) (E:TypeId) (k n:Nat) (S:Nat→Prop) {cur:Array Value} (h:cur.size=n*k):Fill (w.alloc (.cells cur E)) w.heap.size E k n S [] :=
 ⟨by simp,cur,heap_alloc_new w _,h,fun j hj=>absurd hj (by simp)⟩
theorem Fill.lt (h:Fill w g E k n S ds):g<w.heap.size:=by
 obtain⟨_,cur,hc,_⟩:=h
 rcases Nat.lt_or_ge g w.heap.size with h' | h'
 ·
  exact h'
 ·
  rw[Array.getElem?_eq_none h']at hc;cases hc
theorem Fill.bel (h:Fill w g E k n S ds) (hb:Bel w w'):Fill w' g E k n S ds:=by
 have hl:=h.lt
 obtain⟨h0,cur,hc,hs,hj⟩:=h
 refine⟨h0,cur,(Below.block hb g hl).trans hc,hs,fun j hjl=>?_⟩
 obtain⟨vs,g1,g2⟩:=hj j hjl
 exact⟨vs,g1.bel hb,g2⟩
theorem Fill.cell (h:Fill w g E k n S ds) {i:Nat} (hi:i<n*k):∃u,w.cell? ⟨g,i,none⟩=some u:=by
 obtain⟨h0,cur,hc,hs,hj⟩:=h
 refine⟨cur[i]'(by omega),?_⟩
 rw[cell_of_row w g i cur E (0,0) hc]
 exact Array.getElem?_eq_getElem (by omega)
theorem Fill.free (h:Fill w g E k n S ds) (i:Nat):w.frozen? ⟨g,i,none⟩=false:=by
 obtain⟨h0,cur,hc,hs,hj⟩:=h
 simp[World.frozen?,hc]
theorem Fill.put (h:Fill w g E k n S ds) (hn:ds.length<n) (hS:∀b,S b→b≠g) {d:List Dat} {vs:List Value} (hv:Dat.HoldVals w S d vs) (hk:vs.length=k):Fill (w.setCells g (ds.length*k) vs) g E k n S (ds++[d]):=by
 obtain⟨h0,cur,hc,hs,hj⟩:=h
 have hle:ds.length*k+k≤n*k:=by rw[←Nat.succ_mul];exact Nat.mul_le_mul_right k hn
 have keep:∀(d:List Dat) (vs':List Value),Dat.HoldVals w S d vs'→Dat.HoldVals (w.setCells g (ds.length*k) vs) S d vs':=fun d vs' hd =>
  Dat.HoldVals.keep (by rw[size_setCells];exact Nat.le_refl _) (fun b o hb _=>World.cell?_of_block (heap_setCells_far (hS b hb) vs _ w)) (fun _ h=>h) d vs' hd
 refine⟨by simp;omega,setAll cur (ds.length*k) vs,heap_setCells vs _ w cur hc,by rw[setAll_size];exact hs,fun j hjl=>?_⟩
 by_cases e:j<ds.length
 ·
  rw[List.getElem_append_left e]
  obtain⟨vs',g1,g2,g3⟩:=hj j e
  refine⟨vs',keep _ _ g1,g2,fun l hl=>?_⟩
  have:j*k+k≤ds.length*k:=by rw[←Nat.succ_mul];exact Nat.mul_le_mul_right k e
  rw[setAll_out _ _ _ _ (by omega)]
  exact g3 l hl
 ·
  obtain rfl:j=ds.length:=by simp at hjl;omega
  refine⟨vs,by simpa using keep _ _ hv,hk,fun l hl=>?_⟩
  exact setAll_in vs _ cur l (by omega) (by omega)
theorem Fill.row (h:Fill w g E k n S ds) (hn:ds.length=n) (hm:n≤maxLen) {S':Nat→Prop} (hS:∀b,S b→S' b) (hg:S' g):Row w S' k (some ⟨g,0,none⟩) n ds:=by
 have hlt:=h.lt
 obtain⟨h0,cur,hc,hs,hj⟩:=h
 refine⟨h0,hm,fun _=>⟨g,0,rfl,hg,hlt,Dat.HoldRows.mk fun j hjl=>?_⟩⟩
 obtain⟨vs,g1,g2,g3⟩:=hj j hjl
 refine⟨Dat.HoldCells.of_vals (g1.wide hS) fun l hl=>?_,by rw[←g1.length];exact g2⟩
 rw[cell_of_row w g _ cur E (0,0) hc,←g3 l (by omega)]
 congr 1
 omega
end
theorem take_snoc {α:Type} {l:List α} {j:Nat} (h:j<l.length):l.take (j+1)=l.take j++[l[j]]:=by
 rw[List.take_succ_eq_append_getElem h]
theorem Fill.snoc {α:Type} {D:α→List Dat} {l:List α} {w:World} {g:Nat} {E:TypeId} {k n j:Nat} {S S1:Nat→Prop} (h:Fill w g E k n S ((l.map D).take j)) (hj:j<l.length) (hn:l.length=n) (hS:∀b,S b→b≠g)
  {vs:List Value} (hv:Dat.HoldVals w S1 (D l[j]) vs) (h1:∀b,S1 b→S b) (hk:vs.length=k):Fill (w.setCells g (j*k) vs) g E k n S ((l.map D).take (j+1)):=by
 have hlen:((l.map D).take j).length=j:=by simp;omega
 have:=h.put (by rw[hlen];omega) hS (hv.wide h1) hk
 rw[hlen]at this
 rw[take_snoc (by simpa using hj),List.getElem_map]
 exact this
theorem Fill.done {α:Type} {D:α→List Dat} {l:List α} {w:World} {g:Nat} {E:TypeId} {k n j:Nat} {S S':Nat→Prop} (h:Fill w g E k n S ((l.map D).take j)) (hj:l.length≤j) (hn:l.length=n) (hm:n≤maxLen) (hS:∀b,S b→S' b) (hg:S' g) :
  Row w S' k (some ⟨g,0,none⟩) n (l.map D):=by
 rw[List.take_of_length_le (by simpa using hj)]at h
 exact h.row (by simpa using hn) hm hS hg
def MadeR (w:World) (k:Nat) (xs:List (List Dat)) (e:Ending) (w':World):Prop :=
 ∃A c,e=.returned (.slice A xs.length c)∧Row w' (fun b=>w.heap.size≤b) k A c xs∧Bel w w'
end Go.Proofs.YtoikhhnmbbbjjaaDoor
namespace Go.Proofs.YtoikhhnmbbbjjaaDoor
set_option linter.unusedVariables false
set_option linter.unusedSimpArgs false
set_option maxRecDepth 100000
open Go.RowKit
theorem quiet_ws {P:Program} {f:FuncId} {args:Array Value} {w:World} {n:Nat} {v:Value}
  (h:Calls P f args (w.drewN n) fun e w'=>e=.returned v∧w.drewN n=w'):Calls P f args (w.drewN n) fun e w''=>e=.returned v∧∃m,w''=w.drewN m :=
 Calls.quiet_of_same (h.mono fun _ _ ⟨a,b⟩=>⟨a,b.symm⟩)
end Go.Proofs.YtoikhhnmbbbjjaaDoor
namespace Go.Proofs.YtoikhhnmbbbjjaaDoor
set_option linter.unusedVariables false
set_option linter.unusedSimpArgs false
set_option maxRecDepth 100000
open Go.RowKit
section
variable {P:Program} {ops:Array Oper} {Q:Exit→Act→World→Prop} {md:Region.Mode} {S:World→Prop}
theorem tkI {oi:Oper} {v:Value} {fuel:Nat} {listed l':Array Bool} {a a':Act} {w:World} (i:Nat) (h:wpAnyH P md ops Q S fuel l' a' w)
  (hi:ops[i]?=some oi:=by rfl) (hs:Region.noSelect ops=true:=by kernel_rfl) (hf:Region.free md ops listed i=true:=by kernel_rfl) (hr:(Region.ready md ops listed).contains i=true:=by kernel_rfl)
  (hw:Region.wanted oi (yielded ops a.tmps)=true:=by rfl)
  (hv:∀w,S w→(execOp a.eval oi).run P w=.ok (.value v) w:=by intro w hSw;(try dsimp only at hSw);go_simp;(try with_reducible rfl))
  (hl:listed.setIfInBounds i true=l':=by first | (simp only[List.setIfInBounds_toArray,List.set_cons_zero,List.set_cons_succ];exact rfl) | exact rfl)
  (ha:a.put oi.dst v=a':=by simp only[Act.put,List.setIfInBounds_toArray,List.set_cons_zero,List.set_cons_succ,List.getElem_toArray,List.getElem_cons_zero,List.getElem_cons_succ];exact rfl)
  (hQ:∀c a w,Q (.panic c) (a.put oi.dst v) w→Q (.panic c) a w:=by exact fun _ _ _ h=>h) (hS:S w:=by assumption):wpAnyH P md ops Q S (fuel+1) listed a w:=by
 subst hl ha
 exact wpAnyH_take hi hs hf hr hQ (Or.inl ⟨hw,hv⟩) hS h
theorem tkN {oi:Oper} {fuel:Nat} {listed l':Array Bool} {a a':Act} {w:World} (i:Nat) (h:wpAnyH P md ops Q S fuel l' a' w)
  (hi:ops[i]?=some oi:=by rfl) (hs:Region.noSelect ops=true:=by kernel_rfl) (hf:Region.free md ops listed i=true:=by kernel_rfl) (hr:(Region.ready md ops listed).contains i=true:=by kernel_rfl)
  (hw:Region.wanted oi (yielded ops a.tmps)=false:=by rfl)
  (hl:listed.setIfInBounds i true=l':=by first | (simp only[List.setIfInBounds_toArray,List.set_cons_zero,List.set_cons_succ];exact rfl) | exact rfl)
  (ha:a.put oi.dst undef=a':=by simp only[Act.put,List.setIfInBounds_toArray,List.set_cons_zero,List.set_cons_succ,List.getElem_toArray,List.getElem_cons_zero,List.getElem_cons_succ];exact rfl)
  (hQ:∀c a w,Q (.panic c) (a.put oi.dst undef) w→Q (.panic c) a w:=by exact fun _ _ _ h=>h) (hS:S w:=by assumption):wpAnyH P md ops Q S (fuel+1) listed a w:=by
 subst hl ha
 exact wpAnyH_take hi hs hf hr hQ (Or.inr ⟨hw,rfl⟩) hS h
end
end Go.Proofs.YtoikhhnmbbbjjaaDoor
