/- FnVariables: a variable has the value that was stored last, other variables keep theirs, and the store stays valid, whatever bytes the draw takes. The tables of the library read as the program lays them. -/
import Derived.Test.YtjngkknbpfgdcaaGreatDoorVvWVariables
import Derived.Test.YtjngkknbpfgdcaaGreatDoorCards
import Derived.Test.YtjngkknbpfgdcaaGreatDoorTie
set_option linter.unusedVariables false
set_option linter.unusedSimpArgs false
set_option maxRecDepth 100000
set_option maxHeartbeats 8000000
namespace Go.Proofs.YtjngkknbpfgdcaaGreatDoor
open Go.ChangeShapes Go.WideShapes Go.ChangeAt Go.RowKit
open Go.ChangeMaps (open_string shut_string)
theorem FnVariables_met (os:Os):laidMetH Tryz.prog Rows.fnVariablesRow.laid ((World.doorLaid Tryz.prog 48 os).forCall (fun _ _=>0) ⟨#[],#[.slice none 0 0],[]⟩).memory :=
 laidMetH_of_parts3 (fuel:=8) (laidMet_of_run' 8 aG aG) aG aG
theorem FnVariables_reads (os:Os) {H:Type} (enc:TypeId × Value->H):∃places,DataW.whole enc Tryz.prog ((World.doorLaid Tryz.prog 48 os).forCall (fun _ _=>0) ⟨#[],#[.slice none 0 0],[]⟩).memory Tryz.f3.params.toList Rows.fnVariablesSpec.vars false (#[.slice none 0 0]:Array Value).toList 8=some ([.nil],[],places) :=
 ⟨[],by kernel_rfl⟩
theorem FnVariables_contract (H:Type) (enc:TypeId × Value->H) (W:World) (base:Nat) (args:Array Value) (ds gs:List (DataW H)) (before:List MemPlace)
  (hval:∀(j:Nat) t v,Tryz.f3.params[j]?=some t->args[j]?=some v->Value.okWide Tryz.prog W .any base t v)
  (hW:DataW.Whole enc Tryz.prog Tryz.f3.params.toList Rows.fnVariablesSpec.vars false W args.toList ds gs before) (hL:laidMetH Tryz.prog Rows.fnVariablesRow.laid W) :
  Calls Tryz.prog 3 args W fun e W'=>∃v,e=.returned v/\Rows.fnVariablesSpec.post enc Tryz.prog Tryz.f3 false true false false W args v W':=by
 have hW':=hW
 obtain⟨p,q,hA0,hV,rfl,Ky,DJ⟩:=hW
 have hA:DataW.TrodAll enc Tryz.prog W 0 (fun _=>true) true Tryz.f3.params.toList args.toList ds p:=hA0
 rw[Tryz.params3]at hA hval
 obtain⟨v0,vs0,d0,ds0,p0,q0,aoU,rfl,rfl,h0,r0⟩:=trodAll_cons hA
 obtain⟨rfl,rfl,rfl⟩:=trodAll_nil r0
 obtain rfl:args=#[v0]:=by cases args;simp_all
 obtain⟨rfl,rfl⟩:=trodVars_none hV
 have k0:=h0
 have lt0:∀x∈p0,x.block<W.heap.size:=by obtain⟨m,hm⟩:=k0;exact DataW.trod_lt m _ _ _ hm
 obtain⟨A0,n0,c0,rfl⟩:=okWide_slice Tryz.underlying22 (hval 0 22 v0 rfl rfl)
 have w0:=Ji h0
 refine (FnVariables_walk A0 n0 c0 W w0 (GU h0).1 (GU h0).2 (Wp hL)).mono fun e W' ⟨he,anm⟩=>?_
 subst he
 have de:Below W.heap.size W W':=anm
 exact⟨_,rfl,_,_,_,[],_,[],hW',trodAll_mk1 (shut_bool Tryz.underlying4 _),(trodAll_cons_mk (Below.trod laidOut aG (of_decide_eq_true aG) k0 de lt0) trodAll_mk0),rfl,Below.frame de _,fun h=>by cases h⟩
theorem FnVariables_lifted (os:Os) (started:os.Started) (H:Type) (enc:TypeId × Value->H) (cm:Stop.Interp) :
  ReturnsInHanded {} Tryz.checked os 3 .any ((OpenSpec.ofChange Rows.fnVariablesSpec).preRow enc Tryz.prog Tryz.f3 Rows.fnVariablesRow.domain false Rows.fnVariablesRow.laid) (((OpenSpec.ofChange Rows.fnVariablesSpec).at cm).post enc Tryz.prog Tryz.f3 false true false false):=by
 obtain⟨places,hx⟩:=FnVariables_reads os enc
 refine returnsInHanded_of_row (C:=Tryz.checked) (s:=OpenSpec.ofChange Rows.fnVariablesSpec) own started aG Tryz.func3
  (witness_row_atRef (enc:=enc) (C:=Tryz.checked) false (World.doorLaid Tryz.prog 48 os) #[.slice none 0 0] rfl aG aG aG
   (OpenSpec.preRow_of_cond 8 hx aG (fun k hk=>by cases hk) aG (FnVariables_met os))) ?_
 intro W base args ds gs before hval hW _ _ _ hL _ _
 exact FnVariables_contract H enc W base args ds gs before hval hW hL
theorem FnVariables_said:Rows.FnVariablesSaid :=
 OpenClaim.holds_of_cond 3 Tryz.f3 rfl rfl rfl rfl rfl rfl rfl ⟨rfl,rfl,rfl,rfl,rfl⟩ rfl rfl rfl rfl rfl aG Tryz.func3 aG
  (of_decide_eq_true aG) (by unfold Func.isWrapper;first | (rw[if_pos bP];kernel_rfl) | (rw[if_neg bP];exact⟨rfl,rfl⟩))
  (fun os started H enc _ cm=>by rw[OpenClaim.pre_eq_preRow];exact FnVariables_lifted os started H enc cm)
theorem FnVariables_plain (f:FuncId) (fn:Func) (hf:Tryz.pinned.checked.prog.funcNamed Rows.fnVariablesRow.func=some f) (hfn:Tryz.pinned.checked.prog.funcs[f]?=some fn) :
  false=Tryz.pinned.checked.prog.looks []/\∀(j:Nat) t,fn.params[j]?=some t->Tryz.pinned.checked.prog.wantsStandIn t=false:=by
 obtain rfl:f=3:=Option.some.inj ((show Tryz.prog.funcNamed Rows.fnVariablesRow.func=some 3 by kernel_rfl).symm.trans hf) |>.symm
 obtain rfl:fn=Tryz.f3:=(Option.some.inj (Tryz.func3.symm.trans hfn)).symm
 refine⟨by kernel_rfl,fun j t ht=>?_⟩
 rw[Tryz.params3]at ht
 have hm:=Array.mem_of_getElem? ht
 simp only[List.mem_toArray,List.mem_cons,List.not_mem_nil,or_false]at hm
 subst hm
 exact (show Tryz.prog.wantsStandIn 22=false by kernel_rfl)
theorem FnVariables_proved:Rows.FnVariablesCardSaid :=
 Claim7.holds_tied_plain_at .later [] _ _ _ _ FnVariables_said (fun _ h=>by cases h) aG (fun _ h=>by cases h) fnVariables_row_tie rfl ⟨rfl,rfl⟩ aG rfl FnVariables_plain aG
end Go.Proofs.YtjngkknbpfgdcaaGreatDoor
