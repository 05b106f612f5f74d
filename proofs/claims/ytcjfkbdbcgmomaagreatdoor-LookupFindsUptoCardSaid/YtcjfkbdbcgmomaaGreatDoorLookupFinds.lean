/-
  LookupFinds,where what it reads is of bulk at most 1048576:the call returns true and leaves its arguments as they were.
  Conditions:none beyond the statement's own. By an AI agent.
-/
import Derived.Test.YtcjfkbdbcgmomaaGreatDoorLfA
namespace Go.Proofs.YtcjfkbdbcgmomaaGreatDoor.lookupFinds
open Go.ChangeShapes Go.WideShapes Go.ChangeAt Go.RowKit Go.CK
open Go.ChangeMaps (open_string shut_string)

theorem N3:(Rows.lookupFindsUptoRow.inPlace==Tryz.pinned.checked.prog.inPlace 5)=true:=by kernel_rfl
theorem N2:(Rows.lookupFindsUptoRow.unfollowed==Tryz.pinned.checked.prog.unfollowed 5)=true:=by kernel_rfl
theorem N1:(Rows.lookupFindsUptoRow.recurses==Tryz.pinned.checked.prog.recurses 5)=true:=by kernel_rfl
theorem N0:(Rows.lookupFindsUptoRow.named==Tryz.pinned.checked.prog.varsNamed 5)=true:=by kernel_rfl
theorem facts:joinedFacts Tryz.pinned.checked.prog 5 Tryz.f5 (Rows.OpenSpec.upto Rows.lookupFindsSpec).bare Rows.lookupFindsUptoRow=true:=by
  unfold joinedFacts
  rw[N3,N2,N1,N0]
  kernel_rfl
theorem JB:Rows.LookupFindsUptoSaid:=
  OpenClaim.holds_of_cond 5 Tryz.f5 rfl rfl rfl rfl rfl rfl rfl ⟨rfl,rfl,rfl,rfl,rfl⟩ rfl rfl rfl rfl rfl (by kernel_rfl) Tryz.func5 facts
    (of_decide_eq_true (by kernel_rfl)) (by unfold Func.isWrapper;first|(rw[if_pos (by decide+kernel)];kernel_rfl)|(rw[if_neg (by decide+kernel)];exact⟨rfl,rfl⟩))
    (λos started H enc _ F=>by rw[OpenClaim.pre_eq_preRow];exact E8 os started H enc F)
/--No parameter wants a stand-in;the program's own looks are off:what the card asks. -/
theorem plain (f : FuncId) (fn : Func) (hf : Tryz.pinned.checked.prog.funcNamed "constraint/constraintlaw30.LookupFinds" = some f) (hfn : Tryz.pinned.checked.prog.funcs[f]? = some fn) :
    false=Tryz.pinned.checked.prog.looks []/\∀(j:Nat) t,fn.params[j]? =some t->Tryz.pinned.checked.prog.wantsStandIn t=false:=by
  obtain rfl : f = 5 := Option.some.inj ((show Tryz.prog.funcNamed "constraint/constraintlaw30.LookupFinds" = some 5 by kernel_rfl).symm.trans hf) |>.symm
  obtain rfl:fn=Tryz.f5:=(yJ (Tryz.func5.symm.trans hfn)).symm
  refine⟨by kernel_rfl,λj t ht=>?_⟩
  rw[Tryz.params5] at ht
  have ht:=Array.mem_of_getElem? ht
  simp only[List.mem_toArray,zI,yU,or_false] at ht
  rcases ht with rfl|rfl|rfl
  .exact (show Tryz.prog.wantsStandIn 51=false by kernel_rfl)
  .exact (show Tryz.prog.wantsStandIn 74=false by kernel_rfl)
  .exact (show Tryz.prog.wantsStandIn 3=false by kernel_rfl)
/--the card-/
theorem proved:Rows.LookupFindsUptoCardSaid:=
  Claim7.holds_tied_plain_at .later [] _ _ _ _ JB (λ_ h=>by cases h) (by kernel_rfl) (λ_ h=>by cases h) lookupFindsUpto_row_tie rfl ⟨rfl,rfl⟩ (by kernel_rfl) rfl plain (by kernel_rfl)
end Go.Proofs.YtcjfkbdbcgmomaaGreatDoor.lookupFinds
