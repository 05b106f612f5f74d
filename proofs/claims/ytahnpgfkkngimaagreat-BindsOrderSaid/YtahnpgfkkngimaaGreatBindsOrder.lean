/-
  BindsOrder, for every input: the call returns true and leaves its arguments as they were.
  Conditions:none beyond the statement's own. By an AI agent.
-/
import Derived.Test.YtahnpgfkkngimaaGreatBce
import Derived.Test.YtahnpgfkkngimaaGreatBcd
namespace Go.Proofs.YtahnpgfkkngimaaGreat.bindsOrder
open Go.ChangeShapes Go.WideShapes Go.ChangeAt Go.RowKit Go.CK
open Go.ChangeMaps (open_string shut_string)

theorem own:ownKnob Tryz.prog.godebug=none:=by kernel_rfl
theorem laidOut:laidOutB Tryz.prog=true:=by kernel_rfl

set_option maxRecDepth 100000 in
theorem contract (H:Type) (enc:TypeId×Value→H) (W:World) (base:Nat) (args:Array Value) (ds gs:List (DataW H)) (before:List MemPlace)
    (hval:∀(j:Nat) t v,Tryz.f5.params[j]? =some t→args[j]? =some v→Value.okWide Tryz.prog W .any base t v)
    (hW:DataW.Whole enc Tryz.prog Tryz.f5.params.toList Rows.bindsOrderSpec.vars false W args.toList ds gs before):
    Calls Tryz.prog 5 args W fun e W'=>∃v,e=.returned v∧Rows.bindsOrderSpec.post enc Tryz.prog Tryz.f5 false true false false W args v W':=by
  have hW':=hW
  obtain ⟨p,q,hA0,hV,rfl,hfz,hnd⟩:=hW
  have hA:DataW.TrodAll enc Tryz.prog W 0 (fun _=>true) true Tryz.f5.params.toList args.toList ds p:=hA0
  rw [Tryz.params5] at hA hval
  obtain ⟨v0,vs0,d0,ds0,p0,q0,hargs,rfl,rfl,h0,r0⟩:=trodAll_cons hA
  obtain ⟨v1,vs1,d1,ds1,p1,q1,rfl,rfl,rfl,h1,r1⟩:=trodAll_cons r0
  obtain ⟨v2,vs2,d2,ds2,p2,q2,rfl,rfl,rfl,h2,r2⟩:=trodAll_cons r1
  obtain ⟨rfl,rfl,rfl⟩:=trodAll_nil r2
  obtain rfl:args=#[v0,v1,v2]:=by cases args;simp_all
  obtain ⟨rfl,rfl⟩:=trodVars_none hV
  obtain ⟨a0,n0,k0,rfl⟩:=okWide_slice Tryz.underlying23 (hval 0 23 v0 rfl rfl)
  have hk0:=h0
  have lt0:∀x∈p0,x.block<W.heap.size:=by obtain ⟨m,hm⟩:=hk0;exact DataW.trod_lt m _ _ _ hm
  obtain ⟨fuel0,hf0⟩:=h0
  obtain ⟨x0,w0⟩:=Kn _ (Nat.zero_le _) _ _ _ _ hf0 (Nat.le_refl _)
  have fv0:=(RSl.cf w0 (fun _ _ _ hc=>RBd.cf hc)).1.2 0 (by simp [AM.AV.cells]) _ rfl
  obtain ⟨cs1,rfl,hsz1⟩:=okWide_arr2 Tryz.underlying38 (hval 1 38 v1 rfl rfl)
  have hk1:=h1
  have lt1:∀x∈p1,x.block<W.heap.size:=by obtain ⟨m,hm⟩:=hk1;exact DataW.trod_lt m _ _ _ hm
  obtain ⟨fuel1,hf1⟩:=h1
  obtain ⟨x1,y1,fv1⟩:=a2tm_of _ (Nat.zero_le _) _ _ _ _ hf1 (Nat.le_refl _)
  have e1:(Value.agg cs1).cells.toList.toArray=cs1:=by simp [Value.cells]
  rw [e1] at fv1
  obtain ⟨cs2,rfl,hsz2⟩:=okWide_arr2 Tryz.underlying38 (hval 2 38 v2 rfl rfl)
  have hk2:=h2
  have lt2:∀x∈p2,x.block<W.heap.size:=by obtain ⟨m,hm⟩:=hk2;exact DataW.trod_lt m _ _ _ hm
  obtain ⟨fuel2,hf2⟩:=h2
  obtain ⟨x2,y2,fv2⟩:=a2tm_of _ (Nat.zero_le _) _ _ _ _ hf2 (Nat.le_refl _)
  have e2:(Value.agg cs2).cells.toList.toArray=cs2:=by simp [Value.cells]
  rw [e2] at fv2
  clear hA0 hval
  refine (Fun.calls bindsOrder_law (args:=[.slice a0 n0 k0,.agg cs1,.agg cs2]) ⟨fv0,⟨fv1,⟨fv2,trivial⟩⟩⟩).mono fun e W' ⟨he,bel⟩=>?_
  subst he
  exact ⟨_,rfl,_,_,_,[],_,[],hW',trodAll_mk1 (shut_bool Tryz.underlying4 _),(trodAll_cons_mk (Below.trod laidOut (by kernel_rfl) (of_decide_eq_true (by kernel_rfl)) hk0 bel.bel lt0) (trodAll_cons_mk (Below.trod laidOut (by kernel_rfl) (of_decide_eq_true (by kernel_rfl)) hk1 bel.bel lt1) (trodAll_cons_mk (Below.trod laidOut (by kernel_rfl) (of_decide_eq_true (by kernel_rfl)) hk2 bel.bel lt2) trodAll_mk0))),rfl,bel.bel.frame _,fun h=>by cases h⟩

set_option maxRecDepth 100000 in
theorem lifted (os : Os) (started : os.Started) (H : Type) (enc : TypeId × Value → H) :
    ReturnsInHanded {} Tryz.checked os 5 .any (Rows.bindsOrderSpec.pre6 enc Tryz.prog Tryz.f5 Rows.bindsOrderRow.domain false) (Rows.bindsOrderSpec.post enc Tryz.prog Tryz.f5 false true false false) := by
  refine returnsInHanded_of_change (C := Tryz.checked) own started (by kernel_rfl) Tryz.func5
    (ChangeSpec.witness6 (enc := enc) (C := Tryz.checked) false ⟨#[],#[.slice none 0 0,.agg #[.int .i64 0,.int .i64 0,.string .empty,.slice none 0 0,.int .i64 0,.int .i64 0,.string .empty,.slice none 0 0],.agg #[.int .i64 0,.int .i64 0,.string .empty,.slice none 0 0,.int .i64 0,.int .i64 0,.string .empty,.slice none 0 0]],[]⟩ 8 (by kernel_rfl) (by kernel_rfl) (by kernel_rfl) (by kernel_rfl)) ?_
  intro W base args ds gs before hval hW _ _
  exact contract H enc W base args ds gs before hval hW

theorem proved : Rows.BindsOrderSaid :=
  OpenClaim.holds_of_wide 5 Tryz.f5 rfl rfl rfl rfl rfl rfl rfl ⟨rfl, rfl, rfl, rfl, rfl⟩ rfl rfl rfl rfl rfl (by kernel_rfl) Tryz.func5 (by kernel_rfl)
    (of_decide_eq_true (by kernel_rfl)) (by unfold Func.isWrapper; first | (rw [if_pos (by decide +kernel)]; kernel_rfl) | (rw [if_neg (by decide +kernel)]; exact ⟨rfl, rfl⟩))
    (fun os started H enc _ => lifted os started H enc)
end Go.Proofs.YtahnpgfkkngimaaGreat.bindsOrder
