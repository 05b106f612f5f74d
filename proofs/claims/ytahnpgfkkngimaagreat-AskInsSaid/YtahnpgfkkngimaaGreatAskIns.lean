/-
  AskIns, for every input: the call returns true and leaves its arguments as they were.
  Conditions:none beyond the statement's own. By an AI agent.
-/
import Derived.Test.YtahnpgfkkngimaaGreatBgd
namespace Go.Proofs.YtahnpgfkkngimaaGreat.askIns
open Go.ChangeShapes Go.WideShapes Go.ChangeAt Go.RowKit Go.CK
open Go.ChangeMaps (open_string shut_string)
theorem own:ownKnob Tryz.prog.godebug=none:=by kernel_rfl
theorem laidOut:laidOutB Tryz.prog=true:=by kernel_rfl
set_option maxRecDepth 100000 in
theorem contract(H:Type)(enc:TypeId×Value->H)(W:World)(base:Nat)(args:Array Value)(ds gs:List (DataW H))(before:List MemPlace)
 (hval:∀(j:Nat) t v,Tryz.f10.params[j]? =some t->args[j]? =some v->Value.okWide Tryz.prog W .any base t v)
 (hW:DataW.Whole enc Tryz.prog Tryz.f10.params.toList Rows.askInsSpec.vars false W args.toList ds gs before):
 Calls Tryz.prog 10 args W λe W'=>∃v,e=.returned v/\Rows.askInsSpec.post enc Tryz.prog Tryz.f10 false true false false W args v W':=by
 have hW':=hW
 obtain⟨p,q,hA0,hV,rfl,hfz,hnd⟩:=hW
 have hA:DataW.TrodAll enc Tryz.prog W 0 (λ_=>true) true Tryz.f10.params.toList args.toList ds p:=hA0
 rw[Tryz.params10] at hA hval
 obtain⟨v0,vs0,d0,ds0,p0,q0,hargs,rfl,rfl,h0,r0⟩:=trodAll_cons hA
 obtain⟨v1,vs1,d1,ds1,p1,q1,rfl,rfl,rfl,h1,r1⟩:=trodAll_cons r0
 obtain⟨v2,vs2,d2,ds2,p2,q2,rfl,rfl,rfl,h2,r2⟩:=trodAll_cons r1
 obtain⟨rfl,rfl,rfl⟩:=trodAll_nil r2
 obtain rfl:args=#[v0,v1,v2]:=by cases args;simp_all
 obtain⟨rfl,rfl⟩:=trodVars_none hV
 obtain⟨a0,n0,k0,rfl⟩:=okWide_slice Tryz.underlying23 (hval 0 23 v0 rfl rfl)
 have hk0:=h0
 obtain⟨fuel0,hf0⟩:=h0
 obtain⟨x0,w0⟩:=Kn _ (Nat.zero_le _) _ _ _ _ hf0 (Nat.le_refl _)
 have fv0:=(RSl.cf w0 (λ_ _ _ hc=>RBd.cf hc)).1.2 0 (by simp[AM.AV.cells]) _ rfl
 obtain⟨a1,n1,k1,rfl⟩:=okWide_slice Tryz.underlying43 (hval 1 43 v1 rfl rfl)
 have hk1:=h1
 obtain⟨fuel1,hf1⟩:=h1
 obtain⟨x1,w1⟩:=QY _ (Nat.zero_le _) _ _ _ _ hf1 (Nat.le_refl _)
 have fv1:=(RSl.cf w1 (λ_ _ _ hc=>RGl.cf hc)).1.2 0 (by simp[AM.AV.cells]) _ rfl
 obtain⟨a2,n2,k2,rfl⟩:=okWide_slice Tryz.underlying43 (hval 2 43 v2 rfl rfl)
 have hk2:=h2
 obtain⟨fuel2,hf2⟩:=h2
 obtain⟨x2,w2⟩:=QY _ (Nat.zero_le _) _ _ _ _ hf2 (Nat.le_refl _)
 have fv2:=(RSl.cf w2 (λ_ _ _ hc=>RGl.cf hc)).1.2 0 (by simp[AM.AV.cells]) _ rfl
 clear hA0 hval
 refine(Fun.calls QO (args:=[.slice a0 n0 k0,.slice a1 n1 k1,.slice a2 n2 k2]) ⟨fv0,⟨fv1,⟨fv2,trivial⟩⟩⟩).mono λe W' ⟨he,bel⟩=>?_
 subst he
 exact⟨_,rfl,_,_,_,[],_,[],hW',trodAll_mk1 (shut_bool Tryz.underlying4 _),(trodAll_cons_mk (Below.trod laidOut (by kernel_rfl) (of_decide_eq_true (by kernel_rfl)) hk0 bel.bel (hk0.elim λm hm=>DataW.trod_lt m _ _ _ hm)) (trodAll_cons_mk (Below.trod laidOut (by kernel_rfl) (of_decide_eq_true (by kernel_rfl)) hk1 bel.bel (hk1.elim λm hm=>DataW.trod_lt m _ _ _ hm)) (trodAll_cons_mk (Below.trod laidOut (by kernel_rfl) (of_decide_eq_true (by kernel_rfl)) hk2 bel.bel (hk2.elim λm hm=>DataW.trod_lt m _ _ _ hm)) trodAll_mk0))),rfl,bel.bel.frame _,λh=>by cases h⟩
set_option maxRecDepth 100000 in
theorem lifted (os:Os)(started:os.Started)(H:Type)(enc:TypeId×Value->H):
 ReturnsInHanded {} Tryz.checked os 10 .any (Rows.askInsSpec.pre6 enc Tryz.prog Tryz.f10 Rows.askInsRow.domain false) (Rows.askInsSpec.post enc Tryz.prog Tryz.f10 false true false false):=by
 refine returnsInHanded_of_change (C:=Tryz.checked) own started (by kernel_rfl) Tryz.func10
  (ChangeSpec.witness6 (enc:=enc) (C:=Tryz.checked) false ⟨#[],#[.slice none 0 0,.slice none 0 0,.slice none 0 0],[]⟩ 8 (by kernel_rfl) (by kernel_rfl) (by kernel_rfl) (by kernel_rfl)) ?_
 intro W base args ds gs before hval hW _ _
 exact contract H enc W base args ds gs before hval hW
theorem proved : Rows.AskInsSaid:=
 OpenClaim.holds_of_wide 10 Tryz.f10 rfl rfl rfl rfl rfl rfl rfl ⟨rfl,rfl,rfl,rfl,rfl⟩ rfl rfl rfl rfl rfl (by kernel_rfl) Tryz.func10 (by kernel_rfl)
 (of_decide_eq_true (by kernel_rfl)) (by unfold Func.isWrapper;first|(rw [if_pos (by decide +kernel)];kernel_rfl)|(rw [if_neg (by decide +kernel)];exact ⟨rfl,rfl⟩))
 (λos started H enc _=>lifted os started H enc)
end Go.Proofs.YtahnpgfkkngimaaGreat.askIns
