/-
  IndexScript, for every input: the call returns true and leaves its arguments as they were.
  Conditions:none beyond the statement's own. By an AI agent.
-/
import Derived.Test.YtcjfkbdbcgmomaaGreatDoorSbj
import Derived.Test.YtcjfkbdbcgmomaaGreatDoorCards
import Derived.Test.YtcjfkbdbcgmomaaGreatDoorTie
import Derived.Deep.DeepHandedRow
namespace Go.Proofs.YtcjfkbdbcgmomaaGreatDoor.indexScript
open Go.ChangeShapes Go.WideShapes Go.ChangeAt Go.RowKit Go.CK
open Go.ChangeMaps (open_string shut_string)

theorem own:ownKnob Tryz.prog.godebug=none:=by kernel_rfl
theorem laidOut:laidOutB Tryz.prog=true:=by kernel_rfl

set_option maxRecDepth 100000 in
theorem contract(H:Type)(enc:TypeId×Value->H)(W:World)(base:Nat)(args:Array Value)(ds gs:List (DataW H))(before:List MemPlace)
    (hval:∀(j:Nat) t v,Tryz.f6.params[j]? =some t->args[j]? =some v->Value.okWide Tryz.prog W .any base t v)
    (hW:DataW.Whole enc Tryz.prog Tryz.f6.params.toList Rows.indexScriptSpec.vars false W args.toList ds gs before) (_hL:laidMetH Tryz.prog Rows.indexScriptRow.laid W):
    Calls Tryz.prog 6 args W λe W'=>∃v,e=.returned v/\Rows.indexScriptSpec.post enc Tryz.prog Tryz.f6 false true false false W args v W':=by
  have hW':=hW
  obtain⟨p,q,hA0,hV,rfl,hfz,hnd⟩:=hW
  have hA:DataW.TrodAll enc Tryz.prog W 0 (λ_=>true) true Tryz.f6.params.toList args.toList ds p:=hA0
  rw[Tryz.params6] at hA hval
  obtain⟨v0,vs0,d0,ds0,p0,q0,hargs,rfl,rfl,h0,r0⟩:=trodAll_cons hA
  obtain⟨v1,vs1,d1,ds1,p1,q1,rfl,rfl,rfl,h1,r1⟩:=trodAll_cons r0
  obtain⟨v2,vs2,d2,ds2,p2,q2,rfl,rfl,rfl,h2,r2⟩:=trodAll_cons r1
  obtain⟨rfl,rfl,rfl⟩:=trodAll_nil r2
  obtain rfl:args=#[v0,v1,v2]:=by cases args;simp_all
  obtain⟨rfl,rfl⟩:=trodVars_none hV
  obtain⟨a0,n0,k0,rfl⟩:=okWide_slice Tryz.underlying22 (hval 0 22 v0 rfl rfl)
  have hk0:=h0
  have lt0:∀x∈p0,x.block<W.heap.size:=by obtain⟨m,hm⟩:=hk0;exact DataW.trod_lt m _ _ _ hm
  obtain⟨fuel0,hf0⟩:=h0
  obtain⟨x0,w0⟩:=Hh _ (Nat.zero_le _) _ _ _ _ hf0 (Nat.le_refl _)
  have fv0:=(RSl.cf w0 (λ_ _ _ hc=>RIt.cf hc)).1.2 0 (by simp[AM.AV.cells]) _ rfl
  obtain⟨a1,n1,k1,rfl⟩:=okWide_slice Tryz.underlying23 (hval 1 23 v1 rfl rfl)
  have hk1:=h1
  have lt1:∀x∈p1,x.block<W.heap.size:=by obtain⟨m,hm⟩:=hk1;exact DataW.trod_lt m _ _ _ hm
  obtain⟨fuel1,hf1⟩:=h1
  obtain⟨x1,w1⟩:=Ho _ (Nat.zero_le _) _ _ _ _ hf1 (Nat.le_refl _)
  have fv1:=(RSl.cf w1 (λ_ _ _ hc=>RAc.cf hc)).1.2 0 (by simp[AM.AV.cells]) _ rfl
  obtain⟨a2,n2,k2,rfl⟩:=okWide_slice Tryz.underlying34 (hval 2 34 v2 rfl rfl)
  have hk2:=h2
  have lt2:∀x∈p2,x.block<W.heap.size:=by obtain⟨m,hm⟩:=hk2;exact DataW.trod_lt m _ _ _ hm
  obtain⟨fuel2,hf2⟩:=h2
  obtain⟨x2,w2⟩:=Hg _ (Nat.zero_le _) _ _ _ _ hf2 (Nat.le_refl _)
  have fv2:=(RSl.cf w2 (λ_ _ _ hc=>ROp.cf hc)).1.2 0 (by simp[AM.AV.cells]) _ rfl
  clear hA0 hval
  have io0:∀i∈x0,Tm.ios i.atom.args:=λi hi=>by
    obtain⟨_,_,_,_,hs⟩:=w0
    obtain⟨m,hm,rfl⟩:=Zc.1 hi
    obtain⟨_,_,_,_,_,_,hr⟩:=hs.at_ m hm
    exact hr.ios
  have io2:∀o∈x2,DT o:=λo ho=>by
    obtain⟨_,_,_,_,hs⟩:=w2
    obtain⟨m,hm,rfl⟩:=Zc.1 ho
    obtain⟨_,_,_,_,_,_,hr⟩:=hs.at_ m hm
    exact⟨hr.2.2.1,hr.2.2.2.1,hr.2.2.2.2⟩
  have ln2:x2.length<=9223372036854775807:=by
    obtain⟨_,_,_,_,_,_,_,_,h,_⟩:=fv2.cq
    simpa[lim] using h
  have hM:laidMet Tryz.prog Rows.indexScriptRow.laid W:=_hL
  have htb:=JI hM
  refine(Fun.calls (LM io0 io2 ln2) htb (args:=[.slice a0 n0 k0,.slice a1 n1 k1,.slice a2 n2 k2]) ⟨fv0,⟨fv1,⟨fv2,trivial⟩⟩⟩).mono λe W' ⟨he,bel⟩=>?_
  subst he
  exact⟨_,rfl,_,_,_,[],_,[],hW',trodAll_mk1 (shut_bool Tryz.underlying4 _),(trodAll_cons_mk (Below.trod laidOut (by kernel_rfl) (of_decide_eq_true (by kernel_rfl)) hk0 bel.bel lt0) (trodAll_cons_mk (Below.trod laidOut (by kernel_rfl) (of_decide_eq_true (by kernel_rfl)) hk1 bel.bel lt1) (trodAll_cons_mk (Below.trod laidOut (by kernel_rfl) (of_decide_eq_true (by kernel_rfl)) hk2 bel.bel lt2) trodAll_mk0))),rfl,bel.bel.frame _,λh=>by cases h⟩

/--A table whose cells are these. -/
def c9(cs:Array Value):Obj->Obj
  |.cells _ t frozen=>.cells cs t frozen
  |o=>o
/--A WORLD FOR THE WITNESS:the settled one,the tables holding what their initialisers lay. -/
noncomputable def laidWorld(os:Os):World:=
  {World.holding Tryz.prog os ⟨#[],#[],[]⟩ with heap:=(((World.holding Tryz.prog os ⟨#[],#[],[]⟩).heap.modify 1 (c9 #[.int .u64 1,.int .u64 10,.int .u64 100,.int .u64 1000,.int .u64 10000,.int .u64 100000,.int .u64 1000000,.int .u64 10000000,.int .u64 100000000,.int .u64 1000000000,.int .u64 10000000000,.int .u64 100000000000,.int .u64 1000000000000,.int .u64 10000000000000,.int .u64 100000000000000,.int .u64 1000000000000000,.int .u64 10000000000000000,.int .u64 100000000000000000,.int .u64 1000000000000000000,.int .u64 10000000000000000000])).modify 2 (c9 #[.int .u8 0,.int .u8 1,.int .u8 28,.int .u8 2,.int .u8 29,.int .u8 14,.int .u8 24,.int .u8 3,.int .u8 30,.int .u8 22,.int .u8 20,.int .u8 15,.int .u8 25,.int .u8 17,.int .u8 4,.int .u8 8,.int .u8 31,.int .u8 27,.int .u8 13,.int .u8 23,.int .u8 21,.int .u8 19,.int .u8 16,.int .u8 7,.int .u8 26,.int .u8 12,.int .u8 18,.int .u8 6,.int .u8 11,.int .u8 5,.int .u8 10,.int .u8 9])).modify 3 (c9 #[.int .u8 0,.int .u8 1,.int .u8 56,.int .u8 2,.int .u8 57,.int .u8 49,.int .u8 28,.int .u8 3,.int .u8 61,.int .u8 58,.int .u8 42,.int .u8 50,.int .u8 38,.int .u8 29,.int .u8 17,.int .u8 4,.int .u8 62,.int .u8 47,.int .u8 59,.int .u8 36,.int .u8 45,.int .u8 43,.int .u8 51,.int .u8 22,.int .u8 53,.int .u8 39,.int .u8 33,.int .u8 30,.int .u8 24,.int .u8 18,.int .u8 12,.int .u8 5,.int .u8 63,.int .u8 55,.int .u8 48,.int .u8 27,.int .u8 60,.int .u8 41,.int .u8 37,.int .u8 16,.int .u8 46,.int .u8 35,.int .u8 44,.int .u8 21,.int .u8 52,.int .u8 32,.int .u8 23,.int .u8 11,.int .u8 54,.int .u8 26,.int .u8 40,.int .u8 15,.int .u8 34,.int .u8 20,.int .u8 31,.int .u8 10,.int .u8 25,.int .u8 14,.int .u8 19,.int .u8 9,.int .u8 13,.int .u8 8,.int .u8 7,.int .u8 6])}
theorem tT(os:Os):laidMet Tryz.prog Rows.indexScriptRow.laid ((laidWorld os).forCall (λ_ _=>0) ⟨#[],#[.slice none 0 0,.slice none 0 0,.slice none 0 0],[]⟩).memory:=
  laidMet_of_run' 8 (by kernel_rfl) (by kernel_rfl)
theorem reads(os:Os){H:Type}(enc:TypeId×Value->H):∃places,DataW.whole enc Tryz.prog ((laidWorld os).forCall (λ_ _=>0) ⟨#[],#[.slice none 0 0,.slice none 0 0,.slice none 0 0],[]⟩).memory Tryz.f6.params.toList Rows.indexScriptSpec.vars false (#[.slice none 0 0,.slice none 0 0,.slice none 0 0]:Array Value).toList 8=some ([.nil,.nil,.nil],[],places):=
  ⟨[],by kernel_rfl⟩

set_option maxRecDepth 100000 in
theorem oT(os:Os)(started:os.Started)(H:Type)(enc:TypeId×Value->H)(F:Stop.Interp):
    ReturnsInHanded {} Tryz.checked os 6 .any ((OpenSpec.ofChange Rows.indexScriptSpec).preRow enc Tryz.prog Tryz.f6 Rows.indexScriptRow.domain false Rows.indexScriptRow.laid) (((OpenSpec.ofChange Rows.indexScriptSpec).at F).post enc Tryz.prog Tryz.f6 false true false false):=by
  obtain⟨places,hx⟩:=reads os enc
  refine returnsInHanded_of_row (C:=Tryz.checked) (s:=OpenSpec.ofChange Rows.indexScriptSpec) own started (by kernel_rfl) Tryz.func6
    (witness_row_at (enc:=enc) (C:=Tryz.checked) false (laidWorld os) #[.slice none 0 0,.slice none 0 0,.slice none 0 0] rfl (by kernel_rfl) (by kernel_rfl) (by kernel_rfl)
      (OpenSpec.preRow_of_cond 8 hx (by kernel_rfl) (fun k hk => by cases hk) (by kernel_rfl) (tT os))) ?_
  intro W base args ds gs before hval hW _ _ _ hL _ _
  exact contract H enc W base args ds gs before hval hW hL
theorem te:Rows.IndexScriptSaid:=
  OpenClaim.holds_of_cond 6 Tryz.f6 rfl rfl rfl rfl rfl rfl rfl ⟨rfl,rfl,rfl,rfl,rfl⟩ rfl rfl rfl rfl rfl (by kernel_rfl) Tryz.func6 (by kernel_rfl)
    (of_decide_eq_true (by kernel_rfl)) (by unfold Func.isWrapper;first|(rw[if_pos (by decide+kernel)];kernel_rfl)|(rw[if_neg (by decide+kernel)];exact⟨rfl,rfl⟩))
    (λos started H enc _ F=>by rw[OpenClaim.pre_eq_preRow];exact oT os started H enc F)
/--No parameter wants a stand-in;the program's own looks are off:what the card asks. -/
theorem plain (f : FuncId) (fn : Func) (hf : Tryz.pinned.checked.prog.funcNamed "constraint/constraintlaw20.IndexScript" = some f) (hfn : Tryz.pinned.checked.prog.funcs[f]? = some fn) :
    false=Tryz.pinned.checked.prog.looks []/\∀(j:Nat) t,fn.params[j]? =some t->Tryz.pinned.checked.prog.wantsStandIn t=false:=by
  obtain rfl : f = 6 := Option.some.inj ((show Tryz.prog.funcNamed "constraint/constraintlaw20.IndexScript" = some 6 by kernel_rfl).symm.trans hf) |>.symm
  obtain rfl:fn=Tryz.f6:=(yN (Tryz.func6.symm.trans hfn)).symm
  refine⟨by kernel_rfl,λj t ht=>?_⟩
  rw[Tryz.params6] at ht
  have ht:=Array.mem_of_getElem? ht
  simp only[List.mem_toArray,zI,yY,or_false] at ht
  rcases ht with rfl|rfl|rfl
  .exact (show Tryz.prog.wantsStandIn 22=false by kernel_rfl)
  .exact (show Tryz.prog.wantsStandIn 23=false by kernel_rfl)
  .exact (show Tryz.prog.wantsStandIn 34=false by kernel_rfl)
/--the card-/
theorem proved:Rows.IndexScriptCardSaid:=
  Claim7.holds_tied_plain_at .later [] _ _ _ _ te (λ_ h=>by cases h) (by kernel_rfl) (λ_ h=>by cases h) indexScript_row_tie rfl ⟨rfl,rfl⟩ (by kernel_rfl) rfl plain (by kernel_rfl)
end Go.Proofs.YtcjfkbdbcgmomaaGreatDoor.indexScript
