/-
  LookupFinds,the walk:where what it reads is of bulk at most 1048576:the call returns true and leaves its arguments as they were.
  Conditions:none beyond the statement's own. By an AI agent.
-/
import Derived.Test.YtcjfkbdbcgmomaaGreatDoorQbo
import Derived.Test.YtcjfkbdbcgmomaaGreatDoorCards
import Derived.Test.YtcjfkbdbcgmomaaGreatDoorTie
import Derived.Deep.DeepHandedRow
namespace Go.Proofs.YtcjfkbdbcgmomaaGreatDoor.lookupFinds
open Go.ChangeShapes Go.WideShapes Go.ChangeAt Go.RowKit Go.CK
open Go.ChangeMaps (open_string shut_string)

theorem own:ownKnob Tryz.prog.godebug=none:=by kernel_rfl
theorem laidOut:laidOutB Tryz.prog=true:=by kernel_rfl

set_option maxRecDepth 100000 in
theorem contract(H:Type)(enc:TypeId×Value->H)(W:World)(base:Nat)(args:Array Value)(ds gs:List (DataW H))(before:List MemPlace)
    (hval:∀(j:Nat) t v,Tryz.f5.params[j]? =some t->args[j]? =some v->Value.okWide Tryz.prog W .any base t v)
    (hW:DataW.Whole enc Tryz.prog Tryz.f5.params.toList Rows.lookupFindsSpec.vars false W args.toList ds gs before) (hk:Rows.uptoSmall H (ds++gs)=true) (_hL:laidMetH Tryz.prog Rows.lookupFindsUptoRow.laid W):
    Calls Tryz.prog 5 args W λe W'=>∃v,e=.returned v/\Rows.lookupFindsSpec.post enc Tryz.prog Tryz.f5 false true false false W args v W':=by
  have hW':=hW
  obtain⟨p,q,hA0,hV,rfl,hfz,hnd⟩:=hW
  have hA:DataW.TrodAll enc Tryz.prog W 0 (λ_=>true) true Tryz.f5.params.toList args.toList ds p:=hA0
  rw[Tryz.params5] at hA hval
  obtain⟨v0,vs0,d0,ds0,p0,q0,hargs,rfl,rfl,h0,r0⟩:=trodAll_cons hA
  obtain⟨v1,vs1,d1,ds1,p1,q1,rfl,rfl,rfl,h1,r1⟩:=trodAll_cons r0
  obtain⟨v2,vs2,d2,ds2,p2,q2,rfl,rfl,rfl,h2,r2⟩:=trodAll_cons r1
  obtain⟨rfl,rfl,rfl⟩:=trodAll_nil r2
  obtain rfl:args=#[v0,v1,v2]:=by cases args;simp_all
  obtain⟨rfl,rfl⟩:=trodVars_none hV
  have hbulk:=FR hk
  simp only[zy] at hbulk
  have hb0:Rows.uptoBulk d0<=1048576:=ZN (lG (by simp)) hbulk
  obtain⟨cs0,rfl,hsz0⟩:=okWide_struct Tryz.underlying51 (hval 0 51 v0 rfl rfl)
  have hk0:=h0
  have lt0:∀x∈p0,x.block<W.heap.size:=by obtain⟨m,hm⟩:=hk0;exact DataW.trod_lt m _ _ _ hm
  obtain⟨fuel0,hf0⟩:=h0
  obtain⟨x0,w0,z0⟩:=pg_w 1048576 (zG _) _ _ _ _ hf0 hb0
  have e0:(Value.agg cs0).cells.toList.toArray=cs0:=by simp[Value.cells]
  have fv0:=w0.fv
  rw[e0] at fv0
  have hb1:Rows.uptoBulk d1<=1048576:=ZN (lG (by simp)) hbulk
  obtain⟨cs1,rfl,hsz1⟩:=okWide_struct Tryz.underlying74 (hval 1 74 v1 rfl rfl)
  have hk1:=h1
  have lt1:∀x∈p1,x.block<W.heap.size:=by obtain⟨m,hm⟩:=hk1;exact DataW.trod_lt m _ _ _ hm
  obtain⟨fuel1,hf1⟩:=h1
  obtain⟨x1,w1,z1,y1⟩:=so_v 1048576 (zG _) _ _ _ _ hf1 hb1
  have e1:(Value.agg cs1).cells.toList.toArray=cs1:=by simp[Value.cells]
  have fv1:=w1.fv
  rw[e1] at fv1
  have hb2:Rows.uptoBulk d2<=1048576:=ZN (lG (by simp)) hbulk
  obtain⟨x2,rfl,rfl,rfl,w2⟩:=open_int Tryz.underlying3 (hval 2 3 v2 rfl rfl) h2
  clear hA0 hval
  have hM:laidMet Tryz.prog Rows.lookupFindsUptoRow.laid W:=_hL
  have htb:=Oy hM
  refine(Fun.calls (tx z0 z1 y1) htb (args:=[.agg cs0,.agg cs1,.int .i64 x2]) ⟨fv0,⟨fv1,⟨AM.FV.int .i64 x2,trivial⟩⟩⟩).mono λe W' ⟨he,bel⟩=>?_
  subst he
  exact⟨_,rfl,_,_,_,[],_,[],hW',trodAll_mk1 (shut_bool Tryz.underlying4 _),(trodAll_cons_mk (Below.trod laidOut (by kernel_rfl) (of_decide_eq_true (by kernel_rfl)) hk0 bel.bel lt0) (trodAll_cons_mk (Below.trod laidOut (by kernel_rfl) (of_decide_eq_true (by kernel_rfl)) hk1 bel.bel lt1) (trodAll_cons_mk (shut_int Tryz.underlying3 w2) trodAll_mk0))),rfl,bel.bel.frame _,λh=>by cases h⟩

/--A table whose cells are these. -/
def iu(cs:Array Value):Obj->Obj
  |.cells _ t frozen=>.cells cs t frozen
  |o=>o
/--A WORLD FOR THE WITNESS:the settled one,the tables holding what their initialisers lay. -/
noncomputable def laidWorld(os:Os):World:=
  {World.holding Tryz.prog os ⟨#[],#[],[]⟩ with heap:=(((World.holding Tryz.prog os ⟨#[],#[],[]⟩).heap.modify 1 (iu #[.int .u64 1,.int .u64 10,.int .u64 100,.int .u64 1000,.int .u64 10000,.int .u64 100000,.int .u64 1000000,.int .u64 10000000,.int .u64 100000000,.int .u64 1000000000,.int .u64 10000000000,.int .u64 100000000000,.int .u64 1000000000000,.int .u64 10000000000000,.int .u64 100000000000000,.int .u64 1000000000000000,.int .u64 10000000000000000,.int .u64 100000000000000000,.int .u64 1000000000000000000,.int .u64 10000000000000000000])).modify 2 (iu #[.int .u8 0,.int .u8 1,.int .u8 28,.int .u8 2,.int .u8 29,.int .u8 14,.int .u8 24,.int .u8 3,.int .u8 30,.int .u8 22,.int .u8 20,.int .u8 15,.int .u8 25,.int .u8 17,.int .u8 4,.int .u8 8,.int .u8 31,.int .u8 27,.int .u8 13,.int .u8 23,.int .u8 21,.int .u8 19,.int .u8 16,.int .u8 7,.int .u8 26,.int .u8 12,.int .u8 18,.int .u8 6,.int .u8 11,.int .u8 5,.int .u8 10,.int .u8 9])).modify 3 (iu #[.int .u8 0,.int .u8 1,.int .u8 56,.int .u8 2,.int .u8 57,.int .u8 49,.int .u8 28,.int .u8 3,.int .u8 61,.int .u8 58,.int .u8 42,.int .u8 50,.int .u8 38,.int .u8 29,.int .u8 17,.int .u8 4,.int .u8 62,.int .u8 47,.int .u8 59,.int .u8 36,.int .u8 45,.int .u8 43,.int .u8 51,.int .u8 22,.int .u8 53,.int .u8 39,.int .u8 33,.int .u8 30,.int .u8 24,.int .u8 18,.int .u8 12,.int .u8 5,.int .u8 63,.int .u8 55,.int .u8 48,.int .u8 27,.int .u8 60,.int .u8 41,.int .u8 37,.int .u8 16,.int .u8 46,.int .u8 35,.int .u8 44,.int .u8 21,.int .u8 52,.int .u8 32,.int .u8 23,.int .u8 11,.int .u8 54,.int .u8 26,.int .u8 40,.int .u8 15,.int .u8 34,.int .u8 20,.int .u8 31,.int .u8 10,.int .u8 25,.int .u8 14,.int .u8 19,.int .u8 9,.int .u8 13,.int .u8 8,.int .u8 7,.int .u8 6])}
theorem Kc(os:Os):laidMet Tryz.prog Rows.lookupFindsUptoRow.laid ((laidWorld os).forCall (λ_ _=>0) ⟨#[],#[.agg #[.slice none 0 0,.slice none 0 0],.agg #[.slice none 0 0,.int .i64 0],.int .i64 0],[]⟩).memory:=
  laidMet_of_run' 8 (by kernel_rfl) (by kernel_rfl)
theorem reads(os:Os){H:Type}(enc:TypeId×Value->H):∃places,DataW.whole enc Tryz.prog ((laidWorld os).forCall (λ_ _=>0) ⟨#[],#[.agg #[.slice none 0 0,.slice none 0 0],.agg #[.slice none 0 0,.int .i64 0],.int .i64 0],[]⟩).memory Tryz.f5.params.toList Rows.lookupFindsSpec.vars false (#[.agg #[.slice none 0 0,.slice none 0 0],.agg #[.slice none 0 0,.int .i64 0],.int .i64 0]:Array Value).toList 8=some ([.agg [.nil,.nil],.agg [.nil,.lit (.int .i64 0)],.lit (.int .i64 0)],[],places):=
  ⟨[],by kernel_rfl⟩

set_option maxRecDepth 100000 in
theorem E8(os:Os)(started:os.Started)(H:Type)(enc:TypeId×Value->H)(F:Stop.Interp):
    ReturnsInHanded {} Tryz.checked os 5 .any ((Rows.OpenSpec.upto Rows.lookupFindsSpec).preRow enc Tryz.prog Tryz.f5 Rows.lookupFindsUptoRow.domain false Rows.lookupFindsUptoRow.laid) (((Rows.OpenSpec.upto Rows.lookupFindsSpec).at F).post enc Tryz.prog Tryz.f5 false true false false):=by
  obtain⟨places,hx⟩:=reads os enc
  refine returnsInHanded_of_row (C:=Tryz.checked) (s:=Rows.OpenSpec.upto Rows.lookupFindsSpec) own started (by kernel_rfl) Tryz.func5
    (witness_row_at (enc:=enc) (C:=Tryz.checked) false (laidWorld os) #[.agg #[.slice none 0 0,.slice none 0 0],.agg #[.slice none 0 0,.int .i64 0],.int .i64 0] rfl (by kernel_rfl) (by kernel_rfl) (by kernel_rfl)
      (OpenSpec.preRow_of_cond 8 hx (by kernel_rfl) (λk hk=>by cases hk;kernel_rfl) (by kernel_rfl) (Kc os))) ?_
  intro W base args ds gs before hval hW _ hcond _ hL _ _
  exact contract H enc W base args ds gs before hval hW (hcond _ rfl) hL
end Go.Proofs.YtcjfkbdbcgmomaaGreatDoor.lookupFinds
