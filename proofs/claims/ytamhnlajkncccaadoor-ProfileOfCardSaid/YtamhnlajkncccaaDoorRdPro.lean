/-
  WHAT COMES IN, READ: structs. Printed by wip/gen/data.py. By an AI agent.
-/
import Derived.Test.YtamhnlajkncccaaDoorReadN
import Derived.Test.YtamhnlajkncccaaDoorData
set_option linter.unusedSimpArgs false
set_option linter.unusedVariables false
namespace Go.CK
open Go.RowKit Go.Proofs Go.ChangeShapes Go.WideShapes Go.ChangeAt
open Go.Proofs.YtamhnlajkncccaaDoor.Rows (uptoBulk uptoBulkAll uptoSmall)
section
variable {H : Type} {enc : TypeId × Value → H} {W : World} {spare : Nat → Bool} {held : Bool}
theorem bool_of {fuel : Nat} {cs : List Value} {d : DataW H} {ps : List MemPlace} (h : DataW.trod enc Tryd.prog W 0 spare held fuel 4 cs = some (d, ps)) : ∃ b, cs = [.bool b] := by
  obtain ⟨n, h1, _⟩ := DataW.trod_bool Tryd.underlying4 h
  exact ⟨n, h1⟩

theorem trod_struct5 {P : Program} {base : Nat} {t : TypeId} {f0 f1 f2 f3 f4 : Field} {fuel : Nat} {cs : List Value} {x : DataW H × List MemPlace} (ht : P.underlying t = some (.struct #[f0, f1, f2, f3, f4])) (h : DataW.trod enc P W base spare held fuel t cs = some x) :
    ∃ y0 y1 y2 y3 y4 n, x = (.agg [y0.1, y1.1, y2.1, y3.1, y4.1], y0.2 ++ (y1.2 ++ (y2.2 ++ (y3.2 ++ y4.2)))) ∧ cs.length = P.cellsOf t ∧ DataW.trod enc P W base spare held n f0.type ((cs.drop f0.offset).take (P.cellsOf f0.type)) = some y0 ∧ DataW.trod enc P W base spare held n f1.type ((cs.drop f1.offset).take (P.cellsOf f1.type)) = some y1 ∧ DataW.trod enc P W base spare held n f2.type ((cs.drop f2.offset).take (P.cellsOf f2.type)) = some y2 ∧ DataW.trod enc P W base spare held n f3.type ((cs.drop f3.offset).take (P.cellsOf f3.type)) = some y3 ∧ DataW.trod enc P W base spare held n f4.type ((cs.drop f4.offset).take (P.cellsOf f4.type)) = some y4 := by
  obtain ⟨xs, n, _, rfl, hl, hlen, hf⟩ := DataW.trod_struct ht h
  match xs, hlen with
  | [y0, y1, y2, y3, y4], _ => exact ⟨y0, y1, y2, y3, y4, n, by simp, hl, by simpa using hf 0 f0 rfl, by simpa using hf 1 f1 rfl, by simpa using hf 2 f2 rfl, by simpa using hf 3 f3 rfl, by simpa using hf 4 f4 rfl⟩
set_option maxRecDepth 100000 in
theorem lint_of (N : Nat) (hN : 0 ≤ N) (cs : List Value) (d : DataW H) (ps : List MemPlace) (fuel : Nat) (h : DataW.trod enc Tryd.prog W 0 spare held fuel 24 cs = some (d, ps)) (hb : uptoBulk d ≤ N) : ∃ x, RSl 1 RInt (Hp.of W) cs x := by
  obtain ⟨a, l, k, e, h1, h2, _⟩ := sl_of (N := N) Tryd.underlying24 cellsInt (by omega) (RInt (Hp.of W)) hN (fun cs d ps fuel h _ => let ⟨n, e, i⟩ := int_of h; ⟨n, e, i⟩) h hb
  exact ⟨l, a, k, e, h1, h2⟩
theorem cells_Lint : Tryd.prog.cellsOf 24 = 1 := by kernel_rfl
theorem cells_Ev : Tryd.prog.cellsOf 40 = 5 := by kernel_rfl
set_option maxRecDepth 100000 in
theorem ev_of (N : Nat) (hN : 0 ≤ N) (cs : List Value) (d : DataW H) (ps : List MemPlace) (fuel : Nat) (h : DataW.trod enc Tryd.prog W 0 spare held fuel 40 cs = some (d, ps)) (hb : uptoBulk d ≤ N) : ∃ x, REv (Hp.of W) cs x := by
  obtain ⟨y0, y1, y2, y3, y4, n, hx, hl, h0, h1, h2, h3, h4⟩ := trod_struct5 Tryd.underlying40 h
  simp only [Prod.mk.injEq] at hx
  obtain ⟨rfl, _⟩ := hx
  rw [cells_Ev] at hl
  match cs, hl with
  | [c0, c1, c2, c3, c4], _ =>
    simp only [cellsInt, cells_Lint, List.drop_zero, List.drop_succ_cons, List.take_succ_cons, List.take_zero] at h0 h1 h2 h3 h4
    simp only [uptoBulk, uptoBulkAll] at hb
    obtain ⟨v0, e0, i0⟩ := int_of h0
    obtain ⟨v1, e1, i1⟩ := int_of h1
    obtain ⟨v2, e2, i2⟩ := int_of h2
    obtain ⟨v3, e3, i3⟩ := int_of h3
    obtain ⟨v4, a4, k4, e4, l4, s4⟩ := lint_of N hN _ _ _ _ h4 (by omega)
    simp only [List.cons.injEq, and_true] at e0 e1 e2 e3 e4
    subst e0
    subst e1
    subst e2
    subst e3
    subst e4
    exact ⟨⟨v0, v1, v2, v3, v4⟩, a4, k4, rfl, i0, i1, i2, i3, l4, s4⟩
set_option maxRecDepth 100000 in
theorem lev_of (N : Nat) (hN : 0 ≤ N) (cs : List Value) (d : DataW H) (ps : List MemPlace) (fuel : Nat) (h : DataW.trod enc Tryd.prog W 0 spare held fuel 22 cs = some (d, ps)) (hb : uptoBulk d ≤ N) : ∃ x, RSl 5 REv (Hp.of W) cs x := by
  obtain ⟨a, l, k, e, h1, h2, _⟩ := sl_of (N := N) Tryd.underlying22 cells_Ev (by omega) (REv (Hp.of W)) hN (fun cs d ps fuel h hb => ev_of N hN cs d ps fuel h (by omega)) h hb
  exact ⟨l, a, k, e, h1, h2⟩
theorem cells_Ct : Tryd.prog.cellsOf 26 = 4 := by kernel_rfl
set_option maxRecDepth 100000 in
theorem ct_of (N : Nat) (hN : 0 ≤ N) (cs : List Value) (d : DataW H) (ps : List MemPlace) (fuel : Nat) (h : DataW.trod enc Tryd.prog W 0 spare held fuel 26 cs = some (d, ps)) (hb : uptoBulk d ≤ N) : ∃ x, RCt (Hp.of W) cs x := by
  obtain ⟨y0, y1, y2, y3, n, hx, hl, h0, h1, h2, h3⟩ := Joins.trod_struct4 Tryd.underlying26 h
  simp only [Prod.mk.injEq] at hx
  obtain ⟨rfl, _⟩ := hx
  rw [cells_Ct] at hl
  match cs, hl with
  | [c0, c1, c2, c3], _ =>
    simp only [cells_Lint, cellsInt, List.drop_zero, List.drop_succ_cons, List.take_succ_cons, List.take_zero] at h0 h1 h2 h3
    simp only [uptoBulk, uptoBulkAll] at hb
    obtain ⟨v0, a0, k0, e0, l0, s0⟩ := lint_of N hN _ _ _ _ h0 (by omega)
    obtain ⟨v1, e1, i1⟩ := int_of h1
    obtain ⟨v2, e2, i2⟩ := int_of h2
    obtain ⟨v3, e3, i3⟩ := int_of h3
    simp only [List.cons.injEq, and_true] at e0 e1 e2 e3
    subst e0
    subst e1
    subst e2
    subst e3
    exact ⟨⟨v0, v1, v2, v3⟩, a0, k0, rfl, l0, s0, i1, i2, i3⟩
end
end Go.CK
