/-
  WHAT COMES IN, READ: structs. Printed by wip/gen/data.py. By an AI agent.
-/
import Derived.Test.YtfpmkfoddeogbaaRead
import Derived.Test.YtfpmkfoddeogbaaData
namespace Go.CK
open Go.RowKit Go.Proofs Go.ChangeShapes Go.WideShapes Go.ChangeAt
open Go.Proofs.Ytfpmkfoddeogbaa.Rows (uptoBulk uptoBulkAll)
section
variable {H : Type} {enc : TypeId × Value → H} {W : World} {spare : Nat → Bool} {held : Bool}
theorem bool_of {fuel : Nat} {cs : List Value} {d : DataW H} {ps : List MemPlace} (h : DataW.trod enc Try.prog W 0 spare held fuel 4 cs = some (d, ps)) : ∃ b, cs = [.bool b] := by
  obtain ⟨n, h1, _⟩ := DataW.trod_bool Try.underlying4 h
  exact ⟨n, h1⟩

theorem trod_struct6 {P : Program} {base : Nat} {t : TypeId} {f0 f1 f2 f3 f4 f5 : Field} {fuel : Nat} {cs : List Value} {x : DataW H × List MemPlace} (ht : P.underlying t = some (.struct #[f0, f1, f2, f3, f4, f5])) (h : DataW.trod enc P W base spare held fuel t cs = some x) :
    ∃ y0 y1 y2 y3 y4 y5 n, x = (.agg [y0.1, y1.1, y2.1, y3.1, y4.1, y5.1], y0.2 ++ (y1.2 ++ (y2.2 ++ (y3.2 ++ (y4.2 ++ y5.2))))) ∧ cs.length = P.cellsOf t ∧ DataW.trod enc P W base spare held n f0.type ((cs.drop f0.offset).take (P.cellsOf f0.type)) = some y0 ∧ DataW.trod enc P W base spare held n f1.type ((cs.drop f1.offset).take (P.cellsOf f1.type)) = some y1 ∧ DataW.trod enc P W base spare held n f2.type ((cs.drop f2.offset).take (P.cellsOf f2.type)) = some y2 ∧ DataW.trod enc P W base spare held n f3.type ((cs.drop f3.offset).take (P.cellsOf f3.type)) = some y3 ∧ DataW.trod enc P W base spare held n f4.type ((cs.drop f4.offset).take (P.cellsOf f4.type)) = some y4 ∧ DataW.trod enc P W base spare held n f5.type ((cs.drop f5.offset).take (P.cellsOf f5.type)) = some y5 := by
  obtain ⟨xs, n, _, rfl, hl, hlen, hf⟩ := DataW.trod_struct ht h
  match xs, hlen with
  | [y0, y1, y2, y3, y4, y5], _ => exact ⟨y0, y1, y2, y3, y4, y5, n, by simp, hl, by simpa using hf 0 f0 rfl, by simpa using hf 1 f1 rfl, by simpa using hf 2 f2 rfl, by simpa using hf 3 f3 rfl, by simpa using hf 4 f4 rfl, by simpa using hf 5 f5 rfl⟩
set_option maxRecDepth 100000 in
theorem lint_of (N : Nat) (cs : List Value) (d : DataW H) (ps : List MemPlace) (fuel : Nat) (h : DataW.trod enc Try.prog W 0 spare held fuel 26 cs = some (d, ps)) (hb : uptoBulk d ≤ N) (hf : Fit Try.prog 26 d) : ∃ x, RSl 1 RInt (Hp.of W) cs x := by
  obtain ⟨a, l, k, e, h1, h2, _⟩ := sl_of (N := N) Try.underlying26 cellsInt (by omega) (RInt (Hp.of W)) (fun cs d ps fuel h _ _ => let ⟨n, e, i⟩ := int_of h; ⟨n, e, i⟩) (of_decide_eq_true (by kernel_rfl)) h hb hf
  exact ⟨l, a, k, e, h1, h2⟩
set_option maxRecDepth 100000 in
theorem ltm_of (N : Nat) (cs : List Value) (d : DataW H) (ps : List MemPlace) (fuel : Nat) (h : DataW.trod enc Try.prog W 0 spare held fuel 47 cs = some (d, ps)) (hb : uptoBulk d ≤ N) (hf : Fit Try.prog 47 d) : ∃ x, RSl 4 RTm (Hp.of W) cs x := by
  obtain ⟨a, l, k, e, h1, h2, _⟩ := sl_of (N := N) Try.underlying47 cellsTm (by omega) (RTm (Hp.of W)) (fun cs d ps fuel h hb hf => tm_of N cs d ps fuel h (by omega) hf) (of_decide_eq_true (by kernel_rfl)) h hb hf
  exact ⟨l, a, k, e, h1, h2⟩
theorem cells_At : Try.prog.cellsOf 76 = 2 := by kernel_rfl
set_option maxRecDepth 100000 in
theorem at_of (N : Nat) (cs : List Value) (d : DataW H) (ps : List MemPlace) (fuel : Nat) (h : DataW.trod enc Try.prog W 0 spare held fuel 76 cs = some (d, ps)) (hb : uptoBulk d ≤ N) (hf : Fit Try.prog 76 d) : ∃ x, RAt (Hp.of W) cs x := by
  obtain ⟨y0, y1, n, hx, hl, h0, h1⟩ := trod_struct2 Try.underlying76 h
  simp only [Prod.mk.injEq] at hx
  obtain ⟨rfl, _⟩ := hx
  obtain ⟨f0, f1, _⟩ := Fit.agg Try.underlying76 hf
  rw [cells_At] at hl
  match cs, hl with
  | [c0, c1], _ =>
    simp only [cellsStr, cellsTms, List.drop_zero, List.drop_succ_cons, List.take_succ_cons, List.take_zero] at h0 h1
    simp only [uptoBulk, uptoBulkAll] at hb
    obtain ⟨v0, e0, i0⟩ := str_of h0 f0
    obtain ⟨v1, a1, k1, e1, l1, s1⟩ := ltm_of N _ _ _ _ h1 (by omega) f1
    simp only [List.cons.injEq, and_true] at e0 e1
    subst e0
    subst e1
    exact ⟨⟨v0, v1⟩, a1, k1, rfl, i0, l1, s1⟩
set_option maxRecDepth 100000 in
theorem lat_of (N : Nat) (cs : List Value) (d : DataW H) (ps : List MemPlace) (fuel : Nat) (h : DataW.trod enc Try.prog W 0 spare held fuel 22 cs = some (d, ps)) (hb : uptoBulk d ≤ N) (hf : Fit Try.prog 22 d) : ∃ x, RSl 2 RAt (Hp.of W) cs x := by
  obtain ⟨a, l, k, e, h1, h2, _⟩ := sl_of (N := N) Try.underlying22 cells_At (by omega) (RAt (Hp.of W)) (fun cs d ps fuel h hb hf => at_of N cs d ps fuel h (by omega) hf) (of_decide_eq_true (by kernel_rfl)) h hb hf
  exact ⟨l, a, k, e, h1, h2⟩
theorem cells_Gl : Try.prog.cellsOf 64 = 3 := by kernel_rfl
set_option maxRecDepth 100000 in
theorem gl_of (N : Nat) (cs : List Value) (d : DataW H) (ps : List MemPlace) (fuel : Nat) (h : DataW.trod enc Try.prog W 0 spare held fuel 64 cs = some (d, ps)) (hb : uptoBulk d ≤ N) (hf : Fit Try.prog 64 d) : ∃ x, RGl (Hp.of W) cs x := by
  obtain ⟨y0, y1, y2, n, hx, hl, h0, h1, h2⟩ := Deep.trod_struct3 Try.underlying64 h
  simp only [Prod.mk.injEq] at hx
  obtain ⟨rfl, _⟩ := hx
  obtain ⟨f0, f1, f2, _⟩ := Fit.agg Try.underlying64 hf
  rw [cells_Gl] at hl
  match cs, hl with
  | [c0, c1, c2], _ =>
    simp only [cellsInt, cellsStr, cellsTms, List.drop_zero, List.drop_succ_cons, List.take_succ_cons, List.take_zero] at h0 h1 h2
    simp only [uptoBulk, uptoBulkAll] at hb
    obtain ⟨v0, e0, i0⟩ := int_of h0
    obtain ⟨v1, e1, i1⟩ := str_of h1 f1
    obtain ⟨v2, a2, k2, e2, l2, s2⟩ := ltm_of N _ _ _ _ h2 (by omega) f2
    simp only [List.cons.injEq, and_true] at e0 e1 e2
    subst e0
    subst e1
    subst e2
    exact ⟨⟨v0, v1, v2⟩, a2, k2, rfl, i0, i1, l2, s2⟩
set_option maxRecDepth 100000 in
theorem lgl_of (N : Nat) (cs : List Value) (d : DataW H) (ps : List MemPlace) (fuel : Nat) (h : DataW.trod enc Try.prog W 0 spare held fuel 23 cs = some (d, ps)) (hb : uptoBulk d ≤ N) (hf : Fit Try.prog 23 d) : ∃ x, RSl 3 RGl (Hp.of W) cs x := by
  obtain ⟨a, l, k, e, h1, h2, _⟩ := sl_of (N := N) Try.underlying23 cells_Gl (by omega) (RGl (Hp.of W)) (fun cs d ps fuel h hb hf => gl_of N cs d ps fuel h (by omega) hf) (of_decide_eq_true (by kernel_rfl)) h hb hf
  exact ⟨l, a, k, e, h1, h2⟩
theorem cells_LAt : Try.prog.cellsOf 22 = 1 := by kernel_rfl
theorem cells_LGl : Try.prog.cellsOf 23 = 1 := by kernel_rfl
theorem cells_Rl : Try.prog.cellsOf 25 = 6 := by kernel_rfl
set_option maxRecDepth 100000 in
theorem rl_of (N : Nat) (cs : List Value) (d : DataW H) (ps : List MemPlace) (fuel : Nat) (h : DataW.trod enc Try.prog W 0 spare held fuel 25 cs = some (d, ps)) (hb : uptoBulk d ≤ N) (hf : Fit Try.prog 25 d) : ∃ x, RRl (Hp.of W) cs x := by
  obtain ⟨y0, y1, y2, y3, y4, y5, n, hx, hl, h0, h1, h2, h3, h4, h5⟩ := trod_struct6 Try.underlying25 h
  simp only [Prod.mk.injEq] at hx
  obtain ⟨rfl, _⟩ := hx
  obtain ⟨f0, f1, f2, f3, f4, f5, _⟩ := Fit.agg Try.underlying25 hf
  rw [cells_Rl] at hl
  match cs, hl with
  | [c0, c1, c2, c3, c4, c5], _ =>
    simp only [cellsStr, cells_LAt, cells_LGl, cellsInt, List.drop_zero, List.drop_succ_cons, List.take_succ_cons, List.take_zero] at h0 h1 h2 h3 h4 h5
    simp only [uptoBulk, uptoBulkAll] at hb
    obtain ⟨v0, e0, i0⟩ := str_of h0 f0
    obtain ⟨v1, a1, k1, e1, l1, s1⟩ := lat_of N _ _ _ _ h1 (by omega) f1
    obtain ⟨v2, a2, k2, e2, l2, s2⟩ := lat_of N _ _ _ _ h2 (by omega) f2
    obtain ⟨v3, a3, k3, e3, l3, s3⟩ := lgl_of N _ _ _ _ h3 (by omega) f3
    obtain ⟨v4, a4, k4, e4, l4, s4⟩ := lgl_of N _ _ _ _ h4 (by omega) f4
    obtain ⟨v5, e5, i5⟩ := int_of h5
    simp only [List.cons.injEq, and_true] at e0 e1 e2 e3 e4 e5
    subst e0
    subst e1
    subst e2
    subst e3
    subst e4
    subst e5
    exact ⟨⟨v0, v1, v2, v3, v4, v5⟩, a1, k1, a2, k2, a3, k3, a4, k4, rfl, i0, l1, s1, l2, s2, l3, s3, l4, s4, i5⟩
theorem cells_Dc : Try.prog.cellsOf 124 = 2 := by kernel_rfl
set_option maxRecDepth 100000 in
theorem dc_of (N : Nat) (cs : List Value) (d : DataW H) (ps : List MemPlace) (fuel : Nat) (h : DataW.trod enc Try.prog W 0 spare held fuel 124 cs = some (d, ps)) (hb : uptoBulk d ≤ N) (hf : Fit Try.prog 124 d) : ∃ x, RDc (Hp.of W) cs x := by
  obtain ⟨y0, y1, n, hx, hl, h0, h1⟩ := trod_struct2 Try.underlying124 h
  simp only [Prod.mk.injEq] at hx
  obtain ⟨rfl, _⟩ := hx
  obtain ⟨f0, f1, _⟩ := Fit.agg Try.underlying124 hf
  rw [cells_Dc] at hl
  match cs, hl with
  | [c0, c1], _ =>
    simp only [cellsStr, cellsInt, List.drop_zero, List.drop_succ_cons, List.take_succ_cons, List.take_zero] at h0 h1
    simp only [uptoBulk, uptoBulkAll] at hb
    obtain ⟨v0, e0, i0⟩ := str_of h0 f0
    obtain ⟨v1, e1, i1⟩ := int_of h1
    simp only [List.cons.injEq, and_true] at e0 e1
    subst e0
    subst e1
    exact ⟨⟨v0, v1⟩, rfl, i0, i1⟩
set_option maxRecDepth 100000 in
theorem ldc_of (N : Nat) (cs : List Value) (d : DataW H) (ps : List MemPlace) (fuel : Nat) (h : DataW.trod enc Try.prog W 0 spare held fuel 29 cs = some (d, ps)) (hb : uptoBulk d ≤ N) (hf : Fit Try.prog 29 d) : ∃ x, RSl 2 RDc (Hp.of W) cs x := by
  obtain ⟨a, l, k, e, h1, h2, _⟩ := sl_of (N := N) Try.underlying29 cells_Dc (by omega) (RDc (Hp.of W)) (fun cs d ps fuel h hb hf => dc_of N cs d ps fuel h (by omega) hf) (of_decide_eq_true (by kernel_rfl)) h hb hf
  exact ⟨l, a, k, e, h1, h2⟩
set_option maxRecDepth 100000 in
theorem lrl_of (N : Nat) (cs : List Value) (d : DataW H) (ps : List MemPlace) (fuel : Nat) (h : DataW.trod enc Try.prog W 0 spare held fuel 28 cs = some (d, ps)) (hb : uptoBulk d ≤ N) (hf : Fit Try.prog 28 d) : ∃ x, RSl 6 RRl (Hp.of W) cs x := by
  obtain ⟨a, l, k, e, h1, h2, _⟩ := sl_of (N := N) Try.underlying28 cells_Rl (by omega) (RRl (Hp.of W)) (fun cs d ps fuel h hb hf => rl_of N cs d ps fuel h (by omega) hf) (of_decide_eq_true (by kernel_rfl)) h hb hf
  exact ⟨l, a, k, e, h1, h2⟩
theorem cells_LDc : Try.prog.cellsOf 29 = 1 := by kernel_rfl
theorem cells_LRl : Try.prog.cellsOf 28 = 1 := by kernel_rfl
theorem cells_Pg : Try.prog.cellsOf 31 = 2 := by kernel_rfl
set_option maxRecDepth 100000 in
theorem pg_of (N : Nat) (cs : List Value) (d : DataW H) (ps : List MemPlace) (fuel : Nat) (h : DataW.trod enc Try.prog W 0 spare held fuel 31 cs = some (d, ps)) (hb : uptoBulk d ≤ N) (hf : Fit Try.prog 31 d) : ∃ x, RPg (Hp.of W) cs x := by
  obtain ⟨y0, y1, n, hx, hl, h0, h1⟩ := trod_struct2 Try.underlying31 h
  simp only [Prod.mk.injEq] at hx
  obtain ⟨rfl, _⟩ := hx
  obtain ⟨f0, f1, _⟩ := Fit.agg Try.underlying31 hf
  rw [cells_Pg] at hl
  match cs, hl with
  | [c0, c1], _ =>
    simp only [cells_LDc, cells_LRl, List.drop_zero, List.drop_succ_cons, List.take_succ_cons, List.take_zero] at h0 h1
    simp only [uptoBulk, uptoBulkAll] at hb
    obtain ⟨v0, a0, k0, e0, l0, s0⟩ := ldc_of N _ _ _ _ h0 (by omega) f0
    obtain ⟨v1, a1, k1, e1, l1, s1⟩ := lrl_of N _ _ _ _ h1 (by omega) f1
    simp only [List.cons.injEq, and_true] at e0 e1
    subst e0
    subst e1
    exact ⟨⟨v0, v1⟩, a0, k0, a1, k1, rfl, l0, s0, l1, s1⟩
theorem cells_bool : Try.prog.cellsOf 4 = 1 := by kernel_rfl
theorem cells_Oc : Try.prog.cellsOf 41 = 3 := by kernel_rfl
set_option maxRecDepth 100000 in
theorem oc_of (N : Nat) (cs : List Value) (d : DataW H) (ps : List MemPlace) (fuel : Nat) (h : DataW.trod enc Try.prog W 0 spare held fuel 41 cs = some (d, ps)) (hb : uptoBulk d ≤ N) (hf : Fit Try.prog 41 d) : ∃ x, ROc (Hp.of W) cs x := by
  obtain ⟨y0, y1, y2, n, hx, hl, h0, h1, h2⟩ := Deep.trod_struct3 Try.underlying41 h
  simp only [Prod.mk.injEq] at hx
  obtain ⟨rfl, _⟩ := hx
  obtain ⟨f0, f1, f2, _⟩ := Fit.agg Try.underlying41 hf
  rw [cells_Oc] at hl
  match cs, hl with
  | [c0, c1, c2], _ =>
    simp only [cellsInt, cells_bool, List.drop_zero, List.drop_succ_cons, List.take_succ_cons, List.take_zero] at h0 h1 h2
    simp only [uptoBulk, uptoBulkAll] at hb
    obtain ⟨v0, e0, i0⟩ := int_of h0
    obtain ⟨v1, e1, i1⟩ := int_of h1
    obtain ⟨v2, e2⟩ := bool_of h2
    simp only [List.cons.injEq, and_true] at e0 e1 e2
    subst e0
    subst e1
    subst e2
    exact ⟨⟨v0, v1, v2⟩, rfl, i0, i1⟩
theorem cells_Lint : Try.prog.cellsOf 26 = 1 := by kernel_rfl
set_option maxRecDepth 100000 in
theorem llint_of (N : Nat) (cs : List Value) (d : DataW H) (ps : List MemPlace) (fuel : Nat) (h : DataW.trod enc Try.prog W 0 spare held fuel 42 cs = some (d, ps)) (hb : uptoBulk d ≤ N) (hf : Fit Try.prog 42 d) : ∃ x, RSl 1 RInts (Hp.of W) cs x := by
  obtain ⟨a, l, k, e, h1, h2, _⟩ := sl_of (N := N) Try.underlying42 cells_Lint (by omega) (RInts (Hp.of W)) (fun cs d ps fuel h hb hf => lint_of N cs d ps fuel h (by omega) hf) (of_decide_eq_true (by kernel_rfl)) h hb hf
  exact ⟨l, a, k, e, h1, h2⟩
theorem cells_LLint : Try.prog.cellsOf 42 = 1 := by kernel_rfl
theorem cells_Pl : Try.prog.cellsOf 44 = 6 := by kernel_rfl
set_option maxRecDepth 100000 in
theorem pl_of (N : Nat) (cs : List Value) (d : DataW H) (ps : List MemPlace) (fuel : Nat) (h : DataW.trod enc Try.prog W 0 spare held fuel 44 cs = some (d, ps)) (hb : uptoBulk d ≤ N) (hf : Fit Try.prog 44 d) : ∃ x, RPl (Hp.of W) cs x := by
  obtain ⟨y0, y1, y2, y3, n, hx, hl, h0, h1, h2, h3⟩ := Joins.trod_struct4 Try.underlying44 h
  simp only [Prod.mk.injEq] at hx
  obtain ⟨rfl, _⟩ := hx
  obtain ⟨f0, f1, f2, f3, _⟩ := Fit.agg Try.underlying44 hf
  rw [cells_Pl] at hl
  match cs, hl with
  | [c0, c1, c2, c3, c4, c5], _ =>
    simp only [cells_Oc, cells_Lint, cells_LLint, List.drop_zero, List.drop_succ_cons, List.take_succ_cons, List.take_zero] at h0 h1 h2 h3
    simp only [uptoBulk, uptoBulkAll] at hb
    obtain ⟨v0, e0⟩ := oc_of N _ _ _ _ h0 (by omega) f0
    obtain ⟨v1, a1, k1, e1, l1, s1⟩ := lint_of N _ _ _ _ h1 (by omega) f1
    obtain ⟨v2, a2, k2, e2, l2, s2⟩ := llint_of N _ _ _ _ h2 (by omega) f2
    obtain ⟨v3, a3, k3, e3, l3, s3⟩ := llint_of N _ _ _ _ h3 (by omega) f3
    simp only [List.cons.injEq, and_true] at e1 e2 e3
    subst e1
    subst e2
    subst e3
    exact ⟨⟨v0, v1, v2, v3⟩, _, a1, k1, a2, k2, a3, k3, rfl, e0, l1, s1, l2, s2, l3, s3⟩
set_option maxRecDepth 100000 in
theorem lpl_of (N : Nat) (cs : List Value) (d : DataW H) (ps : List MemPlace) (fuel : Nat) (h : DataW.trod enc Try.prog W 0 spare held fuel 36 cs = some (d, ps)) (hb : uptoBulk d ≤ N) (hf : Fit Try.prog 36 d) : ∃ x, RSl 6 RPl (Hp.of W) cs x := by
  obtain ⟨a, l, k, e, h1, h2, _⟩ := sl_of (N := N) Try.underlying36 cells_Pl (by omega) (RPl (Hp.of W)) (fun cs d ps fuel h hb hf => pl_of N cs d ps fuel h (by omega) hf) (of_decide_eq_true (by kernel_rfl)) h hb hf
  exact ⟨l, a, k, e, h1, h2⟩
end
end Go.CK
