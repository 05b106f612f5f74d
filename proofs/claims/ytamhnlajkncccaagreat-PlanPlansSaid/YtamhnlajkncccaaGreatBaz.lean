/-
  Texts of this claim joined (wip/gen/bundle.py), those declarations only that are needed: RdPlz. By an AI agent.
-/
import Derived.Test.YtamhnlajkncccaaGreatBay
import Derived.Test.YtamhnlajkncccaaGreatBaa
set_option linter.unusedSimpArgs false
set_option linter.unusedVariables false
namespace Go.CK
open Go.RowKit Go.Proofs Go.ChangeShapes Go.WideShapes Go.ChangeAt
open Go.Proofs.YtamhnlajkncccaaGreat.Rows (uptoBulk uptoBulkAll uptoSmall)
section
variable {H : Type} {enc : TypeId × Value → H} {W : World} {spare : Nat → Bool} {held : Bool}
theorem bool_of {fuel : Nat} {cs : List Value} {d : DataW H} {ps : List MemPlace} (h : DataW.trod enc Tryz.prog W 0 spare held fuel 4 cs = some (d, ps)) : ∃ b, cs = [.bool b] := by
  obtain ⟨n, h1, _⟩ := DataW.trod_bool Tryz.underlying4 h
  exact ⟨n, h1⟩

theorem trod_struct6 {P : Program} {base : Nat} {t : TypeId} {f0 f1 f2 f3 f4 f5 : Field} {fuel : Nat} {cs : List Value} {x : DataW H × List MemPlace} (ht : P.underlying t = some (.struct #[f0, f1, f2, f3, f4, f5])) (h : DataW.trod enc P W base spare held fuel t cs = some x) :
    ∃ y0 y1 y2 y3 y4 y5 n, x = (.agg [y0.1, y1.1, y2.1, y3.1, y4.1, y5.1], y0.2 ++ (y1.2 ++ (y2.2 ++ (y3.2 ++ (y4.2 ++ y5.2))))) ∧ cs.length = P.cellsOf t ∧ DataW.trod enc P W base spare held n f0.type ((cs.drop f0.offset).take (P.cellsOf f0.type)) = some y0 ∧ DataW.trod enc P W base spare held n f1.type ((cs.drop f1.offset).take (P.cellsOf f1.type)) = some y1 ∧ DataW.trod enc P W base spare held n f2.type ((cs.drop f2.offset).take (P.cellsOf f2.type)) = some y2 ∧ DataW.trod enc P W base spare held n f3.type ((cs.drop f3.offset).take (P.cellsOf f3.type)) = some y3 ∧ DataW.trod enc P W base spare held n f4.type ((cs.drop f4.offset).take (P.cellsOf f4.type)) = some y4 ∧ DataW.trod enc P W base spare held n f5.type ((cs.drop f5.offset).take (P.cellsOf f5.type)) = some y5 := by
  obtain ⟨xs, n, _, rfl, hl, hlen, hf⟩ := DataW.trod_struct ht h
  match xs, hlen with
  | [y0, y1, y2, y3, y4, y5], _ => exact ⟨y0, y1, y2, y3, y4, y5, n, by simp, hl, by simpa using hf 0 f0 rfl, by simpa using hf 1 f1 rfl, by simpa using hf 2 f2 rfl, by simpa using hf 3 f3 rfl, by simpa using hf 4 f4 rfl, by simpa using hf 5 f5 rfl⟩
set_option maxRecDepth 100000 in
theorem lint_of (N : Nat) (hN : 0 ≤ N) (cs : List Value) (d : DataW H) (ps : List MemPlace) (fuel : Nat) (h : DataW.trod enc Tryz.prog W 0 spare held fuel 34 cs = some (d, ps)) (hb : uptoBulk d ≤ N) (hf : Fit Tryz.prog 34 d) : ∃ x, RSl 1 RInt (Hp.of W) cs x := by
  obtain ⟨a, l, k, e, h1, h2, _⟩ := sl_of (N := N) Tryz.underlying34 cellsInt (by omega) (RInt (Hp.of W)) hN (fun cs d ps fuel h _ _ => let ⟨n, e, i⟩ := int_of h; ⟨n, e, i⟩) (of_decide_eq_true (by kernel_rfl)) h hb hf
  exact ⟨l, a, k, e, h1, h2⟩
theorem cells_Lint : Tryz.prog.cellsOf 34 = 1 := by kernel_rfl
theorem cells_Ky : Tryz.prog.cellsOf 42 = 3 := by kernel_rfl
set_option maxRecDepth 100000 in
theorem ky_of (N : Nat) (hN : 0 ≤ N) (cs : List Value) (d : DataW H) (ps : List MemPlace) (fuel : Nat) (h : DataW.trod enc Tryz.prog W 0 spare held fuel 42 cs = some (d, ps)) (hb : uptoBulk d ≤ N) (hf : Fit Tryz.prog 42 d) : ∃ x, RKy (Hp.of W) cs x := by
  obtain ⟨y0, y1, y2, n, hx, hl, h0, h1, h2⟩ := Deep.trod_struct3 Tryz.underlying42 h
  simp only [Prod.mk.injEq] at hx
  obtain ⟨rfl, _⟩ := hx
  obtain ⟨F0, F1, F2, _⟩ := Fit.agg Tryz.underlying42 hf
  rw [cells_Ky] at hl
  match cs, hl with
  | [c0, c1, c2], _ =>
    simp only [cellsStr, cellsInt, cells_Lint, List.drop_zero, List.drop_succ_cons, List.take_succ_cons, List.take_zero] at h0 h1 h2
    simp only [uptoBulk, uptoBulkAll] at hb
    obtain ⟨v0, e0, i0⟩ := str_of (N := N) h0 (by omega) F0
    obtain ⟨v1, e1, i1⟩ := int_of h1
    obtain ⟨v2, a2, k2, e2, l2, s2⟩ := lint_of N hN _ _ _ _ h2 (by omega) F2
    simp only [List.cons.injEq, and_true] at e0 e1 e2
    subst e0
    subst e1
    subst e2
    exact ⟨⟨v0, v1, v2⟩, a2, k2, rfl, i0, i1, l2, s2⟩
set_option maxRecDepth 100000 in
theorem lky_of (N : Nat) (hN : 0 ≤ N) (cs : List Value) (d : DataW H) (ps : List MemPlace) (fuel : Nat) (h : DataW.trod enc Tryz.prog W 0 spare held fuel 26 cs = some (d, ps)) (hb : uptoBulk d ≤ N) (hf : Fit Tryz.prog 26 d) : ∃ x, RSl 3 RKy (Hp.of W) cs x := by
  obtain ⟨a, l, k, e, h1, h2, _⟩ := sl_of (N := N) Tryz.underlying26 cells_Ky (by omega) (RKy (Hp.of W)) hN (fun cs d ps fuel h hb hf => ky_of N hN cs d ps fuel h (by omega) hf) (of_decide_eq_true (by kernel_rfl)) h hb hf
  exact ⟨l, a, k, e, h1, h2⟩
theorem cells_bool : Tryz.prog.cellsOf 4 = 1 := by kernel_rfl
theorem cells_Oc : Tryz.prog.cellsOf 28 = 3 := by kernel_rfl
set_option maxRecDepth 100000 in
theorem oc_of (N : Nat) (_hN : 0 ≤ N) (cs : List Value) (d : DataW H) (ps : List MemPlace) (fuel : Nat) (h : DataW.trod enc Tryz.prog W 0 spare held fuel 28 cs = some (d, ps)) (hb : uptoBulk d ≤ N) (hf : Fit Tryz.prog 28 d) : ∃ x, ROc (Hp.of W) cs x := by
  obtain ⟨y0, y1, y2, n, hx, hl, h0, h1, h2⟩ := Deep.trod_struct3 Tryz.underlying28 h
  simp only [Prod.mk.injEq] at hx
  obtain ⟨rfl, _⟩ := hx
  obtain ⟨F0, F1, F2, _⟩ := Fit.agg Tryz.underlying28 hf
  rw [cells_Oc] at hl
  match cs, hl with
  | [c0, c1, c2], _ =>
    simp only [cellsInt, cells_bool, List.drop_zero, List.drop_succ_cons, List.take_succ_cons, List.take_zero] at h0 h1 h2
    simp only [uptoBulk, uptoBulkAll] at hb
    obtain ⟨v0, e0, i0⟩ := int_of h0
    obtain ⟨v1, e1, i1⟩ := int_of h1
    obtain ⟨v2, e2⟩ := bool_of h2
    simp only [List.cons.injEq, and_true] at e0 e1 e2
    subst e0
    subst e1
    subst e2
    exact ⟨⟨v0, v1, v2⟩, rfl, i0, i1⟩
theorem cells_Dc : Tryz.prog.cellsOf 169 = 2 := by kernel_rfl
set_option maxRecDepth 100000 in
theorem dc_of (N : Nat) (_hN : 0 ≤ N) (cs : List Value) (d : DataW H) (ps : List MemPlace) (fuel : Nat) (h : DataW.trod enc Tryz.prog W 0 spare held fuel 169 cs = some (d, ps)) (hb : uptoBulk d ≤ N) (hf : Fit Tryz.prog 169 d) : ∃ x, RDc (Hp.of W) cs x := by
  obtain ⟨y0, y1, n, hx, hl, h0, h1⟩ := trod_struct2 Tryz.underlying169 h
  simp only [Prod.mk.injEq] at hx
  obtain ⟨rfl, _⟩ := hx
  obtain ⟨F0, F1, _⟩ := Fit.agg Tryz.underlying169 hf
  rw [cells_Dc] at hl
  match cs, hl with
  | [c0, c1], _ =>
    simp only [cellsStr, cellsInt, List.drop_zero, List.drop_succ_cons, List.take_succ_cons, List.take_zero] at h0 h1
    simp only [uptoBulk, uptoBulkAll] at hb
    obtain ⟨v0, e0, i0⟩ := str_of (N := N) h0 (by omega) F0
    obtain ⟨v1, e1, i1⟩ := int_of h1
    simp only [List.cons.injEq, and_true] at e0 e1
    subst e0
    subst e1
    exact ⟨⟨v0, v1⟩, rfl, i0, i1⟩
set_option maxRecDepth 100000 in
theorem ldc_of (N : Nat) (hN : 0 ≤ N) (cs : List Value) (d : DataW H) (ps : List MemPlace) (fuel : Nat) (h : DataW.trod enc Tryz.prog W 0 spare held fuel 22 cs = some (d, ps)) (hb : uptoBulk d ≤ N) (hf : Fit Tryz.prog 22 d) : ∃ x, RSl 2 RDc (Hp.of W) cs x := by
  obtain ⟨a, l, k, e, h1, h2, _⟩ := sl_of (N := N) Tryz.underlying22 cells_Dc (by omega) (RDc (Hp.of W)) hN (fun cs d ps fuel h hb hf => dc_of N hN cs d ps fuel h (by omega) hf) (of_decide_eq_true (by kernel_rfl)) h hb hf
  exact ⟨l, a, k, e, h1, h2⟩
set_option maxRecDepth 100000 in
theorem ltm_of (N : Nat) (hN : 0 ≤ N) (cs : List Value) (d : DataW H) (ps : List MemPlace) (fuel : Nat) (h : DataW.trod enc Tryz.prog W 0 spare held fuel 47 cs = some (d, ps)) (hb : uptoBulk d ≤ N) (hf : Fit Tryz.prog 47 d) : ∃ x, RSl 4 RTm (Hp.of W) cs x := by
  obtain ⟨a, l, k, e, h1, h2, _⟩ := sl_of (N := N) Tryz.underlying47 cellsTm (by omega) (RTm (Hp.of W)) hN (fun cs d ps fuel h hb hf => tm_of N hN cs d ps fuel h (by omega) hf) (of_decide_eq_true (by kernel_rfl)) h hb hf
  exact ⟨l, a, k, e, h1, h2⟩
theorem cells_At : Tryz.prog.cellsOf 49 = 2 := by kernel_rfl
set_option maxRecDepth 100000 in
theorem at_of (N : Nat) (hN : 0 ≤ N) (cs : List Value) (d : DataW H) (ps : List MemPlace) (fuel : Nat) (h : DataW.trod enc Tryz.prog W 0 spare held fuel 49 cs = some (d, ps)) (hb : uptoBulk d ≤ N) (hf : Fit Tryz.prog 49 d) : ∃ x, RAt (Hp.of W) cs x := by
  obtain ⟨y0, y1, n, hx, hl, h0, h1⟩ := trod_struct2 Tryz.underlying49 h
  simp only [Prod.mk.injEq] at hx
  obtain ⟨rfl, _⟩ := hx
  obtain ⟨F0, F1, _⟩ := Fit.agg Tryz.underlying49 hf
  rw [cells_At] at hl
  match cs, hl with
  | [c0, c1], _ =>
    simp only [cellsStr, cellsTms, List.drop_zero, List.drop_succ_cons, List.take_succ_cons, List.take_zero] at h0 h1
    simp only [uptoBulk, uptoBulkAll] at hb
    obtain ⟨v0, e0, i0⟩ := str_of (N := N) h0 (by omega) F0
    obtain ⟨v1, a1, k1, e1, l1, s1⟩ := ltm_of N hN _ _ _ _ h1 (by omega) F1
    simp only [List.cons.injEq, and_true] at e0 e1
    subst e0
    subst e1
    exact ⟨⟨v0, v1⟩, a1, k1, rfl, i0, l1, s1⟩
set_option maxRecDepth 100000 in
theorem lat_of (N : Nat) (hN : 0 ≤ N) (cs : List Value) (d : DataW H) (ps : List MemPlace) (fuel : Nat) (h : DataW.trod enc Tryz.prog W 0 spare held fuel 43 cs = some (d, ps)) (hb : uptoBulk d ≤ N) (hf : Fit Tryz.prog 43 d) : ∃ x, RSl 2 RAt (Hp.of W) cs x := by
  obtain ⟨a, l, k, e, h1, h2, _⟩ := sl_of (N := N) Tryz.underlying43 cells_At (by omega) (RAt (Hp.of W)) hN (fun cs d ps fuel h hb hf => at_of N hN cs d ps fuel h (by omega) hf) (of_decide_eq_true (by kernel_rfl)) h hb hf
  exact ⟨l, a, k, e, h1, h2⟩
theorem cells_Gl : Tryz.prog.cellsOf 97 = 3 := by kernel_rfl
set_option maxRecDepth 100000 in
theorem gl_of (N : Nat) (hN : 0 ≤ N) (cs : List Value) (d : DataW H) (ps : List MemPlace) (fuel : Nat) (h : DataW.trod enc Tryz.prog W 0 spare held fuel 97 cs = some (d, ps)) (hb : uptoBulk d ≤ N) (hf : Fit Tryz.prog 97 d) : ∃ x, RGl (Hp.of W) cs x := by
  obtain ⟨y0, y1, y2, n, hx, hl, h0, h1, h2⟩ := Deep.trod_struct3 Tryz.underlying97 h
  simp only [Prod.mk.injEq] at hx
  obtain ⟨rfl, _⟩ := hx
  obtain ⟨F0, F1, F2, _⟩ := Fit.agg Tryz.underlying97 hf
  rw [cells_Gl] at hl
  match cs, hl with
  | [c0, c1, c2], _ =>
    simp only [cellsInt, cellsStr, cellsTms, List.drop_zero, List.drop_succ_cons, List.take_succ_cons, List.take_zero] at h0 h1 h2
    simp only [uptoBulk, uptoBulkAll] at hb
    obtain ⟨v0, e0, i0⟩ := int_of h0
    obtain ⟨v1, e1, i1⟩ := str_of (N := N) h1 (by omega) F1
    obtain ⟨v2, a2, k2, e2, l2, s2⟩ := ltm_of N hN _ _ _ _ h2 (by omega) F2
    simp only [List.cons.injEq, and_true] at e0 e1 e2
    subst e0
    subst e1
    subst e2
    exact ⟨⟨v0, v1, v2⟩, a2, k2, rfl, i0, i1, l2, s2⟩
set_option maxRecDepth 100000 in
theorem lgl_of (N : Nat) (hN : 0 ≤ N) (cs : List Value) (d : DataW H) (ps : List MemPlace) (fuel : Nat) (h : DataW.trod enc Tryz.prog W 0 spare held fuel 44 cs = some (d, ps)) (hb : uptoBulk d ≤ N) (hf : Fit Tryz.prog 44 d) : ∃ x, RSl 3 RGl (Hp.of W) cs x := by
  obtain ⟨a, l, k, e, h1, h2, _⟩ := sl_of (N := N) Tryz.underlying44 cells_Gl (by omega) (RGl (Hp.of W)) hN (fun cs d ps fuel h hb hf => gl_of N hN cs d ps fuel h (by omega) hf) (of_decide_eq_true (by kernel_rfl)) h hb hf
  exact ⟨l, a, k, e, h1, h2⟩
theorem cells_LAt : Tryz.prog.cellsOf 43 = 1 := by kernel_rfl
theorem cells_LGl : Tryz.prog.cellsOf 44 = 1 := by kernel_rfl
theorem cells_Rl : Tryz.prog.cellsOf 46 = 6 := by kernel_rfl
set_option maxRecDepth 100000 in
theorem rl_of (N : Nat) (hN : 0 ≤ N) (cs : List Value) (d : DataW H) (ps : List MemPlace) (fuel : Nat) (h : DataW.trod enc Tryz.prog W 0 spare held fuel 46 cs = some (d, ps)) (hb : uptoBulk d ≤ N) (hf : Fit Tryz.prog 46 d) : ∃ x, RRl (Hp.of W) cs x := by
  obtain ⟨y0, y1, y2, y3, y4, y5, n, hx, hl, h0, h1, h2, h3, h4, h5⟩ := trod_struct6 Tryz.underlying46 h
  simp only [Prod.mk.injEq] at hx
  obtain ⟨rfl, _⟩ := hx
  obtain ⟨F0, F1, F2, F3, F4, F5, _⟩ := Fit.agg Tryz.underlying46 hf
  rw [cells_Rl] at hl
  match cs, hl with
  | [c0, c1, c2, c3, c4, c5], _ =>
    simp only [cellsStr, cells_LAt, cells_LGl, cellsInt, List.drop_zero, List.drop_succ_cons, List.take_succ_cons, List.take_zero] at h0 h1 h2 h3 h4 h5
    simp only [uptoBulk, uptoBulkAll] at hb
    obtain ⟨v0, e0, i0⟩ := str_of (N := N) h0 (by omega) F0
    obtain ⟨v1, a1, k1, e1, l1, s1⟩ := lat_of N hN _ _ _ _ h1 (by omega) F1
    obtain ⟨v2, a2, k2, e2, l2, s2⟩ := lat_of N hN _ _ _ _ h2 (by omega) F2
    obtain ⟨v3, a3, k3, e3, l3, s3⟩ := lgl_of N hN _ _ _ _ h3 (by omega) F3
    obtain ⟨v4, a4, k4, e4, l4, s4⟩ := lgl_of N hN _ _ _ _ h4 (by omega) F4
    obtain ⟨v5, e5, i5⟩ := int_of h5
    simp only [List.cons.injEq, and_true] at e0 e1 e2 e3 e4 e5
    subst e0
    subst e1
    subst e2
    subst e3
    subst e4
    subst e5
    exact ⟨⟨v0, v1, v2, v3, v4, v5⟩, a1, k1, a2, k2, a3, k3, a4, k4, rfl, i0, l1, s1, l2, s2, l3, s3, l4, s4, i5⟩
set_option maxRecDepth 100000 in
theorem lrl_of (N : Nat) (hN : 0 ≤ N) (cs : List Value) (d : DataW H) (ps : List MemPlace) (fuel : Nat) (h : DataW.trod enc Tryz.prog W 0 spare held fuel 23 cs = some (d, ps)) (hb : uptoBulk d ≤ N) (hf : Fit Tryz.prog 23 d) : ∃ x, RSl 6 RRl (Hp.of W) cs x := by
  obtain ⟨a, l, k, e, h1, h2, _⟩ := sl_of (N := N) Tryz.underlying23 cells_Rl (by omega) (RRl (Hp.of W)) hN (fun cs d ps fuel h hb hf => rl_of N hN cs d ps fuel h (by omega) hf) (of_decide_eq_true (by kernel_rfl)) h hb hf
  exact ⟨l, a, k, e, h1, h2⟩
theorem cells_LDc : Tryz.prog.cellsOf 22 = 1 := by kernel_rfl
theorem cells_LRl : Tryz.prog.cellsOf 23 = 1 := by kernel_rfl
theorem cells_Pg : Tryz.prog.cellsOf 25 = 2 := by kernel_rfl
set_option maxRecDepth 100000 in
theorem pg_of (N : Nat) (hN : 0 ≤ N) (cs : List Value) (d : DataW H) (ps : List MemPlace) (fuel : Nat) (h : DataW.trod enc Tryz.prog W 0 spare held fuel 25 cs = some (d, ps)) (hb : uptoBulk d ≤ N) (hf : Fit Tryz.prog 25 d) : ∃ x, RPg (Hp.of W) cs x := by
  obtain ⟨y0, y1, n, hx, hl, h0, h1⟩ := trod_struct2 Tryz.underlying25 h
  simp only [Prod.mk.injEq] at hx
  obtain ⟨rfl, _⟩ := hx
  obtain ⟨F0, F1, _⟩ := Fit.agg Tryz.underlying25 hf
  rw [cells_Pg] at hl
  match cs, hl with
  | [c0, c1], _ =>
    simp only [cells_LDc, cells_LRl, List.drop_zero, List.drop_succ_cons, List.take_succ_cons, List.take_zero] at h0 h1
    simp only [uptoBulk, uptoBulkAll] at hb
    obtain ⟨v0, a0, k0, e0, l0, s0⟩ := ldc_of N hN _ _ _ _ h0 (by omega) F0
    obtain ⟨v1, a1, k1, e1, l1, s1⟩ := lrl_of N hN _ _ _ _ h1 (by omega) F1
    simp only [List.cons.injEq, and_true] at e0 e1
    subst e0
    subst e1
    exact ⟨⟨v0, v1⟩, a0, k0, a1, k1, rfl, l0, s0, l1, s1⟩
end
end Go.CK

