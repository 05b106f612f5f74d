/-
  WHAT COMES IN, READ: structs. Printed by wip/gen/data.py. By an AI agent.
-/
import Derived.Test.YtfpmkfoddeogbaaRead
import Derived.Test.YtfpmkfoddeogbaaData
namespace Go.CK
open Go.RowKit Go.Proofs Go.ChangeShapes Go.WideShapes Go.ChangeAt
open Go.Proofs.Ytfpmkfoddeogbaa.Rows (uptoBulk uptoBulkAll)
section
variable {H : Type} {enc : TypeId × Value → H} {W : World} {spare : Nat → Bool} {held : Bool}
theorem bool_of {fuel : Nat} {cs : List Value} {d : DataW H} {ps : List MemPlace} (h : DataW.trod enc Try.prog W 0 spare held fuel 4 cs = some (d, ps)) : ∃ b, cs = [.bool b] := by
  obtain ⟨n, h1, _⟩ := DataW.trod_bool Try.underlying4 h
  exact ⟨n, h1⟩

set_option maxRecDepth 100000 in
theorem lint_of (N : Nat) (cs : List Value) (d : DataW H) (ps : List MemPlace) (fuel : Nat) (h : DataW.trod enc Try.prog W 0 spare held fuel 26 cs = some (d, ps)) (hb : uptoBulk d ≤ N) : ∃ x, RSl 1 RInt (Hp.of W) cs x := by
  obtain ⟨a, l, k, e, h1, h2, _⟩ := sl_of (N := N) Try.underlying26 cellsInt (by omega) (RInt (Hp.of W)) (fun cs d ps fuel h _ => let ⟨n, e, i⟩ := int_of h; ⟨n, e, i⟩) h hb
  exact ⟨l, a, k, e, h1, h2⟩
set_option maxRecDepth 100000 in
theorem ltm_of (N : Nat) (cs : List Value) (d : DataW H) (ps : List MemPlace) (fuel : Nat) (h : DataW.trod enc Try.prog W 0 spare held fuel 47 cs = some (d, ps)) (hb : uptoBulk d ≤ N) : ∃ x, RSl 4 RTm (Hp.of W) cs x := by
  obtain ⟨a, l, k, e, h1, h2, _⟩ := sl_of (N := N) Try.underlying47 cellsTm (by omega) (RTm (Hp.of W)) (fun cs d ps fuel h hb => tm_of N cs d ps fuel h (by omega)) h hb
  exact ⟨l, a, k, e, h1, h2⟩
theorem cells_At : Try.prog.cellsOf 76 = 2 := by kernel_rfl
set_option maxRecDepth 100000 in
theorem at_of (N : Nat) (cs : List Value) (d : DataW H) (ps : List MemPlace) (fuel : Nat) (h : DataW.trod enc Try.prog W 0 spare held fuel 76 cs = some (d, ps)) (hb : uptoBulk d ≤ N) : ∃ x, RAt (Hp.of W) cs x := by
  obtain ⟨y0, y1, n, hx, hl, h0, h1⟩ := trod_struct2 Try.underlying76 h
  simp only [Prod.mk.injEq] at hx
  obtain ⟨rfl, _⟩ := hx
  rw [cells_At] at hl
  match cs, hl with
  | [c0, c1], _ =>
    simp only [cellsStr, cellsTms, List.drop_zero, List.drop_succ_cons, List.take_succ_cons, List.take_zero] at h0 h1
    simp only [uptoBulk, uptoBulkAll] at hb
    obtain ⟨v0, e0, i0⟩ := str_of h0
    obtain ⟨v1, a1, k1, e1, l1, s1⟩ := ltm_of N _ _ _ _ h1 (by omega)
    simp only [List.cons.injEq, and_true] at e0 e1
    subst e0
    subst e1
    exact ⟨⟨v0, v1⟩, a1, k1, rfl, i0, l1, s1⟩
theorem cells_It : Try.prog.cellsOf 108 = 3 := by kernel_rfl
set_option maxRecDepth 100000 in
theorem it_of (N : Nat) (cs : List Value) (d : DataW H) (ps : List MemPlace) (fuel : Nat) (h : DataW.trod enc Try.prog W 0 spare held fuel 108 cs = some (d, ps)) (hb : uptoBulk d ≤ N) : ∃ x, RIt (Hp.of W) cs x := by
  obtain ⟨y0, y1, n, hx, hl, h0, h1⟩ := trod_struct2 Try.underlying108 h
  simp only [Prod.mk.injEq] at hx
  obtain ⟨rfl, _⟩ := hx
  rw [cells_It] at hl
  match cs, hl with
  | [c0, c1, c2], _ =>
    simp only [cellsInt, cells_At, List.drop_zero, List.drop_succ_cons, List.take_succ_cons, List.take_zero] at h0 h1
    simp only [uptoBulk, uptoBulkAll] at hb
    obtain ⟨v0, e0, i0⟩ := int_of h0
    obtain ⟨v1, e1⟩ := at_of N _ _ _ _ h1 (by omega)
    simp only [List.cons.injEq, and_true] at e0
    subst e0
    exact ⟨⟨v0, v1⟩, _, rfl, i0, e1⟩
set_option maxRecDepth 100000 in
theorem lit_of (N : Nat) (cs : List Value) (d : DataW H) (ps : List MemPlace) (fuel : Nat) (h : DataW.trod enc Try.prog W 0 spare held fuel 50 cs = some (d, ps)) (hb : uptoBulk d ≤ N) : ∃ x, RSl 3 RIt (Hp.of W) cs x := by
  obtain ⟨a, l, k, e, h1, h2, _⟩ := sl_of (N := N) Try.underlying50 cells_It (by omega) (RIt (Hp.of W)) (fun cs d ps fuel h hb => it_of N cs d ps fuel h (by omega)) h hb
  exact ⟨l, a, k, e, h1, h2⟩
theorem cells_Gl : Try.prog.cellsOf 64 = 3 := by kernel_rfl
set_option maxRecDepth 100000 in
theorem gl_of (N : Nat) (cs : List Value) (d : DataW H) (ps : List MemPlace) (fuel : Nat) (h : DataW.trod enc Try.prog W 0 spare held fuel 64 cs = some (d, ps)) (hb : uptoBulk d ≤ N) : ∃ x, RGl (Hp.of W) cs x := by
  obtain ⟨y0, y1, y2, n, hx, hl, h0, h1, h2⟩ := Deep.trod_struct3 Try.underlying64 h
  simp only [Prod.mk.injEq] at hx
  obtain ⟨rfl, _⟩ := hx
  rw [cells_Gl] at hl
  match cs, hl with
  | [c0, c1, c2], _ =>
    simp only [cellsInt, cellsStr, cellsTms, List.drop_zero, List.drop_succ_cons, List.take_succ_cons, List.take_zero] at h0 h1 h2
    simp only [uptoBulk, uptoBulkAll] at hb
    obtain ⟨v0, e0, i0⟩ := int_of h0
    obtain ⟨v1, e1, i1⟩ := str_of h1
    obtain ⟨v2, a2, k2, e2, l2, s2⟩ := ltm_of N _ _ _ _ h2 (by omega)
    simp only [List.cons.injEq, and_true] at e0 e1 e2
    subst e0
    subst e1
    subst e2
    exact ⟨⟨v0, v1, v2⟩, a2, k2, rfl, i0, i1, l2, s2⟩
theorem cells_Fm : Try.prog.cellsOf 66 = 5 := by kernel_rfl
set_option maxRecDepth 100000 in
theorem fm_of (N : Nat) (cs : List Value) (d : DataW H) (ps : List MemPlace) (fuel : Nat) (h : DataW.trod enc Try.prog W 0 spare held fuel 66 cs = some (d, ps)) (hb : uptoBulk d ≤ N) : ∃ x, RFm (Hp.of W) cs x := by
  obtain ⟨y0, y1, y2, n, hx, hl, h0, h1, h2⟩ := Deep.trod_struct3 Try.underlying66 h
  simp only [Prod.mk.injEq] at hx
  obtain ⟨rfl, _⟩ := hx
  rw [cells_Fm] at hl
  match cs, hl with
  | [c0, c1, c2, c3, c4], _ =>
    simp only [cells_Gl, cellsInt, List.drop_zero, List.drop_succ_cons, List.take_succ_cons, List.take_zero] at h0 h1 h2
    simp only [uptoBulk, uptoBulkAll] at hb
    obtain ⟨v0, e0⟩ := gl_of N _ _ _ _ h0 (by omega)
    obtain ⟨v1, e1, i1⟩ := int_of h1
    obtain ⟨v2, e2, i2⟩ := int_of h2
    simp only [List.cons.injEq, and_true] at e1 e2
    subst e1
    subst e2
    exact ⟨⟨v0, v1, v2⟩, _, rfl, e0, i1, i2⟩
set_option maxRecDepth 100000 in
theorem lfm_of (N : Nat) (cs : List Value) (d : DataW H) (ps : List MemPlace) (fuel : Nat) (h : DataW.trod enc Try.prog W 0 spare held fuel 54 cs = some (d, ps)) (hb : uptoBulk d ≤ N) : ∃ x, RSl 5 RFm (Hp.of W) cs x := by
  obtain ⟨a, l, k, e, h1, h2, _⟩ := sl_of (N := N) Try.underlying54 cells_Fm (by omega) (RFm (Hp.of W)) (fun cs d ps fuel h hb => fm_of N cs d ps fuel h (by omega)) h hb
  exact ⟨l, a, k, e, h1, h2⟩
end
end Go.CK
