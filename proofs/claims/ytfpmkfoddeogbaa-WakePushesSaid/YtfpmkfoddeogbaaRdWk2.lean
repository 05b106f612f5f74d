/-
  WHAT COMES IN, READ: an array of two lists of numbers. By an AI agent.
-/
import Derived.Test.YtfpmkfoddeogbaaRdWak
import Derived.Test.YtfpmkfoddeogbaaAv
namespace Go.CK
open Go.RowKit Go.Proofs Go.ChangeShapes Go.WideShapes Go.ChangeAt Go.AM
open Go.Proofs.Ytfpmkfoddeogbaa.Rows (uptoBulk uptoBulkAll)
theorem okWide_arr2 {P : Program} {w : World} {r : Reach} {base n : Nat} {t e : TypeId} {v : Value} (ht : P.underlying t = some (.array n e)) (h : Value.okWide P w r base t v) : ∃ cs, v = .agg cs ∧ cs.size = P.cellsOf t := by
  simp only [Value.okWide, ht] at h
  obtain ⟨cs, h1, h2, _⟩ := h
  exact ⟨cs, h1, h2⟩
section
variable {H : Type} {enc : TypeId × Value → H} {W : World} {spare : Nat → Bool} {held : Bool}
theorem cells_2Lint : Try.prog.cellsOf 55 = 2 := by kernel_rfl
theorem cells_1Lint : Try.prog.cellsOf 26 = 1 := by kernel_rfl
set_option maxRecDepth 100000 in
theorem a2int_of (N : Nat) (cs : List Value) (d : DataW H) (ps : List MemPlace) (fuel : Nat) (h : DataW.trod enc Try.prog W 0 spare held fuel 55 cs = some (d, ps)) (hb : uptoBulk d ≤ N) : ∃ x y, FV (Hp.of W) (.agg [slA intA x, slA intA y]) (.agg cs.toArray) := by
  obtain ⟨xs, m, _, hx, hl, hlen, hel⟩ := DataW.trod_array Try.underlying55 h
  simp only [Prod.mk.injEq] at hx
  obtain ⟨rfl, _⟩ := hx
  rw [cells_2Lint] at hl
  match cs, hl, xs, hlen with
  | [c0, c1], _, [x0, x1], _ =>
    have h0 := hel 0 (by omega)
    have h1 := hel 1 (by omega)
    rw [cells_1Lint] at h0 h1
    simp only [Nat.zero_mul, Nat.one_mul, List.drop_zero, List.drop_succ_cons, List.take_succ_cons, List.take_zero, List.getElem?_cons_zero, List.getElem?_cons_succ] at h0 h1
    simp only [List.map_cons, List.map_nil, uptoBulk, uptoBulkAll] at hb
    obtain ⟨x, hx⟩ := lint_of N [c0] x0.1 x0.2 m h0 (by omega)
    obtain ⟨y, hy⟩ := lint_of N [c1] x1.1 x1.2 m h1 (by omega)
    have q0 := RSl.cf hx (f := intA) (fun _ _ _ hc => RInt.cf hc)
    have q1 := RSl.cf hy (f := intA) (fun _ _ _ hc => RInt.cf hc)
    refine ⟨x, y, CF.agg (c := [c0, c1]) (CF.app (c := [c0]) (d := [c1]) q0.1 q1.1) fun u hu => ?_⟩
    rcases List.mem_cons.1 hu with rfl | hu
    · exact q0.2 _ (by simp)
    · exact q1.2 _ hu
end
end Go.CK
