/-
  OUT OF THE ABSTRACT MACHINE: a contract, as a call. No function of the program is named here. By an AI agent.
-/
import Derived.Test.YtamhnlajkncccaaDoorAv
set_option linter.unusedSimpArgs false
set_option linter.unusedVariables false
namespace Go.CK
open Go.RowKit Go.AM

def AllFV (M : Hp) : List AV → List Value → Prop
  | [], [] => True
  | x :: xs, v :: vs => FV M x v ∧ AllFV M xs vs
  | _, _ => False
theorem AllFV.len {M : Hp} : ∀ {xs : List AV} {vs : List Value}, AllFV M xs vs → vs.length = xs.length
  | [], [], _ => rfl
  | _ :: xs, _ :: vs, h => by simp [AllFV.len h.2]
  | [], _ :: _, h => h.elim
  | _ :: _, [], h => h.elim
theorem AllFV.get {M : Hp} : ∀ {xs : List AV} {vs : List Value}, AllFV M xs vs → ∀ j (h : j < xs.length) v, vs[j]? = some v → FV M xs[j] v
  | [], [], _, j, h, _, _ => by cases h
  | _ :: xs, _ :: vs, h, 0, _, v, hv => by
    simp only [List.getElem?_cons_zero, Option.some.injEq] at hv
    subst hv; exact h.1
  | _ :: xs, _ :: vs, h, j + 1, hj, v, hv => AllFV.get h.2 j (by simpa using hj) v (by simpa using hv)
  | [], _ :: _, h, _, _, _, _ => h.elim
  | _ :: _, [], h, _, _, _, _ => h.elim
theorem Fun.calls {P : Program} {f : FuncId} {vals : List AV} {b : Bool} (h : Fun P f vals (.bool b)) {w : World} {args : List Value} (ha : AllFV (Hp.of w) vals args) :
    Calls P f args.toArray w fun e w' => e = .returned (.bool b) ∧ Ext w w' := by
  refine (((h []).mono (Q' := fun r _ => r = .bool b) fun r bs hq => hq.1).calls (Hp.le_refl _) ha.len ha.get).mono ?_
  rintro e w' ⟨v, r, bs', M', σ, n, rfl, rfl, hv, hx, _⟩
  exact ⟨by rw [hv.inv_bool], hx⟩
end Go.CK
