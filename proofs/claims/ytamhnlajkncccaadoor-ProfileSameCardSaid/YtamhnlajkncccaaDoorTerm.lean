/-
  THE DATA OF THE PROGRAM, PLAIN: terms, constraints, goals, rules, programs, and what it means that cells read as them. No function of the program is named here. By an AI agent.
-/
import Derived.Test.YtamhnlajkncccaaDoorBase
set_option linter.unusedSimpArgs false
set_option linter.unusedVariables false
namespace Go.CK
open Go.RowKit

inductive Tm where
  | mk (kind num : Int) (name : ByteArray) (args : List Tm)

namespace Tm
def kind : Tm → Int | .mk k _ _ _ => k
def num : Tm → Int | .mk _ n _ _ => n
def name : Tm → ByteArray | .mk _ _ s _ => s
def args : Tm → List Tm | .mk _ _ _ l => l

mutual
def beq : Tm → Tm → Bool
  | .mk k n s l, .mk k' n' s' l' => decide (k = k') && (decide (n = n') && (decide (s = s') && beqs l l'))
def beqs : List Tm → List Tm → Bool
  | [], [] => true
  | a :: l, b :: m => beq a b && beqs l m
  | _, _ => false
end

mutual
theorem beq_iff : ∀ a b : Tm, beq a b = true ↔ a = b
  | .mk k n s l, .mk k' n' s' l' => by
    simp only [beq, Bool.and_eq_true, decide_eq_true_eq, beqs_iff l l', Tm.mk.injEq]
theorem beqs_iff : ∀ l m : List Tm, beqs l m = true ↔ l = m
  | [], [] => by simp [beqs]
  | [], _ :: _ => by simp [beqs]
  | _ :: _, [] => by simp [beqs]
  | a :: l, b :: m => by simp [beqs, beq_iff a b, beqs_iff l m]
end

instance : DecidableEq Tm := fun a b => decidable_of_iff (beq a b = true) (beq_iff a b)

mutual
def nodes : Tm → Nat
  | .mk _ _ _ l => nodess l + 1
def nodess : List Tm → Nat
  | [] => 0
  | a :: l => nodes a + nodess l
end
end Tm

mutual
theorem Tm.ind_all {p : Tm → Prop} (h : ∀ k n s l, (∀ t ∈ l, p t) → p (.mk k n s l)) : ∀ t, p t
  | .mk k n s l => h k n s l (Tm.ind_list h l)
theorem Tm.ind_list {p : Tm → Prop} (h : ∀ k n s l, (∀ t ∈ l, p t) → p (.mk k n s l)) : ∀ l : List Tm, ∀ t ∈ l, p t
  | [], _, ht => by cases ht
  | a :: l, t, ht => by
    exact (List.mem_cons.1 ht).elim (fun e => e ▸ Tm.ind_all h a) (fun h1 => Tm.ind_list h l t h1)
end
/-- induction over terms -/
theorem Tm.ind {p : Tm → Prop} (t : Tm) (h : ∀ k n s l, (∀ t ∈ l, p t) → p (.mk k n s l)) : p t := Tm.ind_all h t

theorem toList_inj {s t : ByteArray} : s.toList = t.toList ↔ s = t := by
  rw [ByteArray.toList_eq, ByteArray.toList_eq]
  exact ⟨fun h => ByteArray.ext (Array.toList_inj.mp h), fun h => by rw [h]⟩

/-- cs read as a term. -/
inductive RTm (H : Hp) : List Value → Tm → Prop
  | mk (k n : Int) (s : ByteArray) (a : Option Addr) (cap : Nat) (args : List Tm) (es : Nat → List Value) (bo : Nat × Nat)
    (hk : IntOk k) (hn : IntOk n) (hs : s.size ≤ lim) (hl : args.length ≤ lim) (hc : args.length ≤ cap) (ha : 0 < args.length → a = some ⟨bo.1, bo.2, none⟩)
    (hsz : ∀ i, i < args.length → (es i).length = 4) (hcell : ∀ i, i < args.length → ∀ j x, (es i)[j]? = some x → H bo.1 (bo.2 + i * 4 + j) = some x)
    (hr : ∀ i (h : i < args.length), RTm H (es i) args[i]) :
    RTm H [.int .i64 k, .int .i64 n, .string s, .slice a args.length cap] (.mk k n s args)

/-- what a slice of terms is -/
abbrev RTms (H : Hp) (a : Option Addr) (l : List Tm) : Prop := Sl H 4 (RTm H) a l

theorem RTm.inv {H : Hp} {cs : List Value} {k n : Int} {s : ByteArray} {l : List Tm} (h : RTm H cs (.mk k n s l)) :
    ∃ a cap, cs = [.int .i64 k, .int .i64 n, .string s, .slice a l.length cap] ∧ IntOk k ∧ IntOk n ∧ s.size ≤ lim ∧ l.length ≤ cap ∧ RTms H a l := by
  cases h with
  | mk k n s a cap args es bo hk hn hs hl hc ha hsz hcell hr =>
    exact ⟨a, cap, rfl, hk, hn, hs, hc, ⟨hl, fun i hi => ⟨bo.1, bo.2, es i, ha (by omega), hsz i hi, hcell i hi, hr i hi⟩⟩⟩

theorem RTm.intro {H : Hp} {k n : Int} {s : ByteArray} {a : Option Addr} {cap : Nat} {l : List Tm} (hk : IntOk k) (hn : IntOk n) (hs : s.size ≤ lim) (hc : l.length ≤ cap) (h : RTms H a l) :
    RTm H [.int .i64 k, .int .i64 n, .string s, .slice a l.length cap] (.mk k n s l) := by
  by_cases h0 : 0 < l.length
  · obtain ⟨b, o, ha⟩ := h.addr h0
    subst ha
    have hx : ∀ i, ∃ cs : List Value, i < l.length → cs.length = 4 ∧ (∀ j x, cs[j]? = some x → H b (o + i * 4 + j) = some x) ∧ ∀ hi : i < l.length, RTm H cs l[i] := by
      intro i
      by_cases hi : i < l.length
      · obtain ⟨b', o', cs, h1, h2, h3, h4⟩ := h.at_ i hi
        simp only [Option.some.injEq, Addr.mk.injEq, and_true] at h1
        obtain ⟨rfl, rfl⟩ := h1
        exact ⟨cs, fun _ => ⟨h2, h3, fun _ => h4⟩⟩
      · exact ⟨[], fun e => (hi e).elim⟩
    exact .mk k n s _ cap l (fun i => (hx i).choose) (b, o) hk hn hs h.le hc (fun _ => rfl) (fun i hi => ((hx i).choose_spec hi).1) (fun i hi => ((hx i).choose_spec hi).2.1) (fun i hi => ((hx i).choose_spec hi).2.2 hi)
  · exact .mk k n s a cap l (fun _ => []) (0, 0) hk hn hs h.le hc (fun e => (h0 e).elim) (fun i hi => by omega) (fun i hi => by omega) (fun i hi => by omega)

theorem RTm.mono {H H' : Hp} (hH : H.le H') : ∀ {cs : List Value} {t : Tm}, RTm H cs t → RTm H' cs t := by
  intro cs t h
  induction h with
  | mk k n s a cap args es bo hk hn hs hl hc ha hsz hcell hr ih =>
    exact .mk k n s a cap args es bo hk hn hs hl hc ha hsz (fun i hi j x hx => hH _ _ _ (hcell i hi j x hx)) ih

theorem RTms.mono {H H' : Hp} (hH : H.le H') {a : Option Addr} {l : List Tm} (h : RTms H a l) : RTms H' a l := Sl.mono h hH fun _ _ _ => RTm.mono hH

theorem up_RTm : Up RTm := fun _ _ _ _ h => RTm.mono h

theorem RTm.four {H : Hp} {cs : List Value} {t : Tm} (h : RTm H cs t) : ∃ c0 c1 c2 c3, cs = [c0, c1, c2, c3] := by
  cases h; exact ⟨_, _, _, _, rfl⟩

theorem RTm.shape {H : Hp} {cs : List Value} {t : Tm} (h : RTm H cs t) : ∃ a cap, cs = [.int .i64 t.kind, .int .i64 t.num, .string t.name, .slice a t.args.length cap] ∧ t.args.length ≤ cap ∧ RTms H a t.args := by
  obtain ⟨k, n, s, l⟩ := t
  obtain ⟨a, cap, rfl, _, _, _, h1, h2⟩ := h.inv
  exact ⟨a, cap, rfl, h1, h2⟩

theorem RTm.one {H : Hp} {cs : List Value} {t : Tm} (h : RTm H cs t) : ∀ u ∈ cs, u.oneCell' = true := by
  cases h; simp [Value.oneCell']

end Go.CK
