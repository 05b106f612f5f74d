/-
  THE ABSTRACT MACHINE, 11: regions, in the order of the text and in any order. No function of the program is named here. By an AI agent.
-/
import Derived.Test.YtamhnlajkncccaaDoorAmR
import Derived.OrdersIn
set_option linter.unusedSimpArgs false
set_option linter.unusedVariables false
namespace Go.AM
open Go.CK Go.RowKit

structure ROp where
  dst : Option Nat
  guard : Option (Nat × Bool)
  rx : RX
deriving Inhabited

/-- what a guard's value says, if the operation is done at want: a value of an operation that was left out says no -/
def gv (want : Bool) : AV → Option Bool
  | .bool b => some b
  | .tup [] => some (!want)
  | _ => none
def ROp.run (P : Program) (dr : Bool) (r : ROp) (s : St) (K : St → Prop) : Prop :=
  match r.guard with
  | none => r.rx.run P dr s r.dst K
  | some (g, want) => match gv want (s.ev (.t g)) with
    | some b => (b = want → r.rx.run P dr s r.dst K) ∧ (b ≠ want → K (s.put r.dst (.tup [])))
    | none => False

def opsK (P : Program) (dr : Bool) : List ROp → St → (St → Prop) → Prop
  | [], s, K => K s
  | r :: rs, s, K => r.run P dr s fun s' => opsK P dr rs s' K

def cOp (P : Program) (nt : Nat) (tk : Nat → Nat → Bool) (ops : Array Oper) (o : Oper) : Option ROp :=
  match cRX P tk o with
  | some rx => match o.dst with
    | some d => if Nat.blt d nt then (match o.guard with
      | none => some ⟨some d, none, rx⟩
      | some (j, want) => match (ops[j]?).bind (·.dst) with
        | some g => some ⟨some d, some (g, want), rx⟩
        | none => none) else none
    | none => match o.guard with
      | none => some ⟨none, none, rx⟩
      | some (j, want) => match (ops[j]?).bind (·.dst) with
        | some g => some ⟨none, some (g, want), rx⟩
        | none => none
  | none => none
def cOps (P : Program) (nt : Nat) (tk : Nat → Nat → Bool) (ops : Array Oper) : List Oper → Option (List ROp)
  | [] => some []
  | o :: os => match cOp P nt tk ops o, cOps P nt tk ops os with
    | some r, some rs => some (r :: rs)
    | _, _ => none

structure OpC (P : Program) (nt : Nat) (ops : Array Oper) (o : Oper) (r : ROp) : Prop where
  rx : ∃ tk, cRX P tk o = some r.rx
  dst : o.dst = r.dst
  lt : ∀ d, o.dst = some d → d < nt
  guard : (o.guard = none ∧ r.guard = none) ∨ ∃ j want g, o.guard = some (j, want) ∧ (ops[j]?).bind (·.dst) = some g ∧ r.guard = some (g, want)

theorem cOp_spec {P : Program} {nt : Nat} {tk : Nat → Nat → Bool} {ops : Array Oper} {o : Oper} {r : ROp} (h : cOp P nt tk ops o = some r) : OpC P nt ops o r := by
  unfold cOp at h
  split at h
  · rename_i rx hrx
    split at h
    · rename_i d hd
      split at h
      · rename_i hlt
        split at h
        · rename_i hg
          cases h
          exact ⟨⟨tk, hrx⟩, hd, fun d' e => by rw [hd] at e; cases e; simpa using hlt, .inl ⟨hg, rfl⟩⟩
        · rename_i j want hg
          split at h
          · rename_i g hj
            cases h
            exact ⟨⟨tk, hrx⟩, hd, fun d' e => by rw [hd] at e; cases e; simpa using hlt, .inr ⟨j, want, g, hg, hj, rfl⟩⟩
          · cases h
      · cases h
    · rename_i hd
      split at h
      · rename_i hg
        cases h
        exact ⟨⟨tk, hrx⟩, hd, (fun d' e => by rw [hd] at e; cases e), .inl ⟨hg, rfl⟩⟩
      · rename_i j want hg
        split at h
        · rename_i g hj
          cases h
          exact ⟨⟨tk, hrx⟩, hd, (fun d' e => by rw [hd] at e; cases e), .inr ⟨j, want, g, hg, hj, rfl⟩⟩
        · cases h
  · cases h

theorem cOps_spec {P : Program} {nt : Nat} {tk : Nat → Nat → Bool} {ops : Array Oper} : ∀ {os : List Oper} {rs : List ROp}, cOps P nt tk ops os = some rs → os.length = rs.length ∧ ∀ (i : Nat) (o : Oper), os[i]? = some o → ∃ r, rs[i]? = some r ∧ OpC P nt ops o r
  | [], rs, h => by cases h; exact ⟨rfl, fun i o h => by simp at h⟩
  | o :: os, rs, h => by
    simp only [cOps] at h
    split at h
    · rename_i r rs' h1 h2
      cases h
      obtain ⟨h3, h4⟩ := cOps_spec h2
      refine ⟨by simp [h3], fun i o' ho => ?_⟩
      cases i with
      | zero => simp at ho; subst ho; exact ⟨r, rfl, cOp_spec h1⟩
      | succ i => simp at ho; simpa using h4 i o' ho
    · cases h

section
variable {P : Program} {nt : Nat} {fl : Bool} {ops : Array Oper} {E : Entry} {G : Gh} {s : St} {a : Act} {w : World} {rd : Option Nat} {n : Nat}

/-- one operation of a region -/
theorem op_sound {o : Oper} {r : ROp} (hc : OpC P nt ops o r) {i : Nat} (hi : ops[i]? = some o) {dr : Bool} {K : St → Prop} (h : r.run P dr s K) (hs : RS E G s a w) (hnt : E.nt = nt) {next : Act → World → Prop} {Q : Exit → Act → World → Prop}
    (hnext : ∀ s' G' a' w', K s' → RS E G' s' a' w' → a'.defers = a.defers → next a' w') : wpOpIn (F0 rd) n P ops Q i next a w := by
  have hlt : ∀ d, o.dst = some d → d < E.nt := fun d hd => by rw [hnt]; exact hc.lt d hd
  unfold wpOpIn
  rw [hi]
  simp only
  obtain ⟨tk, hrx⟩ := hc.rx
  unfold ROp.run at h
  rcases hc.guard with ⟨g1, g2⟩ | ⟨j, want, g, g1, g2, g3⟩
  · rw [g2] at h
    simp only at h
    have hw : Region.wanted o (yielded ops a.tmps) = true := by simp [Region.wanted, g1]
    rw [if_pos hw]
    rw [← hc.dst] at h
    exact cRX_sound hrx h E G a w rd n next Q hs hlt hnext
  · rw [g3] at h
    simp only at h
    split at h
    · rename_i b hgv
      have hv := hs.ev (o := .tmp g) (r := .t g) rfl
      have hwant : Region.wanted o (yielded ops a.tmps) = decide (b = want) := by
        have hyv : ∀ q : Option Bool, (match a.eval (.tmp g) with | .bool b => some b | _ => none) = q → yielded ops a.tmps j = q := fun q hq => by
          unfold yielded
          rw [g2]
          simp only [Option.bind_some]
          simp only [Act.eval] at hq
          cases hx : a.tmps[g]? with
          | none =>
            simp [hx] at hq
            subst hq
            rfl
          | some u =>
            simp [hx] at hq
            cases u <;> exact hq
        generalize s.ev (.t g) = x at hgv hv
        cases x with
        | bool c =>
          have hc2 : c = b := by simpa [gv] using hgv
          have hy := hyv (some c) (by rw [hv.inv_bool])
          rw [Bool.eq_iff_iff]
          simp [Region.wanted, g1, hy, hc2]
        | tup vs =>
          cases vs with
          | nil =>
            have hc2 : (!want) = b := by simpa [gv] using hgv
            obtain ⟨us, e2, hl, _⟩ := hv.inv_tup
            have : us = [] := List.length_eq_zero_iff.1 (by simpa using hl)
            subst this
            have hy := hyv none (by rw [e2])
            rw [← hc2]
            cases want <;> simp [Region.wanted, g1, hy]
          | cons y ys => simp [gv] at hgv
        | _ => simp [gv] at hgv
      by_cases hbw : b = want
      · have hw : Region.wanted o (yielded ops a.tmps) = true := by rw [hwant]; simp [hbw]
        rw [if_pos hw]
        have h1 := h.1 hbw
        rw [← hc.dst] at h1
        exact cRX_sound hrx h1 E G a w rd n next Q hs hlt hnext
      · have hw : Region.wanted o (yielded ops a.tmps) = false := by rw [hwant]; simp [hbw]
        rw [hw]
        simp only [Bool.false_eq_true, if_false]
        have h1 := h.2 hbw
        rw [← hc.dst] at h1
        exact ⟨fun _ _ => trivial, hnext _ G _ w h1 (hs.put' hlt (.tup [] [] rfl fun j hj => by cases hj)) (put_defers _ _ _)⟩
    · exact h.elim

theorem seq_sound {dr : Bool} {Q : Exit → Act → World → Prop} {K : St → Prop} : ∀ {os : List Oper} {rs : List ROp} {k : Nat} {s : St} {G : Gh} {a : Act} {w : World}, os.length = rs.length → (∀ (i : Nat) (o : Oper), os[i]? = some o → ∃ r, rs[i]? = some r ∧ OpC P nt ops o r) → (∀ (i : Nat) (o : Oper), os[i]? = some o → ops[k + i]? = some o) →
    opsK P dr rs s K → RS E G s a w → E.nt = nt → (∀ s' G' a' w', K s' → RS E G' s' a' w' → a'.defers = a.defers → Q .normal a' w') → wpOpsIn (F0 rd) n P ops Q (List.range' k os.length) a w
  | [], [], _, _, _, _, _, _, _, _, h, hs, _, hQ => hQ _ _ _ _ h hs rfl
  | o :: os, r :: rs, k, s, G, a, w, hl, hc, hi, h, hs, hnt, hQ => by
    simp only [List.length_cons, List.range'_succ]
    rw [wpOpsIn_cons]
    obtain ⟨r', hr, hoc⟩ := hc 0 o rfl
    simp at hr; subst hr
    refine op_sound hoc (by simpa using hi 0 o rfl) h hs hnt fun s' G' a' w' hK hs' hd => ?_
    exact seq_sound (by simpa using hl) (fun i o' ho => hc (i + 1) o' (by simpa using ho)) (fun i o' ho => by
      have := hi (i + 1) o' (by simpa using ho)
      rw [show k + 1 + i = k + (i + 1) by omega]; exact this) hK hs' hnt fun s2 G2 a2 w2 h2 h3 h4 => hQ s2 G2 a2 w2 h2 h3 (h4.trans hd)
  | [], _ :: _, _, _, _, _, _, hl, _, _, _, _, _, _ => by simp at hl
  | _ :: _, [], _, _, _, _, _, hl, _, _, _, _, _, _ => by simp at hl

theorem WP.region {id : Nat} {rs : List ROp} {tk : Nat → Nat → Bool} (hc : cOps P nt tk ops ops.toList = some rs) {Q : AX → St → Prop} (h : opsK P false rs s (Q .normal)) : WP P nt fl (.region id ops false) s Q := fun E G a w rd n hs he => by
  obtain ⟨h1, h2⟩ := cOps_spec hc
  refine wpIn_region ?_
  have := seq_sound (E := E) (rd := rd) (n := n) (Q := fun e a' w' => ∃ x s' G', e = x.up ∧ Q x s' ∧ RS E G' s' a' w') (k := 0) h1 h2 (fun i o ho => by simpa using ho) h hs he.1 (fun s' G' a' w' hK hs' _ => ⟨.normal, s', G', rfl, hK, hs'⟩)
  rw [List.range_eq_range']
  simpa using this
end
end Go.AM
