/-
  THE ABSTRACT MACHINE, 13a: a region that draws its order, with one operation that all others stand ahead of or behind. No function of the program is named here. By an AI agent.
-/
import Derived.Test.YtamhnlajkncccaaDoorAmY
set_option linter.unusedSimpArgs false
set_option linter.unusedVariables false
namespace Go.AM
open Go.CK Go.RowKit

def soloRow (rs : List ROp) (p i : Nat) (m : Nat) : Nat → Bool
  | 0 => true
  | k + 1 => soloRow rs p i m k && (m.testBit k || (!(Nat.beq i p) && (!(Nat.beq k p) && (match rs[k]?, rs[i]? with | some x, some y => indep x y | _, _ => true))))
def soloRows (rs : List ROp) (p : Nat) (ms : List Nat) : Nat → Bool
  | 0 => true
  | i + 1 => soloRows rs p ms i && soloRow rs p i (ms.getD i 0) i
def indepSolo (ops : Array Oper) (rs : List ROp) (p : Nat) : Bool := edgesOk ops.toList 0 && soloRows rs p (masksFrom [] ops.toList) ops.size
theorem soloRow_spec {rs : List ROp} {p i m : Nat} : ∀ {n : Nat}, soloRow rs p i m n = true → ∀ k, k < n → m.testBit k = true ∨ (i ≠ p ∧ k ≠ p ∧ ∀ x y, rs[k]? = some x → rs[i]? = some y → indep x y = true)
  | 0, _, k, hk => by omega
  | n + 1, h, k, hk => by
    simp only [soloRow, Bool.and_eq_true, Bool.or_eq_true, Bool.not_eq_true'] at h
    by_cases hkn : k = n
    · subst hkn
      rcases h.2 with h1 | ⟨h1, h2, h3⟩
      · exact .inl h1
      · refine .inr ⟨fun e => ?_, fun e => ?_, fun x y hx hy => ?_⟩
        · subst e; simp at h1
        · subst e; simp at h2
        · rw [hx, hy] at h3; exact h3
    · exact soloRow_spec h.1 k (by omega)
theorem soloRows_spec {rs : List ROp} {p : Nat} {ms : List Nat} : ∀ {n : Nat}, soloRows rs p ms n = true → ∀ i, i < n → soloRow rs p i (ms.getD i 0) i = true
  | 0, _, i, hi => by omega
  | n + 1, h, i, hi => by
    simp only [soloRows, Bool.and_eq_true] at h
    by_cases hin : i = n
    · subst hin; exact h.2
    · exact soloRows_spec h.1 i (by omega)

/-- one after the other; operation p at its leisure -/
def seqK (P : Program) (rs : List ROp) (p : Nat) : List Nat → St → (St → Prop) → Prop
  | [], s, K => K s
  | i :: l, s, K => ∃ r, rs[i]? = some r ∧ r.run P (!(Nat.beq i p)) s fun s' => seqK P rs p l s' K
def soloK (P : Program) (p : Nat) : Nat → List ROp → St → (St → Prop) → Prop
  | _, [], s, K => K s
  | i, r :: rs, s, K => r.run P (!(Nat.beq i p)) s fun s' => soloK P p (i + 1) rs s' K
section
variable {P : Program} {rs : List ROp} {p : Nat} {K : St → Prop}
theorem soloK_mono {K' : St → Prop} (hk : ∀ x, K x → K' x) : ∀ {q : List ROp} {i : Nat} {s : St}, soloK P p i q s K → soloK P p i q s K'
  | [], _, _, h => hk _ h
  | _ :: _, _, _, h => ROp.mono (fun _ hx => soloK_mono hk hx) h
theorem soloK_seq : ∀ {q : List ROp} {k : Nat} {s : St}, (∀ (j : Nat) r, q[j]? = some r → rs[k + j]? = some r) → soloK P p k q s K → seqK P rs p (List.range' k q.length) s K
  | [], k, s, _, h => h
  | r :: q, k, s, hi, h => by
    rw [List.length_cons, List.range'_succ]
    refine ⟨r, by simpa using hi 0 r rfl, ROp.mono (fun s' hs' => ?_) h⟩
    exact soloK_seq (k := k + 1) (fun j r' hj => by
      have := hi (j + 1) r' (by simpa using hj)
      rw [show k + 1 + j = k + (j + 1) by omega]; exact this) hs'
theorem det_ne {i : Nat} (h : i ≠ p) : (!(Nat.beq i p)) = true := by rw [beq_ne h]; rfl
theorem seqK_det : ∀ {pre post : List Nat} {s : St}, (∀ k ∈ pre, k ≠ p) → seqK P rs p (pre ++ post) s K → ∃ sm, ExecL P rs pre s sm ∧ seqK P rs p post sm K
  | [], post, s, _, h => ⟨s, rfl, h⟩
  | k :: pre, post, s, hn, ⟨r, hr, h⟩ => by
    rw [det_ne (hn k (by simp))] at h
    obtain ⟨s1, h1, h2⟩ := ROp.ex h
    obtain ⟨sm, h3, h4⟩ := seqK_det (fun k' hk' => hn k' (by simp [hk'])) h2
    exact ⟨sm, ⟨s1, ⟨r, hr, h1⟩, h3⟩, h4⟩
theorem seqK_join : ∀ {pre post : List Nat} {s sm : St}, (∀ k ∈ pre, k ≠ p) → ExecL P rs pre s sm → seqK P rs p post sm K → seqK P rs p (pre ++ post) s K
  | [], post, s, sm, _, h, k => by have h : s = sm := h; subst h; exact k
  | k :: pre, post, s, sm, hn, ⟨s1, ⟨r, hr, h1⟩, h2⟩, hk => by
    refine ⟨r, hr, ?_⟩
    rw [det_ne (hn k (by simp))]
    refine ROp.mono (fun s' e => ?_) h1
    subst e
    exact seqK_join (fun k' hk' => hn k' (by simp [hk'])) h2 hk
end

section
variable {P : Program} {nt : Nat} {fl : Bool} {ops : Array Oper} {rs : List ROp} {E : Entry} {rd : Option Nat} {n : Nat}

theorem any_solo {p : Nat} {K : St → Prop} (hc : ∀ (i : Nat) (o : Oper), ops[i]? = some o → ∃ r, rs[i]? = some r ∧ OpC P nt ops o r) (hi : indepSolo ops rs p = true) {Q : Exit → Act → World → Prop} (hnt : E.nt = nt) :
    ∀ (fuel : Nat) (listed : Array Bool) (s : St) (G : Gh) (a : Act) (w : World), listed.size = ops.size → (restOf ops listed).length ≤ fuel → Closed ops (fun i => listed.getD i false = true) → seqK P rs p (restOf ops listed) s K → RS E G s a w →
      (∀ s' G' a' w', K s' → RS E G' s' a' w' → Q .normal a' w') → wpAnyIn (F0 rd) n P .any ops Q fuel listed a w := by
  have hready : ∀ (listed : Array Bool) i, listed.size = ops.size → i ∈ Region.ready .any ops listed → i < ops.size ∧ listed.getD i true = false ∧ ∃ o, ops[i]? = some o ∧ ∀ e ∈ o.after, Region.binds .any e = true → listed.getD e.on false = true := fun listed i hl h => by
    simp only [Region.ready, List.mem_filter, List.mem_range, Bool.and_eq_true, Bool.not_eq_true'] at h
    obtain ⟨h1, h2, h3⟩ := h
    refine ⟨h1, h2, ops[i], Array.getElem?_eq_getElem h1, fun e he hb => ?_⟩
    rw [Array.getElem?_eq_getElem h1] at h3
    simp only [Option.map_some, Option.getD_some, Array.all_eq_true_iff_forall_mem, Bool.or_eq_true, Bool.not_eq_true'] at h3
    rcases h3 e he with h4 | h4
    · rw [hb] at h4; cases h4
    · exact h4
  intro fuel
  induction fuel with
  | zero =>
    intro listed s G a w hl hlen hD hex hs hQ
    have hnil : restOf ops listed = [] := List.length_eq_zero_iff.1 (by omega)
    rw [hnil] at hex
    refine ⟨?_, hQ s G a w hex hs⟩
    rcases hq : Region.ready .any ops listed with _ | ⟨i, _⟩
    · rfl
    · obtain ⟨h1, h2, _⟩ := hready listed i hl (by rw [hq]; simp)
      have : i ∈ restOf ops listed := by simp only [restOf, List.mem_filter, List.mem_range]; exact ⟨h1, by simp [h2]⟩
      rw [hnil] at this; cases this
  | succ fuel ih =>
    intro listed s G a w hl hlen hD hex hs hQ
    refine ⟨fun hr => ?_, fun i hi' => ?_⟩
    · -- nothing is ready: nothing is left
      have hnil : restOf ops listed = [] := by
        rcases hq : restOf ops listed with _ | ⟨i, l⟩
        · rfl
        · exfalso
          have hsort : (restOf ops listed).Pairwise (· < ·) := List.pairwise_lt_range.filter _
          rw [hq] at hsort
          have hfirst := (List.pairwise_cons.1 hsort).1
          have hmem : i ∈ restOf ops listed := by rw [hq]; simp
          simp only [restOf, List.mem_filter, List.mem_range, Bool.not_eq_true'] at hmem
          have hin : i ∈ Region.ready .any ops listed := by
            simp only [Region.ready, List.mem_filter, List.mem_range, Bool.and_eq_true, Bool.not_eq_true']
            refine ⟨hmem.1, hmem.2, ?_⟩
            rw [Array.getElem?_eq_getElem hmem.1]
            simp only [Option.map_some, Option.getD_some, Array.all_eq_true_iff_forall_mem, Bool.or_eq_true, Bool.not_eq_true']
            intro e he
            cases hb : Region.binds .any e with
            | false => exact .inl rfl
            | true =>
              have hlt := edgesOk_spec (Bool.and_eq_true_iff.1 hi).1 i ops[i] (by simp [hmem.1]) e he hb
              rw [Nat.zero_add] at hlt
              refine .inr ?_
              cases hlk : listed.getD e.on false with
              | true => rfl
              | false =>
                exfalso
                have hlk2 : listed.getD e.on true = false := by
                  have hsz : e.on < listed.size := by rw [hl]; omega
                  simpa [hsz] using hlk
                have hin2 : e.on ∈ restOf ops listed := by
                  simp only [restOf, List.mem_filter, List.mem_range, Bool.not_eq_true']
                  exact ⟨by omega, hlk2⟩
                rw [hq] at hin2
                rcases List.mem_cons.1 hin2 with h5 | h5
                · omega
                · have := hfirst _ h5; omega
          rw [hr] at hin; cases hin
      rw [hnil] at hex
      exact hQ s G a w hex hs
    · obtain ⟨h1, h2, o, ho, hpre⟩ := hready listed i hl hi'
      obtain ⟨r, hr, hoc⟩ := hc i o ho
      have hmem : i ∈ List.range ops.size := by simpa using h1
      obtain ⟨pre, post, e1, e2, e3⟩ := filter_split (fun k => !listed.getD k true) i (List.range ops.size) hmem (by simp [h2]) List.pairwise_lt_range
      have hrow := soloRows_spec (Bool.and_eq_true_iff.1 hi).2 i h1
      have hgd : ∀ k, listed.getD k true = false → listed.getD k false = false := fun k hk => by
        simp only [Array.getD_eq_getD_getElem?] at hk ⊢
        cases hq : listed[k]? with
        | none => rw [hq] at hk; cases hk
        | some b => rw [hq] at hk; simpa using hk
      have hex' : seqK P rs p (pre ++ i :: post) s K := by rw [← e1]; exact hex
      have hpreI : ∀ k ∈ pre, i ≠ p ∧ k ≠ p ∧ ∀ x y, rs[k]? = some x → rs[i]? = some y → indep x y = true := fun k hk => by
        obtain ⟨hki, hkl⟩ := e2 k hk
        rcases soloRow_spec hrow k hki with hb | hb
        · exfalso
          have hml : i < (masksFrom [] ops.toList).length := by rw [masks_length]; simpa using h1
          have := masks_spec hD (os := ops.toList) (acc := []) (fun j o' hj => by simpa using hj) (fun i m o' hm => by simp at hm) (fun i hlt => by simp at hlt) i ((masksFrom [] ops.toList).getD i 0) o (by simp [List.getElem?_eq_getElem hml]) ho hpre k hb
          have h4 := hgd k (by simpa using hkl)
          rw [h4] at this; cases this
        · exact hb
      obtain ⟨dr, K1, hrun, hrest⟩ : ∃ dr K1, r.run P dr s K1 ∧ ∀ s1, K1 s1 → seqK P rs p (pre ++ post) s1 K := by
        cases pre with
        | nil =>
          obtain ⟨r', hr', h3⟩ := hex'
          rw [hr] at hr'; cases hr'
          exact ⟨_, _, h3, fun s1 h4 => h4⟩
        | cons k0 pre' =>
          obtain ⟨hip, _⟩ := hpreI k0 (by simp)
          obtain ⟨sm, h3, h4⟩ := seqK_det (pre := (k0 :: pre') ++ [i]) (post := post) (fun k hk => by
            rcases List.mem_append.1 hk with h5 | h5
            · exact (hpreI k h5).2.1
            · simp at h5; rw [h5]; exact hip) (by simpa using hex')
          obtain ⟨s1, ⟨r', hr', h5⟩, h6⟩ := front h3 (fun k hk => (hpreI k hk).2.2)
          rw [hr] at hr'; cases hr'
          refine ⟨true, _, h5, fun s2 e => ?_⟩
          subst e
          exact seqK_join (fun k hk => (hpreI k hk).2.1) (by simpa using h6) h4
      refine op_sound hoc ho hrun hs hnt fun s' G' a' w' hs1 hs' _ => ?_
      have hset : restOf ops (listed.setIfInBounds i true) = pre ++ post := by
        rw [← e3]
        unfold restOf
        refine List.filter_congr fun k hk => ?_
        by_cases hki : k = i
        · subst hki
          have : k < listed.size := by rw [hl]; exact h1
          simp [this]
        · have hne : (k == i) = false := by simpa using hki
          simp [Array.getElem?_setIfInBounds_ne (Ne.symm hki), hne]
      refine ih _ _ G' a' w' (by simpa using hl) ?_ ?_ (by rw [hset]; exact hrest _ hs1) hs' hQ
      · rw [hset]
        have : (restOf ops listed).length = (pre ++ i :: post).length := by rw [← e1]; rfl
        simp at this ⊢
        omega
      · intro j oj hj hDj e he hb
        have hkeep : ∀ k, listed.getD k false = true → (listed.setIfInBounds i true).getD k false = true := fun k hk => by
          by_cases hki : k = i
          · subst hki
            have : k < listed.size := by rw [hl]; exact h1
            simp [this]
          · simp only [Array.getD_eq_getD_getElem?] at hk ⊢
            rw [Array.getElem?_setIfInBounds_ne (Ne.symm hki)]; exact hk
        by_cases hji : j = i
        · subst hji
          rw [ho] at hj; cases hj
          exact hkeep _ (hpre e he hb)
        · refine hkeep _ (hD j oj hj ?_ e he hb)
          simp only [Array.getD_eq_getD_getElem?] at hDj ⊢
          rwa [Array.getElem?_setIfInBounds_ne (Ne.symm hji)] at hDj

theorem WP.region_solo {p : Nat} (hm : P.follows .mixedOrders = true) {id : Nat} {tk : Nat → Nat → Bool} (hc : cOps P nt tk ops ops.toList = some rs) (hi : indepSolo ops rs p = true) {s : St} {Q : AX → St → Prop} (h : soloK P p 0 rs s (Q .normal)) : WP P nt fl (.region id ops true) s Q := fun E G a w rd n hs he => by
  obtain ⟨h1, h2⟩ := cOps_spec hc
  have h3 := soloK_seq (rs := rs) (k := 0) (fun j r hj => by simp [hj]) h
  have hlen : rs.length = ops.size := by simpa using h1.symm
  refine wpIn_region_any hm ?_
  refine any_solo (fun i o ho => h2 i o (by simpa using ho)) hi he.1 ops.size _ s G a _ (by simp) ?_ ?_ ?_ hs.drew fun s' G' a' w' h4 h5 => ⟨.normal, s', G', rfl, h4, h5⟩
  · exact Nat.le_trans (List.length_filter_le _ _) (by simp)
  · intro i o _ hD
    simp only [Array.getD_eq_getD_getElem?, Array.getElem?_replicate] at hD
    split at hD <;> cases hD
  · have : restOf ops (Array.replicate ops.size false) = List.range' 0 rs.length := by
      unfold restOf
      rw [List.filter_eq_self.2 (fun i hi => by
        have := List.mem_range.1 hi
        simp [this]), List.range_eq_range', hlen]
    rw [this]; exact h3
end
end Go.AM
