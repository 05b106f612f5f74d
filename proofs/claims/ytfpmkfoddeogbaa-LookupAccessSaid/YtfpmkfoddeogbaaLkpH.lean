/-
  LOOKUP: the laws Known and Access. By an AI agent.
-/
import Derived.Test.YtfpmkfoddeogbaaLkpG
set_option linter.unusedSimpArgs false
set_option linter.unusedVariables false
namespace Go.CK
open Go.AM Go.Proofs
/-! ### more heads, more known positions -/
theorem allIn_mono {a b : List Int} (h : ∀ x ∈ a, x ∈ b) {t : Tm} (ht : allIn a t = true) : allIn b t = true := by
  unfold allIn at ht ⊢
  rw [List.all_eq_true] at ht ⊢
  intro v hv
  have := ht v hv
  simp only [decide_eq_true_eq] at this ⊢
  exact h v this
theorem placesP_lt (p : Tm → Bool) (l : List Tm) : ∀ j, ∀ x ∈ placesP p l j, x < (j : Int)
  | 0, x, hx => by cases hx
  | j + 1, x, hx => by
    rw [placesP, List.mem_append] at hx
    rcases hx with hx | hx
    · have := placesP_lt p l j x hx; omega
    · split at hx
      · split at hx
        · simp only [List.mem_singleton] at hx; omega
        · cases hx
      · cases hx
theorem placesP_asc (p : Tm → Bool) (l : List Tm) : ∀ j, (placesP p l j).Pairwise (· < ·)
  | 0 => .nil
  | j + 1 => by
    rw [placesP, List.pairwise_append]
    refine ⟨placesP_asc p l j, ?_, fun x hx y hy => ?_⟩
    · split
      · split
        · exact List.pairwise_singleton _ _
        · exact .nil
      · exact .nil
    · have := placesP_lt p l j x hx
      split at hy
      · split at hy
        · simp only [List.mem_singleton] at hy; omega
        · cases hy
      · cases hy
theorem placesP_sub {p q : Tm → Bool} (h : ∀ t, p t = true → q t = true) (l : List Tm) : ∀ j, ∀ x ∈ placesP p l j, x ∈ placesP q l j
  | 0, x, hx => by cases hx
  | j + 1, x, hx => by
    rw [placesP, List.mem_append] at hx ⊢
    rcases hx with hx | hx
    · exact .inl (placesP_sub h l j x hx)
    · right
      split at hx
      · rename_i t ht
        split at hx
        · rename_i hp
          rw [if_pos (h t hp)]; exact hx
        · cases hx
      · cases hx
theorem knownI_asc (r : Rl) (done : List Int) (head : Int) : (knownI r done head).Pairwise (· < ·) := by
  unfold knownI
  split
  · exact .nil
  · split
    · exact placesP_asc _ _ _
    · exact .nil
theorem knownI_sub (r : Rl) (done more : List Int) (head : Int) : ∀ x ∈ knownI r done head, x ∈ knownI r (done ++ more) head := by
  unfold knownI
  split
  · exact fun x hx => hx
  · split
    · refine placesP_sub (fun t ht => allIn_mono (fun x hx => ?_) ht) _ _
      rw [kvs_app]; exact List.mem_append_left _ hx
    · exact fun x hx => hx
theorem knownI_len {r : Rl} (hr : r.ok2) (done : List Int) (head : Int) : (knownI r done head).length ≤ 200 := by
  unfold knownI
  split
  · simp
  · split
    · rename_i h hh
      have := placesP_len (allIn (kvs r.heads done)) h.args h.args.length
      have := (hr.2 h (List.mem_of_getElem? hh)).1
      omega
    · simp
theorem sub_eat {a b : List Int} {i k : Nat} {x : Int} (ha : a.Pairwise (· < ·)) (hx : b[i]? = some x) (hy : a[k]? = some x) (hs : ∀ z ∈ a.drop k, z ∈ b.drop i) : ∀ z ∈ a.drop (k + 1), z ∈ b.drop (i + 1) := fun z hz => by
  have ea := List.drop_eq_getElem?_toList_append (l := a) (i := k)
  have eb := List.drop_eq_getElem?_toList_append (l := b) (i := i)
  rw [hy] at ea
  rw [hx] at eb
  have hp : (a.drop k).Pairwise (· < ·) := ha.sublist (List.drop_sublist _ _)
  rw [ea] at hp
  have hlt : x < z := (List.pairwise_cons.1 hp).1 z hz
  have := hs z (by rw [ea]; simp [hz])
  rw [eb] at this
  simp only [Option.toList_some, List.cons_append, List.nil_append, List.mem_cons] at this
  rcases this with rfl | h
  · omega
  · exact h
theorem sub_skip {a b : List Int} {i k : Nat} {x y : Int} (ha : a.Pairwise (· < ·)) (hb : b.Pairwise (· < ·)) (hx : b[i]? = some x) (hy : a[k]? = some y) (hne : ¬ x = y) (hs : ∀ z ∈ a.drop k, z ∈ b.drop i) : ∀ z ∈ a.drop k, z ∈ b.drop (i + 1) := fun z hz => by
  have ea := List.drop_eq_getElem?_toList_append (l := a) (i := k)
  have eb := List.drop_eq_getElem?_toList_append (l := b) (i := i)
  rw [hy] at ea
  rw [hx] at eb
  have hp : (a.drop k).Pairwise (· < ·) := ha.sublist (List.drop_sublist _ _)
  have hq : (b.drop i).Pairwise (· < ·) := hb.sublist (List.drop_sublist _ _)
  rw [ea] at hp
  rw [eb] at hq
  have h1 : x < y := by
    have := hs y (by rw [ea]; simp)
    rw [eb] at this
    simp only [Option.toList_some, List.cons_append, List.nil_append, List.mem_cons] at this
    rcases this with rfl | h
    · exact absurd rfl hne
    · exact (List.pairwise_cons.1 hq).1 y h
  have h2 : y ≤ z := by
    rw [ea] at hz
    simp only [Option.toList_some, List.cons_append, List.nil_append, List.mem_cons] at hz
    rcases hz with rfl | h
    · omega
    · exact Int.le_of_lt ((List.pairwise_cons.1 hp).1 z h)
  have := hs z hz
  rw [eb] at this
  simp only [Option.toList_some, List.cons_append, List.nil_append, List.mem_cons] at this
  rcases this with rfl | h
  · omega
  · exact h
theorem sub_end {a b : List Int} {i k : Nat} (hi : b.length ≤ i) (hk : k ≤ a.length) (hs : ∀ z ∈ a.drop k, z ∈ b.drop i) : k = a.length := by
  rcases Nat.lt_or_ge k a.length with h | h
  · have := hs (a[k]) (by rw [List.drop_eq_getElem_cons h]; exact List.mem_cons_self)
    rw [List.drop_eq_nil_of_le hi] at this
    cases this
  · omega
set_option maxRecDepth 100000 in
theorem lookupKnown_law {r : Rl} {done : List Int} {head : Int} : Fun Try.prog 3 [r.av, slA intA done, .int .i64 head] (.bool true) := by
  have hG := great30_ok (p := ⟨[], [r]⟩) (plans := [])
  simp only [slA, Pg.av, List.map_cons, List.map_nil] at hG
  cases hg : great30 ⟨[], [r]⟩ [] with
  | true =>
    rw [hg] at hG
    refine Fun.of (op_constraintlaw30_LookupKnown (by simp) ?_) rfl rfl
    conv => whnf
    conv => whnf
    repeat' ((first | refine CallN.fn (hG) ?_ | refine CallP.fn (hG) ?_ | refine cY ?_ | refine cN ?_ | refine .not ?_ | refine wI ?_ | refine .map ?_ | refine .nil ?_ | refine .one ?_ | refine .app ?_ | refine .set ?_ | refine .rep ?_ | refine .any ?_ | refine cI ?_ | refine cJ ?_ | refine cYa ?_ | refine cNa ?_ | refine cIa ?_ | refine cJa ?_ | refine cIr ?_ | refine cId ?_ | refine cJd ?_ | with_reducible refine CondN.and ?_ | with_reducible refine CondN.or ?_ | refine CondN.lt (fun hc => ?_) (fun hc => ?_) | refine CondN.le (fun hc => ?_) (fun hc => ?_) | refine CondN.dec (fun hc => ?_) (fun hc => ?_) | refine CondN.any (fun hc => ?_) (fun hc => ?_) | refine nS ?_ | refine iA ?_ | refine iB ?_ | refine iC fun x hx => ?_ | refine iD fun x hx => ?_ | refine iE ?_ | refine iF ?_ | refine iG ?_ | refine iH fun x hx => ?_ | refine iI fun x hx => ?_ | refine iJ ?_ | refine hB ?_ | refine aP ?_ | refine .last ?_ | refine .last2 ?_ | refine zN fun k hk => ?_ | refine aR fun k hk => ?_ | refine mA ?_ | refine mS (fun hc => ?_) (fun hc => ?_) | refine RetP.nrm ?_) <;> conv => whnf)
  | false =>
    rw [hg] at hG
    have hr := ok2_of hg
    by_cases hd : 10 < done.length
    · refine Fun.of (op_constraintlaw30_LookupKnown (by simp) ?_) rfl rfl
      conv => whnf
      conv => whnf
      repeat' ((first | refine CallN.fn (hG) ?_ | refine CallP.fn (hG) ?_ | refine cY ?_ | refine cN ?_ | refine .not ?_ | refine wI ?_ | refine .map ?_ | refine .nil ?_ | refine .one ?_ | refine .app ?_ | refine .set ?_ | refine .rep ?_ | refine .any ?_ | refine cI ?_ | refine cJ ?_ | refine cYa ?_ | refine cNa ?_ | refine cIa ?_ | refine cJa ?_ | refine cIr ?_ | refine cId ?_ | refine cJd ?_ | with_reducible refine CondN.and ?_ | with_reducible refine CondN.or ?_ | refine CondN.lt (fun hc => ?_) (fun hc => ?_) | refine CondN.le (fun hc => ?_) (fun hc => ?_) | refine CondN.dec (fun hc => ?_) (fun hc => ?_) | refine CondN.any (fun hc => ?_) (fun hc => ?_) | refine nS ?_ | refine iA ?_ | refine iB ?_ | refine iC fun x hx => ?_ | refine iD fun x hx => ?_ | refine iE ?_ | refine iF ?_ | refine iG ?_ | refine iH fun x hx => ?_ | refine iI fun x hx => ?_ | refine iJ ?_ | refine hB ?_ | refine aP ?_ | refine .last ?_ | refine .last2 ?_ | refine zN fun k hk => ?_ | refine aR fun k hk => ?_ | refine mA ?_ | refine mS (fun hc => ?_) (fun hc => ?_) | refine RetP.nrm ?_) <;> conv => whnf)
      all_goals first | (exfalso; omega) | rfl
    · have h1 := known_ok (r := r) (done := done) (head := head) hr.ok (by omega)
      have h2 := refKnown_ok (r := r) (done := done) (head := head) hr (by omega)
      have h3 := known_ok (r := r) (done := done ++ [0, 1]) (head := head) hr.ok (by simp; omega)
      have hl1 := knownI_len hr done head
      have hl2 := knownI_len hr (done ++ [0, 1]) head
      have hs := knownI_sub r done [0, 1] head
      have ha := knownI_asc r done head
      have hb := knownI_asc r (done ++ [0, 1]) head
      have hS : Fun Try.prog 16 [slA intA (knownI r done head), slA intA (knownI r done head)] (.bool true) := by
        have := sameInts_ok (a := knownI r done head) (b := knownI r done head)
        simpa only [decide_true] using this
      generalize knownI r done head = a at *
      generalize knownI r (done ++ [0, 1]) head = b at *
      simp only [slA, List.map_append, List.map_cons, List.map_nil, intA] at h3
      refine Fun.of (op_constraintlaw30_LookupKnown (by simp) ?_) rfl rfl
      conv => whnf
      conv => whnf
      repeat' ((first | refine CallN.fn (hG) ?_ | refine CallP.fn (hG) ?_ | refine CallN.fn (h1) ?_ | refine CallP.fn (h1) ?_ | refine CallN.fn (h2) ?_ | refine CallP.fn (h2) ?_ | refine CallN.fn (hS) ?_ | refine CallP.fn (hS) ?_ | refine CallN.fn (h3) ?_ | refine CallP.fn (h3) ?_ | refine CallN.fn (live30_ok) ?_ | refine CallP.fn (live30_ok) ?_ | refine cY ?_ | refine cN ?_ | refine .not ?_ | refine wI ?_ | refine .map ?_ | refine .nil ?_ | refine .one ?_ | refine .app ?_ | refine .set ?_ | refine .rep ?_ | refine .any ?_ | refine cI ?_ | refine cJ ?_ | refine cYa ?_ | refine cNa ?_ | refine cIa ?_ | refine cJa ?_ | refine cIr ?_ | refine cId ?_ | refine cJd ?_ | with_reducible refine CondN.and ?_ | with_reducible refine CondN.or ?_ | refine CondN.lt (fun hc => ?_) (fun hc => ?_) | refine CondN.le (fun hc => ?_) (fun hc => ?_) | refine CondN.dec (fun hc => ?_) (fun hc => ?_) | refine CondN.any (fun hc => ?_) (fun hc => ?_) | refine nS ?_ | refine iA ?_ | refine iB ?_ | refine iC fun x hx => ?_ | refine iD fun x hx => ?_ | refine iE ?_ | refine iF ?_ | refine iG ?_ | refine iH fun x hx => ?_ | refine iI fun x hx => ?_ | refine iJ ?_ | refine hB ?_ | refine aP ?_ | refine .last ?_ | refine .last2 ?_ | refine zN fun k hk => ?_ | refine aR fun k hk => ?_ | refine mA ?_ | refine mS (fun hc => ?_) (fun hc => ?_) | refine RetP.nrm ?_) <;> conv => whnf)
      refine LoopP.by (fb := true) (fun st_ (q : Nat × Nat) => st_.sets [(9, .int .i64 q.2), (10, .int .i64 q.1)]) (fun q => q.1 ≤ b.length ∧ q.2 ≤ a.length ∧ ∀ z ∈ a.drop q.2, z ∈ b.drop q.1) (fun q => b.length - q.1) (0, 0) ⟨Nat.zero_le _, Nat.zero_le _, hs⟩ ?_ ?_
      · refine EndN.at_ ?_ rfl
        conv => whnf
        refine And.intro ?_ ?_ <;> conv => whnf
        all_goals repeat' ((first | refine vE ?_ | refine vI ?_ | refine vB ?_ | refine vC ?_ | refine vN ?_ | refine xB ?_ | exact True.intro | ((first | refine WkN.sl ?_ ?_ | refine vD ?_ ?_ | refine WkN.norm ?_ ?_ | refine BxN.mk ?_ ?_); (focus (simp [AV.norm, AV.norm1, ]; done)))) <;> conv => whnf)
      · rintro ⟨i, k⟩ ⟨hi, hk, hsub⟩
        dsimp only at hi hk hsub ⊢
        conv => whnf
        repeat' ((first | refine CallN.fn (live30_ok) ?_ | refine CallP.fn (live30_ok) ?_ | refine cY ?_ | refine cN ?_ | refine .not ?_ | refine wI ?_ | refine .map ?_ | refine .nil ?_ | refine .one ?_ | refine .app ?_ | refine .set ?_ | refine .rep ?_ | refine .any ?_ | refine cI ?_ | refine cJ ?_ | refine cYa ?_ | refine cNa ?_ | refine cIa ?_ | refine cJa ?_ | refine cIr ?_ | refine cId ?_ | refine cJd ?_ | with_reducible refine CondN.and ?_ | with_reducible refine CondN.or ?_ | refine CondN.lt (fun hc => ?_) (fun hc => ?_) | refine CondN.le (fun hc => ?_) (fun hc => ?_) | refine CondN.dec (fun hc => ?_) (fun hc => ?_) | refine CondN.any (fun hc => ?_) (fun hc => ?_) | refine nS ?_ | refine iA ?_ | refine iB ?_ | refine iC fun x hx => ?_ | refine iD fun x hx => ?_ | refine iE ?_ | refine iF ?_ | refine iG ?_ | refine iH fun x hx => ?_ | refine iI fun x hx => ?_ | refine iJ ?_ | refine hB ?_ | refine aP ?_ | refine .last ?_ | refine .last2 ?_ | refine zN fun k hk => ?_ | refine aR fun k hk => ?_ | refine mA ?_ | refine mS (fun hc => ?_) (fun hc => ?_) | refine RetP.nrm ?_) <;> conv => whnf)
        · refine ⟨(i + 1, k + 1), ⟨⟨by dsimp only; omega, by dsimp only; omega, ?_⟩, by dsimp only; omega⟩, ?_⟩
          · subst hc
            exact sub_eat ha (by assumption) (by assumption) hsub
          · refine EndN.at_ ?_ rfl
            conv => whnf
            refine And.intro ?_ ?_ <;> conv => whnf
            all_goals repeat' ((first | refine vE ?_ | refine vI ?_ | refine vB ?_ | refine vC ?_ | refine vN ?_ | refine xB ?_ | exact True.intro | ((first | refine WkN.sl ?_ ?_ | refine vD ?_ ?_ | refine WkN.norm ?_ ?_ | refine BxN.mk ?_ ?_); (focus (simp [AV.norm, AV.norm1, ]; done)))) <;> conv => whnf)
        · refine ⟨(i + 1, k), ⟨⟨by dsimp only; omega, by dsimp only; omega, ?_⟩, by dsimp only; omega⟩, ?_⟩
          · exact sub_skip ha hb (by assumption) (by assumption) hc hsub
          · refine EndN.at_ ?_ rfl
            conv => whnf
            refine And.intro ?_ ?_ <;> conv => whnf
            all_goals repeat' ((first | refine vE ?_ | refine vI ?_ | refine vB ?_ | refine vC ?_ | refine vN ?_ | refine xB ?_ | exact True.intro | ((first | refine WkN.sl ?_ ?_ | refine vD ?_ ?_ | refine WkN.norm ?_ ?_ | refine BxN.mk ?_ ?_); (focus (simp [AV.norm, AV.norm1, ]; done)))) <;> conv => whnf)
        · exact absurd (congrArg Int.ofNat (sub_end (by omega) hk hsub)) hc
theorem of_great30 {p : Pg} {plans : List Pl} (h : great30 p plans = false) : p.ok8 ∧ plans.length ≤ 30 ∧ ∀ x ∈ plans, x.order.length ≤ 8 ∧ ∀ l ∈ x.known, l.length ≤ 20 := by
  simp only [great30, Bool.or_eq_false_iff, decide_eq_false_iff_not] at h
  obtain ⟨_, _, h1, h2, h3⟩ := h
  rw [List.any_eq_false] at h2 h3
  refine ⟨fun r hr => ?_, by omega, fun x hx => ?_⟩
  · have := h2 r hr
    simp only [decide_eq_true_eq] at this
    omega
  · have := h3 x hx
    simp only [plGreat, Bool.not_eq_true, Bool.or_eq_false_iff, decide_eq_false_iff_not] at this
    obtain ⟨h4, h5, h6⟩ := this
    rw [List.any_eq_false] at h6
    refine ⟨by omega, fun l hl => ?_⟩
    have := h6 l hl
    simp only [decide_eq_true_eq] at this
    omega
theorem headI_len {p : Pg} {x : Pl} {k : Int} (h : ∀ l ∈ x.known, l.length ≤ 20) : ∀ y, headI p x k = some y → y.2.length ≤ 100000 := fun y hy => by
  unfold headI at hy
  split at hy
  · cases hy
  · split at hy
    · cases hy
    · split at hy
      · cases hy
      · split at hy
        · cases hy
        · split at hy
          · cases hy
          · cases hy
            dsimp only
            split
            · cases hq : x.known[k.toNat]? with
              | none => simp
              | some l =>
                have := h l (List.mem_of_getElem? hq)
                simp only [Option.getD_some]; omega
            · simp
theorem sameKey_ok {l : List Tm} : Fun Try.prog 24 [slA Tm.av l, slA Tm.av l] (.bool true) := by
  have := sameTerms_ok (l := l) (m := l)
  simpa only [Tm.cmps_refl, decide_true] using this
set_option maxRecDepth 100000 in
theorem lookupAccess_law {p : Pg} {plans : List Pl} {k : Int} : Fun Try.prog 4 [p.av, slA Pl.av plans, .int .i64 k] (.bool true) := by
  have hG := great30_ok (p := p) (plans := plans)
  cases hg : great30 p plans with
  | true =>
    rw [hg] at hG
    refine Fun.of (op_constraintlaw30_LookupAccess (by simp) ?_) rfl rfl
    conv => whnf
    conv => whnf
    repeat' ((first | refine CallN.fn (hG) ?_ | refine CallP.fn (hG) ?_ | refine cY ?_ | refine cN ?_ | refine .not ?_ | refine wI ?_ | refine .map ?_ | refine .nil ?_ | refine .one ?_ | refine .app ?_ | refine .set ?_ | refine .rep ?_ | refine .any ?_ | refine cI ?_ | refine cJ ?_ | refine cYa ?_ | refine cNa ?_ | refine cIa ?_ | refine cJa ?_ | refine cIr ?_ | refine cId ?_ | refine cJd ?_ | with_reducible refine CondN.and ?_ | with_reducible refine CondN.or ?_ | refine CondN.lt (fun hc => ?_) (fun hc => ?_) | refine CondN.le (fun hc => ?_) (fun hc => ?_) | refine CondN.dec (fun hc => ?_) (fun hc => ?_) | refine CondN.any (fun hc => ?_) (fun hc => ?_) | refine nS ?_ | refine iA ?_ | refine iB ?_ | refine iC fun x hx => ?_ | refine iD fun x hx => ?_ | refine iE ?_ | refine iF ?_ | refine iG ?_ | refine iH fun x hx => ?_ | refine iI fun x hx => ?_ | refine iJ ?_ | refine hB ?_ | refine aP ?_ | refine .last ?_ | refine .last2 ?_ | refine zN fun k hk => ?_ | refine aR fun k hk => ?_ | refine mA ?_ | refine mS (fun hc => ?_) (fun hc => ?_) | refine RetP.nrm ?_) <;> conv => whnf)
  | false =>
    rw [hg] at hG
    obtain ⟨hp, hl, hx⟩ := of_great30 hg
    have hA := all_ok (p := p) (plans := plans) hp (fun x h => (hx x h).1) (by omega)
    have hR := refAll_ok (p := p) (plans := plans) hp (fun x h => (hx x h).1) (by omega)
    have hal := allJ_len (p := p) (plans := plans) (fun x h => (hx x h).1) plans.length
    have hS := sameAll_ok (a := allAc p plans) (by unfold allAc; omega)
    refine Fun.of (op_constraintlaw30_LookupAccess (by simp) ?_) rfl rfl
    conv => whnf
    conv => whnf
    repeat' ((first | refine CallN.fn (hG) ?_ | refine CallP.fn (hG) ?_ | refine CallN.fn (hA) ?_ | refine CallP.fn (hA) ?_ | refine CallN.fn (hR) ?_ | refine CallP.fn (hR) ?_ | refine CallN.fn (hS) ?_ | refine CallP.fn (hS) ?_ | refine cY ?_ | refine cN ?_ | refine .not ?_ | refine wI ?_ | refine .map ?_ | refine .nil ?_ | refine .one ?_ | refine .app ?_ | refine .set ?_ | refine .rep ?_ | refine .any ?_ | refine cI ?_ | refine cJ ?_ | refine cYa ?_ | refine cNa ?_ | refine cIa ?_ | refine cJa ?_ | refine cIr ?_ | refine cId ?_ | refine cJd ?_ | with_reducible refine CondN.and ?_ | with_reducible refine CondN.or ?_ | refine CondN.lt (fun hc => ?_) (fun hc => ?_) | refine CondN.le (fun hc => ?_) (fun hc => ?_) | refine CondN.dec (fun hc => ?_) (fun hc => ?_) | refine CondN.any (fun hc => ?_) (fun hc => ?_) | refine nS ?_ | refine iA ?_ | refine iB ?_ | refine iC fun x hx => ?_ | refine iD fun x hx => ?_ | refine iE ?_ | refine iF ?_ | refine iG ?_ | refine iH fun x hx => ?_ | refine iI fun x hx => ?_ | refine iJ ?_ | refine hB ?_ | refine aP ?_ | refine .last ?_ | refine .last2 ?_ | refine zN fun k hk => ?_ | refine aR fun k hk => ?_ | refine mA ?_ | refine mS (fun hc => ?_) (fun hc => ?_) | refine RetP.nrm ?_) <;> conv => whnf)
    refine LoopP.count (fb := true) plans.length (fun st_ j => st_.sets [(8, .int .i64 j)]) (fun _ => True) trivial ?_ (fun j hj _ => ?_) (fun _ => ?_)
    · refine EndN.at_ ?_ rfl
      conv => whnf
      refine And.intro ?_ ?_ <;> conv => whnf
      all_goals repeat' ((first | refine vE ?_ | refine vI ?_ | refine vB ?_ | refine vC ?_ | refine vN ?_ | refine xB ?_ | exact True.intro | ((first | refine WkN.sl ?_ ?_ | refine vD ?_ ?_ | refine WkN.norm ?_ ?_ | refine BxN.mk ?_ ?_); (focus (simp [AV.norm, AV.norm1, ]; done)))) <;> conv => whnf)
    · obtain ⟨x, hxj⟩ : ∃ x, plans[j]? = some x := ⟨_, List.getElem?_eq_getElem hj⟩
      have hxo := hx x (List.mem_of_getElem? hxj)
      have hP := fun k : Int => pick_ok (p := p) (l := allAc p plans) (x := x) (k := k) hp
      have hQ := fun k : Int => refPick_ok (p := p) (l := allAc p plans) (x := x) (k := k) hp
      have hK := fun k : Int => key_ok (p := p) (x := x) (k := k) hp (headI_len hxo.2)
      have hL := fun k : Int => refKey_ok (p := p) (x := x) (k := k) hp (headI_len hxo.2)
      conv => whnf
      repeat' ((first | refine cY ?_ | refine cN ?_ | refine .not ?_ | refine wI ?_ | refine .map ?_ | refine .nil ?_ | refine .one ?_ | refine .app ?_ | refine .set ?_ | refine .rep ?_ | refine .any ?_ | refine cI ?_ | refine cJ ?_ | refine cYa ?_ | refine cNa ?_ | refine cIa ?_ | refine cJa ?_ | refine cIr ?_ | refine cId ?_ | refine cJd ?_ | with_reducible refine CondN.and ?_ | with_reducible refine CondN.or ?_ | refine CondN.lt (fun hc => ?_) (fun hc => ?_) | refine CondN.le (fun hc => ?_) (fun hc => ?_) | refine CondN.dec (fun hc => ?_) (fun hc => ?_) | refine CondN.any (fun hc => ?_) (fun hc => ?_) | refine nS ?_ | refine iA ?_ | refine iB ?_ | refine iC fun x hx => ?_ | refine iD fun x hx => ?_ | refine iE ?_ | refine iF ?_ | refine iG ?_ | refine iH fun x hx => ?_ | refine iI fun x hx => ?_ | refine iJ ?_ | refine hB ?_ | refine aP ?_ | refine .last ?_ | refine .last2 ?_ | refine zN fun k hk => ?_ | refine aR fun k hk => ?_ | refine mA ?_ | refine mS (fun hc => ?_) (fun hc => ?_) | refine RetP.nrm ?_) <;> conv => whnf)
      refine LoopP.count (fb := true) x.order.length (fun st_ i => st_.sets [(9, .int .i64 i)]) (fun _ => True) trivial ?_ (fun i hi _ => ?_) (fun _ => ?_)
      · refine EndN.at_ ?_ rfl
        conv => whnf
        refine And.intro ?_ ?_ <;> conv => whnf
        all_goals repeat' ((first | refine vE ?_ | refine vI ?_ | refine vB ?_ | refine vC ?_ | refine vN ?_ | refine xB ?_ | exact True.intro | ((first | refine WkN.sl ?_ ?_ | refine vD ?_ ?_ | refine WkN.norm ?_ ?_ | refine BxN.mk ?_ ?_); (focus (simp [AV.norm, AV.norm1, ]; done)))) <;> conv => whnf)
      · conv => whnf
        repeat' ((first | refine CallN.fn (hP i) ?_ | refine CallP.fn (hP i) ?_ | refine CallN.fn (hQ i) ?_ | refine CallP.fn (hQ i) ?_ | refine CallN.fn (hK i) ?_ | refine CallP.fn (hK i) ?_ | refine CallN.fn (hL i) ?_ | refine CallP.fn (hL i) ?_ | refine CallN.fn (sameKey_ok) ?_ | refine CallP.fn (sameKey_ok) ?_ | refine cY ?_ | refine cN ?_ | refine .not ?_ | refine wI ?_ | refine .map ?_ | refine .nil ?_ | refine .one ?_ | refine .app ?_ | refine .set ?_ | refine .rep ?_ | refine .any ?_ | refine cI ?_ | refine cJ ?_ | refine cYa ?_ | refine cNa ?_ | refine cIa ?_ | refine cJa ?_ | refine cIr ?_ | refine cId ?_ | refine cJd ?_ | with_reducible refine CondN.and ?_ | with_reducible refine CondN.or ?_ | refine CondN.lt (fun hc => ?_) (fun hc => ?_) | refine CondN.le (fun hc => ?_) (fun hc => ?_) | refine CondN.dec (fun hc => ?_) (fun hc => ?_) | refine CondN.any (fun hc => ?_) (fun hc => ?_) | refine nS ?_ | refine iA ?_ | refine iB ?_ | refine iC fun x hx => ?_ | refine iD fun x hx => ?_ | refine iE ?_ | refine iF ?_ | refine iG ?_ | refine iH fun x hx => ?_ | refine iI fun x hx => ?_ | refine iJ ?_ | refine hB ?_ | refine aP ?_ | refine .last ?_ | refine .last2 ?_ | refine zN fun k hk => ?_ | refine aR fun k hk => ?_ | refine mA ?_ | refine mS (fun hc => ?_) (fun hc => ?_) | refine RetP.nrm ?_) <;> conv => whnf)
        all_goals first | (exfalso; omega) | skip
        refine ⟨trivial, ?_⟩
        refine EndN.at_ ?_ rfl
        conv => whnf
        refine And.intro ?_ ?_ <;> conv => whnf
        all_goals repeat' ((first | refine vE ?_ | refine vI ?_ | refine vB ?_ | refine vC ?_ | refine vN ?_ | refine xB ?_ | exact True.intro | ((first | refine WkN.sl ?_ ?_ | refine vD ?_ ?_ | refine WkN.norm ?_ ?_ | refine BxN.mk ?_ ?_); (focus (simp [AV.norm, AV.norm1, ]; done)))) <;> conv => whnf)
      · conv => whnf
        repeat' ((first | refine CallN.fn (hP k) ?_ | refine CallP.fn (hP k) ?_ | refine CallN.fn (hQ k) ?_ | refine CallP.fn (hQ k) ?_ | refine CallN.fn (hK k) ?_ | refine CallP.fn (hK k) ?_ | refine CallN.fn (hL k) ?_ | refine CallP.fn (hL k) ?_ | refine CallN.fn (sameKey_ok) ?_ | refine CallP.fn (sameKey_ok) ?_ | refine cY ?_ | refine cN ?_ | refine .not ?_ | refine wI ?_ | refine .map ?_ | refine .nil ?_ | refine .one ?_ | refine .app ?_ | refine .set ?_ | refine .rep ?_ | refine .any ?_ | refine cI ?_ | refine cJ ?_ | refine cYa ?_ | refine cNa ?_ | refine cIa ?_ | refine cJa ?_ | refine cIr ?_ | refine cId ?_ | refine cJd ?_ | with_reducible refine CondN.and ?_ | with_reducible refine CondN.or ?_ | refine CondN.lt (fun hc => ?_) (fun hc => ?_) | refine CondN.le (fun hc => ?_) (fun hc => ?_) | refine CondN.dec (fun hc => ?_) (fun hc => ?_) | refine CondN.any (fun hc => ?_) (fun hc => ?_) | refine nS ?_ | refine iA ?_ | refine iB ?_ | refine iC fun x hx => ?_ | refine iD fun x hx => ?_ | refine iE ?_ | refine iF ?_ | refine iG ?_ | refine iH fun x hx => ?_ | refine iI fun x hx => ?_ | refine iJ ?_ | refine hB ?_ | refine aP ?_ | refine .last ?_ | refine .last2 ?_ | refine zN fun k hk => ?_ | refine aR fun k hk => ?_ | refine mA ?_ | refine mS (fun hc => ?_) (fun hc => ?_) | refine RetP.nrm ?_) <;> conv => whnf)
        all_goals first | (exfalso; omega) | skip
        refine ⟨trivial, ?_⟩
        refine EndN.at_ ?_ rfl
        conv => whnf
        refine And.intro ?_ ?_ <;> conv => whnf
        all_goals repeat' ((first | refine vE ?_ | refine vI ?_ | refine vB ?_ | refine vC ?_ | refine vN ?_ | refine xB ?_ | exact True.intro | ((first | refine WkN.sl ?_ ?_ | refine vD ?_ ?_ | refine WkN.norm ?_ ?_ | refine BxN.mk ?_ ?_); (focus (simp [AV.norm, AV.norm1, ]; done)))) <;> conv => whnf)
    · conv => whnf
      repeat' ((first | refine CallN.fn (live30_ok) ?_ | refine CallP.fn (live30_ok) ?_ | refine cY ?_ | refine cN ?_ | refine .not ?_ | refine wI ?_ | refine .map ?_ | refine .nil ?_ | refine .one ?_ | refine .app ?_ | refine .set ?_ | refine .rep ?_ | refine .any ?_ | refine cI ?_ | refine cJ ?_ | refine cYa ?_ | refine cNa ?_ | refine cIa ?_ | refine cJa ?_ | refine cIr ?_ | refine cId ?_ | refine cJd ?_ | with_reducible refine CondN.and ?_ | with_reducible refine CondN.or ?_ | refine CondN.lt (fun hc => ?_) (fun hc => ?_) | refine CondN.le (fun hc => ?_) (fun hc => ?_) | refine CondN.dec (fun hc => ?_) (fun hc => ?_) | refine CondN.any (fun hc => ?_) (fun hc => ?_) | refine nS ?_ | refine iA ?_ | refine iB ?_ | refine iC fun x hx => ?_ | refine iD fun x hx => ?_ | refine iE ?_ | refine iF ?_ | refine iG ?_ | refine iH fun x hx => ?_ | refine iI fun x hx => ?_ | refine iJ ?_ | refine hB ?_ | refine aP ?_ | refine .last ?_ | refine .last2 ?_ | refine zN fun k hk => ?_ | refine aR fun k hk => ?_ | refine mA ?_ | refine mS (fun hc => ?_) (fun hc => ?_) | refine RetP.nrm ?_) <;> conv => whnf)
end Go.CK
