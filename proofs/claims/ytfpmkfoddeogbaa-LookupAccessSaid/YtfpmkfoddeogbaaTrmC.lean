/-
  TERMS, in the abstract machine: small terms. By an AI agent.
-/
import Derived.Test.YtfpmkfoddeogbaaTrmB
set_option linter.unusedSimpArgs false
set_option linter.unusedVariables false
namespace Go.CK
open Go.AM Go.Proofs
/-! ### small terms -/
mutual
def lft : Tm → Int → Int → Int
  | .mk _ _ _ args, n, d => if d < 1 ∨ n - 1 < 0 then -1 else lfts args (n - 1) (d - 1)
def lfts : List Tm → Int → Int → Int
  | [], n, _ => n
  | t :: r, n, d => if lft t n d < 0 then -1 else lfts r (lft t n d) d
end
theorem lft_mk (t : Tm) (n d : Int) : lft t n d = if d < 1 ∨ n - 1 < 0 then -1 else lfts t.args (n - 1) (d - 1) := by
  obtain ⟨k, m, s, l⟩ := t
  rw [lft]; rfl
theorem lft_le (t : Tm) : ∀ n d, -1 ≤ n → -1 ≤ lft t n d ∧ lft t n d ≤ n := by
  induction t using Tm.ind_all with
  | h k m s l ih =>
    have hl : ∀ (r : List Tm), (∀ t ∈ r, t ∈ l) → ∀ n d, -1 ≤ n → -1 ≤ lfts r n d ∧ lfts r n d ≤ n := fun r => by
      induction r with
      | nil => intro _ n d hn; simp only [lfts]; omega
      | cons t r ihr =>
        intro hm n d hn
        have h1 := ih t (hm t (by simp)) n d hn
        have h2 := ihr (fun x hx => hm x (by simp [hx])) (lft t n d) d h1.1
        simp only [lfts]
        split <;> omega
    intro n d hn
    rw [lft]
    have := hl l (fun t h => h) (n - 1) (d - 1)
    split
    · omega
    · have := this (by omega); omega
theorem lfts_drop {l : List Tm} {j : Nat} {x : Tm} (h : l[j]? = some x) (n d : Int) : lfts (l.drop j) n d = if lft x n d < 0 then -1 else lfts (l.drop (j + 1)) (lft x n d) d := by
  have hj : j < l.length := (List.getElem?_eq_some_iff.1 h).1
  rw [List.drop_eq_getElem_cons hj, (List.getElem?_eq_some_iff.1 h).2, lfts]
set_option maxRecDepth 100000 in
theorem left_ok (a : Tm) : ∀ n d : Int, -1 ≤ n → n ≤ 1000 → 0 ≤ d → d ≤ 100 → Fun Try.prog 100 [a.avw, .int .i64 n, .int .i64 d] (.int .i64 (lft a n d)) := by
  induction a using Tm.ind_all with
  | h k n s l ih =>
  intro m d h1 h2 h3 h4
  generalize ha : Tm.mk k n s l = a
  have ih : ∀ t ∈ a.args, ∀ n d : Int, -1 ≤ n → n ≤ 1000 → 0 ≤ d → d ≤ 100 → Fun Try.prog 100 [t.avw, .int .i64 n, .int .i64 d] (.int .i64 (lft t n d)) := by subst ha; exact ih
  clear ha
  refine Fun.assume rfl fun hg0 => ?_
  refine Fun.of (op_constraintlaw04_left (by simp) ?_) rfl rfl
  conv => whnf
  have hg := (good_tm (hg0 a.avw (by simp))).2.1
  conv => whnf
  repeat' ((first | refine cY ?_ | refine cN ?_ | refine .not ?_ | refine wI ?_ | refine .map ?_ | refine .nil ?_ | refine .one ?_ | refine .app ?_ | refine .set ?_ | refine .rep ?_ | refine .any ?_ | refine cI ?_ | refine cJ ?_ | refine cYa ?_ | refine cNa ?_ | refine cIa ?_ | refine cJa ?_ | refine cIr ?_ | refine cId ?_ | refine cJd ?_ | with_reducible refine CondN.and ?_ | with_reducible refine CondN.or ?_ | refine CondN.lt (fun hc => ?_) (fun hc => ?_) | refine CondN.le (fun hc => ?_) (fun hc => ?_) | refine CondN.dec (fun hc => ?_) (fun hc => ?_) | refine CondN.any (fun hc => ?_) (fun hc => ?_) | refine nS ?_ | refine iA ?_ | refine iB ?_ | refine iC fun x hx => ?_ | refine iD fun x hx => ?_ | refine iE ?_ | refine iF ?_ | refine iG ?_ | refine iH fun x hx => ?_ | refine iI fun x hx => ?_ | refine iJ ?_ | refine hB ?_ | refine aP ?_ | refine .last ?_ | refine .last2 ?_ | refine zN fun k hk => ?_ | refine aR fun k hk => ?_ | refine mA ?_ | refine mS (fun hc => ?_) (fun hc => ?_) | refine RetP.nrm ?_) <;> conv => whnf)
  · rw [lft_mk, if_pos (.inl hc)]
  · rw [lft_mk, if_pos (.inr hc)]
  · have e0 : lft a m d = lfts a.args (m - 1) (d - 1) := by rw [lft_mk, if_neg (by omega)]
    refine LoopP.by (fb := true) (fun s (q : Nat × Int) => s.sets [(1, .int .i64 q.2), (19, .int .i64 q.1)]) (fun q => q.1 ≤ a.args.length ∧ (0 ≤ q.2 ∧ q.2 ≤ 1000) ∧ lfts (a.args.drop q.1) q.2 (d - 1) = lft a m d) (fun q => a.args.length - q.1) (0, m - 1) ⟨Nat.zero_le _, by simp only; omega, by rw [e0]; rfl⟩ ?_ ?_
    · refine EndN.at_ ?_ rfl
      conv => whnf
      refine And.intro ?_ ?_ <;> conv => whnf
      all_goals repeat' ((first | refine vE ?_ | refine vI ?_ | refine vB ?_ | refine vC ?_ | refine vN ?_ | refine xB ?_ | exact True.intro | ((first | refine WkN.sl ?_ ?_ | refine vD ?_ ?_ | refine WkN.norm ?_ ?_ | refine BxN.mk ?_ ?_); (focus (simp [AV.norm, AV.norm1, ]; done)))) <;> conv => whnf)
    · rintro ⟨j, r⟩ ⟨hj, hr, he⟩
      dsimp only at hj hr he ⊢
      by_cases hlt : j < a.args.length
      · obtain ⟨x, hx⟩ : ∃ x, a.args[j]? = some x := ⟨_, List.getElem?_eq_getElem hlt⟩
        rw [lfts_drop hx] at he
        have hb := lft_le x r (d - 1) (by omega)
        conv => whnf
        repeat' ((first | refine CallN.fn (ih _ (List.mem_of_getElem? (by assumption)) _ _ (by omega) (by omega) (by omega) (by omega)) ?_ | refine CallP.fn (ih _ (List.mem_of_getElem? (by assumption)) _ _ (by omega) (by omega) (by omega) (by omega)) ?_ | refine cY ?_ | refine cN ?_ | refine .not ?_ | refine wI ?_ | refine .map ?_ | refine .nil ?_ | refine .one ?_ | refine .app ?_ | refine .set ?_ | refine .rep ?_ | refine .any ?_ | refine cI ?_ | refine cJ ?_ | refine cYa ?_ | refine cNa ?_ | refine cIa ?_ | refine cJa ?_ | refine cIr ?_ | refine cId ?_ | refine cJd ?_ | with_reducible refine CondN.and ?_ | with_reducible refine CondN.or ?_ | refine CondN.lt (fun hc => ?_) (fun hc => ?_) | refine CondN.le (fun hc => ?_) (fun hc => ?_) | refine CondN.dec (fun hc => ?_) (fun hc => ?_) | refine CondN.any (fun hc => ?_) (fun hc => ?_) | refine nS ?_ | refine iA ?_ | refine iB ?_ | refine iC fun x hx => ?_ | refine iD fun x hx => ?_ | refine iE ?_ | refine iF ?_ | refine iG ?_ | refine iH fun x hx => ?_ | refine iI fun x hx => ?_ | refine iJ ?_ | refine hB ?_ | refine aP ?_ | refine .last ?_ | refine .last2 ?_ | refine zN fun k hk => ?_ | refine aR fun k hk => ?_ | refine mA ?_ | refine mS (fun hc => ?_) (fun hc => ?_) | refine RetP.nrm ?_) <;> conv => whnf)
        · rw [if_pos (by assumption)] at he
          rw [he]
        · rw [if_neg (by omega)] at he
          refine ⟨(j + 1, lft x r (d - 1)), ⟨⟨hlt, by simp only; omega, he⟩, by simp only; omega⟩, ?_⟩
          refine EndN.at_ ?_ rfl
          conv => whnf
          refine And.intro ?_ ?_ <;> conv => whnf
          all_goals repeat' ((first | refine vE ?_ | refine vI ?_ | refine vB ?_ | refine vC ?_ | refine vN ?_ | refine xB ?_ | exact True.intro | ((first | refine WkN.sl ?_ ?_ | refine vD ?_ ?_ | refine WkN.norm ?_ ?_ | refine BxN.mk ?_ ?_); (focus (simp [AV.norm, AV.norm1, ]; done)))) <;> conv => whnf)
      · have hje : j = a.args.length := by omega
        subst hje
        rw [List.drop_length, lfts] at he
        conv => whnf
        repeat' ((first | refine cY ?_ | refine cN ?_ | refine .not ?_ | refine wI ?_ | refine .map ?_ | refine .nil ?_ | refine .one ?_ | refine .app ?_ | refine .set ?_ | refine .rep ?_ | refine .any ?_ | refine cI ?_ | refine cJ ?_ | refine cYa ?_ | refine cNa ?_ | refine cIa ?_ | refine cJa ?_ | refine cIr ?_ | refine cId ?_ | refine cJd ?_ | with_reducible refine CondN.and ?_ | with_reducible refine CondN.or ?_ | refine CondN.lt (fun hc => ?_) (fun hc => ?_) | refine CondN.le (fun hc => ?_) (fun hc => ?_) | refine CondN.dec (fun hc => ?_) (fun hc => ?_) | refine CondN.any (fun hc => ?_) (fun hc => ?_) | refine nS ?_ | refine iA ?_ | refine iB ?_ | refine iC fun x hx => ?_ | refine iD fun x hx => ?_ | refine iE ?_ | refine iF ?_ | refine iG ?_ | refine iH fun x hx => ?_ | refine iI fun x hx => ?_ | refine iJ ?_ | refine hB ?_ | refine aP ?_ | refine .last ?_ | refine .last2 ?_ | refine zN fun k hk => ?_ | refine aR fun k hk => ?_ | refine mA ?_ | refine mS (fun hc => ?_) (fun hc => ?_) | refine RetP.nrm ?_) <;> conv => whnf)
        rw [he]
def Tm.small (t : Tm) : Bool := decide (0 ≤ lft t 1000 100)
set_option maxRecDepth 100000 in
theorem Small_ok (a : Tm) : Fun Try.prog 78 [a.avw] (.bool a.small) := by
  refine Fun.of (op_constraintlaw04_Small (by simp) ?_) rfl rfl
  conv => whnf
  conv => whnf
  repeat' ((first | refine CallN.fn (left_ok _ _ _ (by omega) (by omega) (by omega) (by omega)) ?_ | refine CallP.fn (left_ok _ _ _ (by omega) (by omega) (by omega) (by omega)) ?_ | refine cY ?_ | refine cN ?_ | refine .not ?_ | refine wI ?_ | refine .map ?_ | refine .nil ?_ | refine .one ?_ | refine .app ?_ | refine .set ?_ | refine .rep ?_ | refine .any ?_ | refine cI ?_ | refine cJ ?_ | refine cYa ?_ | refine cNa ?_ | refine cIa ?_ | refine cJa ?_ | refine cIr ?_ | refine cId ?_ | refine cJd ?_ | with_reducible refine CondN.and ?_ | with_reducible refine CondN.or ?_ | refine CondN.lt (fun hc => ?_) (fun hc => ?_) | refine CondN.le (fun hc => ?_) (fun hc => ?_) | refine CondN.dec (fun hc => ?_) (fun hc => ?_) | refine CondN.any (fun hc => ?_) (fun hc => ?_) | refine nS ?_ | refine iA ?_ | refine iB ?_ | refine iC fun x hx => ?_ | refine iD fun x hx => ?_ | refine iE ?_ | refine iF ?_ | refine iG ?_ | refine iH fun x hx => ?_ | refine iI fun x hx => ?_ | refine iJ ?_ | refine hB ?_ | refine aP ?_ | refine .last ?_ | refine .last2 ?_ | refine zN fun k hk => ?_ | refine aR fun k hk => ?_ | refine mA ?_ | refine mS (fun hc => ?_) (fun hc => ?_) | refine RetP.nrm ?_) <;> conv => whnf)
  all_goals rfl
end Go.CK
