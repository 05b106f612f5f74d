/-
  LOOKUP, in the abstract machine: the functions' contracts, 3: what is great. By an AI agent.
-/
import Derived.Test.YtfpmkfoddeogbaaLkpB
set_option linter.unusedSimpArgs false
set_option linter.unusedVariables false
namespace Go.CK
open Go.AM Go.Proofs
/-! ### what is great -/
def greatP : List (List Tm × ByteArray) → Int → Bool
  | [], most => decide (most < 0)
  | a :: l, most => if most < 0 then true else greatP l (weighI a.1 (most - 1 - (a.2.size : Int).tdiv 8) 64)
theorem greatP_neg (l : List (List Tm × ByteArray)) {most : Int} (h : most < 0) : greatP l most = true := by
  cases l with
  | nil => simpa [greatP] using h
  | cons a l => rw [greatP, if_pos h]
theorem greatP_step {l : List (List Tm × ByteArray)} {j : Nat} {x : List Tm × ByteArray} (hx : l[j]? = some x) {most : Int} (h : 0 ≤ most) : greatP (l.drop j) most = greatP (l.drop (j + 1)) (weighI x.1 (most - 1 - (x.2.size : Int).tdiv 8) 64) := by
  obtain ⟨h1, rfl⟩ := List.getElem?_eq_some_iff.1 hx
  rw [List.drop_eq_getElem_cons h1, greatP, if_neg (by omega)]
def at2 (a : At) : List Tm × ByteArray := (a.args, a.name)
def gl2 (a : Gl) : List Tm × ByteArray := (a.args, a.name)
set_option maxRecDepth 100000 in
theorem greatAtoms_ok {l : List At} {most : Int} (b1 : -1 ≤ most) (b2 : most ≤ 100000) : Fun Try.prog 84 [slA At.av l, .int .i64 most] (.bool (greatP (l.map at2) most)) := by
  refine Fun.assume rfl fun hg0 => ?_
  have hgs := good_sla (hg0 (slA At.av l) (by simp))
  have hg := hgs.1
  have hml : (l.map at2).length = l.length := by simp
  refine Fun.of (op_constraintref03_GreatAtoms (by simp) ?_) rfl rfl
  conv => whnf
  conv => whnf
  repeat' ((first | refine cY ?_ | refine cN ?_ | refine .not ?_ | refine wI ?_ | refine .map ?_ | refine .nil ?_ | refine .one ?_ | refine .app ?_ | refine .set ?_ | refine .rep ?_ | refine .any ?_ | refine cI ?_ | refine cJ ?_ | refine cYa ?_ | refine cNa ?_ | refine cIa ?_ | refine cJa ?_ | refine cIr ?_ | refine cId ?_ | refine cJd ?_ | with_reducible refine CondN.and ?_ | with_reducible refine CondN.or ?_ | refine CondN.lt (fun hc => ?_) (fun hc => ?_) | refine CondN.le (fun hc => ?_) (fun hc => ?_) | refine CondN.dec (fun hc => ?_) (fun hc => ?_) | refine CondN.any (fun hc => ?_) (fun hc => ?_) | refine nS ?_ | refine iA ?_ | refine iB ?_ | refine iC fun x hx => ?_ | refine iD fun x hx => ?_ | refine iE ?_ | refine iF ?_ | refine iG ?_ | refine iH fun x hx => ?_ | refine iI fun x hx => ?_ | refine iJ ?_ | refine hB ?_ | refine aP ?_ | refine .last ?_ | refine .last2 ?_ | refine zN fun k hk => ?_ | refine aR fun k hk => ?_ | refine mA ?_ | refine mS (fun hc => ?_) (fun hc => ?_) | refine RetP.nrm ?_) <;> conv => whnf)
  refine LoopP.by (fb := true) (fun s (q : Nat × Int) => s.sets [(1, .int .i64 q.2), (5, .int .i64 q.1)]) (fun q => q.1 ≤ l.length ∧ (-1 ≤ q.2 ∧ q.2 ≤ 100000) ∧ greatP ((l.map at2).drop q.1) q.2 = greatP (l.map at2) most) (fun q => l.length - q.1) (0, most) ⟨Nat.zero_le _, by simp only; omega, rfl⟩ ?_ ?_
  · refine EndN.at_ ?_ rfl
    conv => whnf
    refine And.intro ?_ ?_ <;> conv => whnf
    all_goals repeat' ((first | refine vE ?_ | refine vI ?_ | refine vB ?_ | refine vC ?_ | refine vN ?_ | refine xB ?_ | exact True.intro | ((first | refine WkN.sl ?_ ?_ | refine vD ?_ ?_ | refine WkN.norm ?_ ?_ | refine BxN.mk ?_ ?_); (focus (simp [AV.norm, AV.norm1, ]; done)))) <;> conv => whnf)
  · rintro ⟨j, r⟩ ⟨hj, hr, he⟩
    dsimp only at hj hr he ⊢
    by_cases hlt : j < l.length
    · obtain ⟨x, hx⟩ : ∃ x, l[j]? = some x := ⟨_, List.getElem?_eq_getElem hlt⟩
      have hx2 : (l.map at2)[j]? = some (at2 x) := by rw [List.getElem?_map, hx]; rfl
      have hxs := (At.good (hgs.2 x (List.mem_of_getElem? hx))).1
      by_cases hr0 : 0 ≤ r
      · rw [greatP_step hx2 hr0, show (at2 x).1 = x.args from rfl, show (at2 x).2 = x.name from rfl] at he
        have hw := weigh_le (.mk 0 0 .empty x.args) (r - 1 - (x.name.size : Int).tdiv 8) 64
        rw [show (Tm.mk 0 0 .empty x.args).args = x.args from rfl] at hw
        have h8 := tdiv8 x.name.size
        conv => whnf
        repeat' ((first | refine CallN.fn (weigh_ok (by omega) (by omega) (by omega) (by omega)) ?_ | refine CallP.fn (weigh_ok (by omega) (by omega) (by omega) (by omega)) ?_ | refine cY ?_ | refine cN ?_ | refine .not ?_ | refine wI ?_ | refine .map ?_ | refine .nil ?_ | refine .one ?_ | refine .app ?_ | refine .set ?_ | refine .rep ?_ | refine .any ?_ | refine cI ?_ | refine cJ ?_ | refine cYa ?_ | refine cNa ?_ | refine cIa ?_ | refine cJa ?_ | refine cIr ?_ | refine cId ?_ | refine cJd ?_ | with_reducible refine CondN.and ?_ | with_reducible refine CondN.or ?_ | refine CondN.lt (fun hc => ?_) (fun hc => ?_) | refine CondN.le (fun hc => ?_) (fun hc => ?_) | refine CondN.dec (fun hc => ?_) (fun hc => ?_) | refine CondN.any (fun hc => ?_) (fun hc => ?_) | refine nS ?_ | refine iA ?_ | refine iB ?_ | refine iC fun x hx => ?_ | refine iD fun x hx => ?_ | refine iE ?_ | refine iF ?_ | refine iG ?_ | refine iH fun x hx => ?_ | refine iI fun x hx => ?_ | refine iJ ?_ | refine hB ?_ | refine aP ?_ | refine .last ?_ | refine .last2 ?_ | refine zN fun k hk => ?_ | refine aR fun k hk => ?_ | refine mA ?_ | refine mS (fun hc => ?_) (fun hc => ?_) | refine RetP.nrm ?_) <;> conv => whnf)
        refine ⟨(j + 1, weighI x.args (r - 1 - (x.name.size : Int).tdiv 8) 64), ⟨⟨hlt, ?_, he⟩, by simp only; omega⟩, ?_⟩
        · simp only; omega
        · refine EndN.at_ ?_ rfl
          conv => whnf
          refine And.intro ?_ ?_ <;> conv => whnf
          all_goals repeat' ((first | refine vE ?_ | refine vI ?_ | refine vB ?_ | refine vC ?_ | refine vN ?_ | refine xB ?_ | exact True.intro | ((first | refine WkN.sl ?_ ?_ | refine vD ?_ ?_ | refine WkN.norm ?_ ?_ | refine BxN.mk ?_ ?_); (focus (simp [AV.norm, AV.norm1, ]; done)))) <;> conv => whnf)
      · rw [greatP_neg _ (by omega)] at he
        conv => whnf
        repeat' ((first | refine cY ?_ | refine cN ?_ | refine .not ?_ | refine wI ?_ | refine .map ?_ | refine .nil ?_ | refine .one ?_ | refine .app ?_ | refine .set ?_ | refine .rep ?_ | refine .any ?_ | refine cI ?_ | refine cJ ?_ | refine cYa ?_ | refine cNa ?_ | refine cIa ?_ | refine cJa ?_ | refine cIr ?_ | refine cId ?_ | refine cJd ?_ | with_reducible refine CondN.and ?_ | with_reducible refine CondN.or ?_ | refine CondN.lt (fun hc => ?_) (fun hc => ?_) | refine CondN.le (fun hc => ?_) (fun hc => ?_) | refine CondN.dec (fun hc => ?_) (fun hc => ?_) | refine CondN.any (fun hc => ?_) (fun hc => ?_) | refine nS ?_ | refine iA ?_ | refine iB ?_ | refine iC fun x hx => ?_ | refine iD fun x hx => ?_ | refine iE ?_ | refine iF ?_ | refine iG ?_ | refine iH fun x hx => ?_ | refine iI fun x hx => ?_ | refine iJ ?_ | refine hB ?_ | refine aP ?_ | refine .last ?_ | refine .last2 ?_ | refine zN fun k hk => ?_ | refine aR fun k hk => ?_ | refine mA ?_ | refine mS (fun hc => ?_) (fun hc => ?_) | refine RetP.nrm ?_) <;> conv => whnf)
        rw [← he]; simp; omega
    · have hje : j = l.length := by omega
      subst hje
      rw [← hml, List.drop_length, greatP] at he
      conv => whnf
      repeat' ((first | refine cY ?_ | refine cN ?_ | refine .not ?_ | refine wI ?_ | refine .map ?_ | refine .nil ?_ | refine .one ?_ | refine .app ?_ | refine .set ?_ | refine .rep ?_ | refine .any ?_ | refine cI ?_ | refine cJ ?_ | refine cYa ?_ | refine cNa ?_ | refine cIa ?_ | refine cJa ?_ | refine cIr ?_ | refine cId ?_ | refine cJd ?_ | with_reducible refine CondN.and ?_ | with_reducible refine CondN.or ?_ | refine CondN.lt (fun hc => ?_) (fun hc => ?_) | refine CondN.le (fun hc => ?_) (fun hc => ?_) | refine CondN.dec (fun hc => ?_) (fun hc => ?_) | refine CondN.any (fun hc => ?_) (fun hc => ?_) | refine nS ?_ | refine iA ?_ | refine iB ?_ | refine iC fun x hx => ?_ | refine iD fun x hx => ?_ | refine iE ?_ | refine iF ?_ | refine iG ?_ | refine iH fun x hx => ?_ | refine iI fun x hx => ?_ | refine iJ ?_ | refine hB ?_ | refine aP ?_ | refine .last ?_ | refine .last2 ?_ | refine zN fun k hk => ?_ | refine aR fun k hk => ?_ | refine mA ?_ | refine mS (fun hc => ?_) (fun hc => ?_) | refine RetP.nrm ?_) <;> conv => whnf)
      rw [← he]
set_option maxRecDepth 100000 in
theorem greatGoals_ok {l : List Gl} {most : Int} (b1 : -1 ≤ most) (b2 : most ≤ 100000) : Fun Try.prog 107 [slA Gl.av l, .int .i64 most] (.bool (greatP (l.map gl2) most)) := by
  refine Fun.assume rfl fun hg0 => ?_
  have hgs := good_sla (hg0 (slA Gl.av l) (by simp))
  have hg := hgs.1
  have hml : (l.map gl2).length = l.length := by simp
  refine Fun.of (op_constraintref03_GreatGoals (by simp) ?_) rfl rfl
  conv => whnf
  conv => whnf
  repeat' ((first | refine cY ?_ | refine cN ?_ | refine .not ?_ | refine wI ?_ | refine .map ?_ | refine .nil ?_ | refine .one ?_ | refine .app ?_ | refine .set ?_ | refine .rep ?_ | refine .any ?_ | refine cI ?_ | refine cJ ?_ | refine cYa ?_ | refine cNa ?_ | refine cIa ?_ | refine cJa ?_ | refine cIr ?_ | refine cId ?_ | refine cJd ?_ | with_reducible refine CondN.and ?_ | with_reducible refine CondN.or ?_ | refine CondN.lt (fun hc => ?_) (fun hc => ?_) | refine CondN.le (fun hc => ?_) (fun hc => ?_) | refine CondN.dec (fun hc => ?_) (fun hc => ?_) | refine CondN.any (fun hc => ?_) (fun hc => ?_) | refine nS ?_ | refine iA ?_ | refine iB ?_ | refine iC fun x hx => ?_ | refine iD fun x hx => ?_ | refine iE ?_ | refine iF ?_ | refine iG ?_ | refine iH fun x hx => ?_ | refine iI fun x hx => ?_ | refine iJ ?_ | refine hB ?_ | refine aP ?_ | refine .last ?_ | refine .last2 ?_ | refine zN fun k hk => ?_ | refine aR fun k hk => ?_ | refine mA ?_ | refine mS (fun hc => ?_) (fun hc => ?_) | refine RetP.nrm ?_) <;> conv => whnf)
  refine LoopP.by (fb := true) (fun s (q : Nat × Int) => s.sets [(1, .int .i64 q.2), (5, .int .i64 q.1)]) (fun q => q.1 ≤ l.length ∧ (-1 ≤ q.2 ∧ q.2 ≤ 100000) ∧ greatP ((l.map gl2).drop q.1) q.2 = greatP (l.map gl2) most) (fun q => l.length - q.1) (0, most) ⟨Nat.zero_le _, by simp only; omega, rfl⟩ ?_ ?_
  · refine EndN.at_ ?_ rfl
    conv => whnf
    refine And.intro ?_ ?_ <;> conv => whnf
    all_goals repeat' ((first | refine vE ?_ | refine vI ?_ | refine vB ?_ | refine vC ?_ | refine vN ?_ | refine xB ?_ | exact True.intro | ((first | refine WkN.sl ?_ ?_ | refine vD ?_ ?_ | refine WkN.norm ?_ ?_ | refine BxN.mk ?_ ?_); (focus (simp [AV.norm, AV.norm1, ]; done)))) <;> conv => whnf)
  · rintro ⟨j, r⟩ ⟨hj, hr, he⟩
    dsimp only at hj hr he ⊢
    by_cases hlt : j < l.length
    · obtain ⟨x, hx⟩ : ∃ x, l[j]? = some x := ⟨_, List.getElem?_eq_getElem hlt⟩
      have hx2 : (l.map gl2)[j]? = some (gl2 x) := by rw [List.getElem?_map, hx]; rfl
      have hxs := (Gl.good (hgs.2 x (List.mem_of_getElem? hx))).1
      by_cases hr0 : 0 ≤ r
      · rw [greatP_step hx2 hr0, show (gl2 x).1 = x.args from rfl, show (gl2 x).2 = x.name from rfl] at he
        have hw := weigh_le (.mk 0 0 .empty x.args) (r - 1 - (x.name.size : Int).tdiv 8) 64
        rw [show (Tm.mk 0 0 .empty x.args).args = x.args from rfl] at hw
        have h8 := tdiv8 x.name.size
        conv => whnf
        repeat' ((first | refine CallN.fn (weigh_ok (by omega) (by omega) (by omega) (by omega)) ?_ | refine CallP.fn (weigh_ok (by omega) (by omega) (by omega) (by omega)) ?_ | refine cY ?_ | refine cN ?_ | refine .not ?_ | refine wI ?_ | refine .map ?_ | refine .nil ?_ | refine .one ?_ | refine .app ?_ | refine .set ?_ | refine .rep ?_ | refine .any ?_ | refine cI ?_ | refine cJ ?_ | refine cYa ?_ | refine cNa ?_ | refine cIa ?_ | refine cJa ?_ | refine cIr ?_ | refine cId ?_ | refine cJd ?_ | with_reducible refine CondN.and ?_ | with_reducible refine CondN.or ?_ | refine CondN.lt (fun hc => ?_) (fun hc => ?_) | refine CondN.le (fun hc => ?_) (fun hc => ?_) | refine CondN.dec (fun hc => ?_) (fun hc => ?_) | refine CondN.any (fun hc => ?_) (fun hc => ?_) | refine nS ?_ | refine iA ?_ | refine iB ?_ | refine iC fun x hx => ?_ | refine iD fun x hx => ?_ | refine iE ?_ | refine iF ?_ | refine iG ?_ | refine iH fun x hx => ?_ | refine iI fun x hx => ?_ | refine iJ ?_ | refine hB ?_ | refine aP ?_ | refine .last ?_ | refine .last2 ?_ | refine zN fun k hk => ?_ | refine aR fun k hk => ?_ | refine mA ?_ | refine mS (fun hc => ?_) (fun hc => ?_) | refine RetP.nrm ?_) <;> conv => whnf)
        refine ⟨(j + 1, weighI x.args (r - 1 - (x.name.size : Int).tdiv 8) 64), ⟨⟨hlt, ?_, he⟩, by simp only; omega⟩, ?_⟩
        · simp only; omega
        · refine EndN.at_ ?_ rfl
          conv => whnf
          refine And.intro ?_ ?_ <;> conv => whnf
          all_goals repeat' ((first | refine vE ?_ | refine vI ?_ | refine vB ?_ | refine vC ?_ | refine vN ?_ | refine xB ?_ | exact True.intro | ((first | refine WkN.sl ?_ ?_ | refine vD ?_ ?_ | refine WkN.norm ?_ ?_ | refine BxN.mk ?_ ?_); (focus (simp [AV.norm, AV.norm1, ]; done)))) <;> conv => whnf)
      · rw [greatP_neg _ (by omega)] at he
        conv => whnf
        repeat' ((first | refine cY ?_ | refine cN ?_ | refine .not ?_ | refine wI ?_ | refine .map ?_ | refine .nil ?_ | refine .one ?_ | refine .app ?_ | refine .set ?_ | refine .rep ?_ | refine .any ?_ | refine cI ?_ | refine cJ ?_ | refine cYa ?_ | refine cNa ?_ | refine cIa ?_ | refine cJa ?_ | refine cIr ?_ | refine cId ?_ | refine cJd ?_ | with_reducible refine CondN.and ?_ | with_reducible refine CondN.or ?_ | refine CondN.lt (fun hc => ?_) (fun hc => ?_) | refine CondN.le (fun hc => ?_) (fun hc => ?_) | refine CondN.dec (fun hc => ?_) (fun hc => ?_) | refine CondN.any (fun hc => ?_) (fun hc => ?_) | refine nS ?_ | refine iA ?_ | refine iB ?_ | refine iC fun x hx => ?_ | refine iD fun x hx => ?_ | refine iE ?_ | refine iF ?_ | refine iG ?_ | refine iH fun x hx => ?_ | refine iI fun x hx => ?_ | refine iJ ?_ | refine hB ?_ | refine aP ?_ | refine .last ?_ | refine .last2 ?_ | refine zN fun k hk => ?_ | refine aR fun k hk => ?_ | refine mA ?_ | refine mS (fun hc => ?_) (fun hc => ?_) | refine RetP.nrm ?_) <;> conv => whnf)
        rw [← he]; simp; omega
    · have hje : j = l.length := by omega
      subst hje
      rw [← hml, List.drop_length, greatP] at he
      conv => whnf
      repeat' ((first | refine cY ?_ | refine cN ?_ | refine .not ?_ | refine wI ?_ | refine .map ?_ | refine .nil ?_ | refine .one ?_ | refine .app ?_ | refine .set ?_ | refine .rep ?_ | refine .any ?_ | refine cI ?_ | refine cJ ?_ | refine cYa ?_ | refine cNa ?_ | refine cIa ?_ | refine cJa ?_ | refine cIr ?_ | refine cId ?_ | refine cJd ?_ | with_reducible refine CondN.and ?_ | with_reducible refine CondN.or ?_ | refine CondN.lt (fun hc => ?_) (fun hc => ?_) | refine CondN.le (fun hc => ?_) (fun hc => ?_) | refine CondN.dec (fun hc => ?_) (fun hc => ?_) | refine CondN.any (fun hc => ?_) (fun hc => ?_) | refine nS ?_ | refine iA ?_ | refine iB ?_ | refine iC fun x hx => ?_ | refine iD fun x hx => ?_ | refine iE ?_ | refine iF ?_ | refine iG ?_ | refine iH fun x hx => ?_ | refine iI fun x hx => ?_ | refine iJ ?_ | refine hB ?_ | refine aP ?_ | refine .last ?_ | refine .last2 ?_ | refine zN fun k hk => ?_ | refine aR fun k hk => ?_ | refine mA ?_ | refine mS (fun hc => ?_) (fun hc => ?_) | refine RetP.nrm ?_) <;> conv => whnf)
      rw [← he]
def gr1 (n : Nat) (most : Int) (r : Rl) : Bool := decide (most < n) || (decide (most < (r.name.size : Int).tdiv 8 + r.keep.length + r.remove.length) || (greatP (r.keep.map at2) most || (greatP (r.remove.map at2) most || (greatP (r.guard.map gl2) most || greatP (r.body.map gl2) most))))
set_option maxRecDepth 100000 in
theorem greatRules_ok {l : List Rl} {most : Int} (b1 : 0 ≤ most) (b2 : most ≤ 100000) : Fun Try.prog 88 [slA Rl.av l, .int .i64 most] (.bool (l.any (gr1 l.length most))) := by
  refine Fun.assume rfl fun hg0 => ?_
  have hgs := good_sla (hg0 (slA Rl.av l) (by simp))
  have hg := hgs.1
  refine Fun.of (op_constraintref03_GreatRules (by simp) ?_) rfl rfl
  conv => whnf
  conv => whnf
  repeat' ((first | refine cY ?_ | refine cN ?_ | refine .not ?_ | refine wI ?_ | refine .map ?_ | refine .nil ?_ | refine .one ?_ | refine .app ?_ | refine .set ?_ | refine .rep ?_ | refine .any ?_ | refine cI ?_ | refine cJ ?_ | refine cYa ?_ | refine cNa ?_ | refine cIa ?_ | refine cJa ?_ | refine cIr ?_ | refine cId ?_ | refine cJd ?_ | with_reducible refine CondN.and ?_ | with_reducible refine CondN.or ?_ | refine CondN.lt (fun hc => ?_) (fun hc => ?_) | refine CondN.le (fun hc => ?_) (fun hc => ?_) | refine CondN.dec (fun hc => ?_) (fun hc => ?_) | refine CondN.any (fun hc => ?_) (fun hc => ?_) | refine nS ?_ | refine iA ?_ | refine iB ?_ | refine iC fun x hx => ?_ | refine iD fun x hx => ?_ | refine iE ?_ | refine iF ?_ | refine iG ?_ | refine iH fun x hx => ?_ | refine iI fun x hx => ?_ | refine iJ ?_ | refine hB ?_ | refine aP ?_ | refine .last ?_ | refine .last2 ?_ | refine zN fun k hk => ?_ | refine aR fun k hk => ?_ | refine mA ?_ | refine mS (fun hc => ?_) (fun hc => ?_) | refine RetP.nrm ?_) <;> conv => whnf)
  refine LoopP.count (fb := true) (l.length) (fun st_ j => st_.sets [(5, .int .i64 j)]) (fun j => ∀ i x, i < j → l[i]? = some x → gr1 l.length most x = false) ?_ ?_ (fun j hj hij => ?_) (fun hij => ?_)
  · exact no_zero
  · refine EndN.at_ ?_ rfl
    conv => whnf
    refine And.intro ?_ ?_ <;> conv => whnf
    all_goals repeat' ((first | refine vE ?_ | refine vI ?_ | refine vB ?_ | refine vC ?_ | refine vN ?_ | refine xB ?_ | exact True.intro | ((first | refine WkN.sl ?_ ?_ | refine vD ?_ ?_ | refine WkN.norm ?_ ?_ | refine BxN.mk ?_ ?_); (focus (simp [AV.norm, AV.norm1, ]; done)))) <;> conv => whnf)
  · obtain ⟨y, hy⟩ : ∃ y, l[j]? = some y := ⟨_, List.getElem?_eq_getElem hj⟩
    have hyg := Rl.good (hgs.2 y (List.mem_of_getElem? hy))
    have h8 := tdiv8 y.name.size
    conv => whnf
    repeat' ((first | refine CallN.fn (greatAtoms_ok (l := y.keep) (most := most) (by omega) b2) ?_ | refine CallP.fn (greatAtoms_ok (l := y.keep) (most := most) (by omega) b2) ?_ | refine CallN.fn (greatAtoms_ok (l := y.remove) (most := most) (by omega) b2) ?_ | refine CallP.fn (greatAtoms_ok (l := y.remove) (most := most) (by omega) b2) ?_ | refine CallN.fn (greatGoals_ok (l := y.guard) (most := most) (by omega) b2) ?_ | refine CallP.fn (greatGoals_ok (l := y.guard) (most := most) (by omega) b2) ?_ | refine CallN.fn (greatGoals_ok (l := y.body) (most := most) (by omega) b2) ?_ | refine CallP.fn (greatGoals_ok (l := y.body) (most := most) (by omega) b2) ?_ | refine cY ?_ | refine cN ?_ | refine .not ?_ | refine wI ?_ | refine .map ?_ | refine .nil ?_ | refine .one ?_ | refine .app ?_ | refine .set ?_ | refine .rep ?_ | refine .any ?_ | refine cI ?_ | refine cJ ?_ | refine cYa ?_ | refine cNa ?_ | refine cIa ?_ | refine cJa ?_ | refine cIr ?_ | refine cId ?_ | refine cJd ?_ | with_reducible refine CondN.and ?_ | with_reducible refine CondN.or ?_ | refine CondN.lt (fun hc => ?_) (fun hc => ?_) | refine CondN.le (fun hc => ?_) (fun hc => ?_) | refine CondN.dec (fun hc => ?_) (fun hc => ?_) | refine CondN.any (fun hc => ?_) (fun hc => ?_) | refine nS ?_ | refine iA ?_ | refine iB ?_ | refine iC fun x hx => ?_ | refine iD fun x hx => ?_ | refine iE ?_ | refine iF ?_ | refine iG ?_ | refine iH fun x hx => ?_ | refine iI fun x hx => ?_ | refine iJ ?_ | refine hB ?_ | refine aP ?_ | refine .last ?_ | refine .last2 ?_ | refine zN fun k hk => ?_ | refine aR fun k hk => ?_ | refine mA ?_ | refine mS (fun hc => ?_) (fun hc => ?_) | refine RetP.nrm ?_) <;> conv => whnf)
    all_goals try (rw [any_at hy (by simp only [gr1, Bool.or_eq_true, decide_eq_true_eq]; first | exact .inl hc | exact .inr (.inl hc) | exact .inr (.inr (.inl hc)) | exact .inr (.inr (.inr (.inl hc))) | exact .inr (.inr (.inr (.inr (.inl hc)))) | exact .inr (.inr (.inr (.inr (.inr hc)))))]; done)
    · refine ⟨no_succ hij hy (by simp only [gr1, Bool.or_eq_false_iff, decide_eq_false_iff_not]; refine ⟨by omega, by omega, ?_, ?_, ?_, ?_⟩ <;> assumption), ?_⟩
      refine EndN.atC 0 ?_ rfl rfl rfl rfl rfl
      conv => whnf
      refine And.intro ?_ ?_ <;> conv => whnf
      all_goals repeat' ((first | refine vE ?_ | refine vI ?_ | refine vB ?_ | refine vC ?_ | refine vN ?_ | refine xB ?_ | exact True.intro | ((first | refine WkN.sl ?_ ?_ | refine vD ?_ ?_ | refine WkN.norm ?_ ?_ | refine BxN.mk ?_ ?_); (focus (simp [AV.norm, AV.norm1, ]; done)))) <;> conv => whnf)
  · conv => whnf
    repeat' ((first | refine cY ?_ | refine cN ?_ | refine .not ?_ | refine wI ?_ | refine .map ?_ | refine .nil ?_ | refine .one ?_ | refine .app ?_ | refine .set ?_ | refine .rep ?_ | refine .any ?_ | refine cI ?_ | refine cJ ?_ | refine cYa ?_ | refine cNa ?_ | refine cIa ?_ | refine cJa ?_ | refine cIr ?_ | refine cId ?_ | refine cJd ?_ | with_reducible refine CondN.and ?_ | with_reducible refine CondN.or ?_ | refine CondN.lt (fun hc => ?_) (fun hc => ?_) | refine CondN.le (fun hc => ?_) (fun hc => ?_) | refine CondN.dec (fun hc => ?_) (fun hc => ?_) | refine CondN.any (fun hc => ?_) (fun hc => ?_) | refine nS ?_ | refine iA ?_ | refine iB ?_ | refine iC fun x hx => ?_ | refine iD fun x hx => ?_ | refine iE ?_ | refine iF ?_ | refine iG ?_ | refine iH fun x hx => ?_ | refine iI fun x hx => ?_ | refine iJ ?_ | refine hB ?_ | refine aP ?_ | refine .last ?_ | refine .last2 ?_ | refine zN fun k hk => ?_ | refine aR fun k hk => ?_ | refine mA ?_ | refine mS (fun hc => ?_) (fun hc => ?_) | refine RetP.nrm ?_) <;> conv => whnf)
    rw [any_no hij]
def great15 (p : Pg) (most : Int) : Bool := decide ((60 : Int) < p.decls.length) || (decide ((60 : Int) < p.rules.length) || ((p.decls.any fun d => decide (200 < d.name.size)) || p.rules.any (gr1 p.rules.length most)))
set_option maxRecDepth 100000 in
theorem great15_ok {p : Pg} {most : Int} (b1 : 0 ≤ most) (b2 : most ≤ 100000) : Fun Try.prog 53 [p.av, .int .i64 most] (.bool (great15 p most)) := by
  refine Fun.of (op_constraintref15_Great (by simp) ?_) rfl rfl
  conv => whnf
  conv => whnf
  repeat' ((first | refine CallN.fn (greatRules_ok b1 b2) ?_ | refine CallP.fn (greatRules_ok b1 b2) ?_ | refine cY ?_ | refine cN ?_ | refine .not ?_ | refine wI ?_ | refine .map ?_ | refine .nil ?_ | refine .one ?_ | refine .app ?_ | refine .set ?_ | refine .rep ?_ | refine .any ?_ | refine cI ?_ | refine cJ ?_ | refine cYa ?_ | refine cNa ?_ | refine cIa ?_ | refine cJa ?_ | refine cIr ?_ | refine cId ?_ | refine cJd ?_ | with_reducible refine CondN.and ?_ | with_reducible refine CondN.or ?_ | refine CondN.lt (fun hc => ?_) (fun hc => ?_) | refine CondN.le (fun hc => ?_) (fun hc => ?_) | refine CondN.dec (fun hc => ?_) (fun hc => ?_) | refine CondN.any (fun hc => ?_) (fun hc => ?_) | refine nS ?_ | refine iA ?_ | refine iB ?_ | refine iC fun x hx => ?_ | refine iD fun x hx => ?_ | refine iE ?_ | refine iF ?_ | refine iG ?_ | refine iH fun x hx => ?_ | refine iI fun x hx => ?_ | refine iJ ?_ | refine hB ?_ | refine aP ?_ | refine .last ?_ | refine .last2 ?_ | refine zN fun k hk => ?_ | refine aR fun k hk => ?_ | refine mA ?_ | refine mS (fun hc => ?_) (fun hc => ?_) | refine RetP.nrm ?_) <;> conv => whnf)
  · rw [great15, decide_eq_true hc]; rfl
  · rw [great15, decide_eq_true hc]; simp
  · have e : great15 p most = ((p.decls.any fun d => decide (200 < d.name.size)) || p.rules.any (gr1 p.rules.length most)) := by
      rw [great15, decide_eq_false (by omega), decide_eq_false (by omega)]; rfl
    rw [e]
    refine LoopP.count (fb := true) (p.decls.length) (fun st_ j => st_.sets [(5, .int .i64 j)]) (fun j => ∀ i x, i < j → p.decls[i]? = some x → decide (200 < x.name.size) = false) ?_ ?_ (fun j hj hij => ?_) (fun hij => ?_)
    · exact no_zero
    · refine EndN.at_ ?_ rfl
      conv => whnf
      refine And.intro ?_ ?_ <;> conv => whnf
      all_goals repeat' ((first | refine vE ?_ | refine vI ?_ | refine vB ?_ | refine vC ?_ | refine vN ?_ | refine xB ?_ | exact True.intro | ((first | refine WkN.sl ?_ ?_ | refine vD ?_ ?_ | refine WkN.norm ?_ ?_ | refine BxN.mk ?_ ?_); (focus (simp [AV.norm, AV.norm1, ]; done)))) <;> conv => whnf)
    · obtain ⟨y, hy⟩ : ∃ y, p.decls[j]? = some y := ⟨_, List.getElem?_eq_getElem hj⟩
      conv => whnf
      repeat' ((first | refine cY ?_ | refine cN ?_ | refine .not ?_ | refine wI ?_ | refine .map ?_ | refine .nil ?_ | refine .one ?_ | refine .app ?_ | refine .set ?_ | refine .rep ?_ | refine .any ?_ | refine cI ?_ | refine cJ ?_ | refine cYa ?_ | refine cNa ?_ | refine cIa ?_ | refine cJa ?_ | refine cIr ?_ | refine cId ?_ | refine cJd ?_ | with_reducible refine CondN.and ?_ | with_reducible refine CondN.or ?_ | refine CondN.lt (fun hc => ?_) (fun hc => ?_) | refine CondN.le (fun hc => ?_) (fun hc => ?_) | refine CondN.dec (fun hc => ?_) (fun hc => ?_) | refine CondN.any (fun hc => ?_) (fun hc => ?_) | refine nS ?_ | refine iA ?_ | refine iB ?_ | refine iC fun x hx => ?_ | refine iD fun x hx => ?_ | refine iE ?_ | refine iF ?_ | refine iG ?_ | refine iH fun x hx => ?_ | refine iI fun x hx => ?_ | refine iJ ?_ | refine hB ?_ | refine aP ?_ | refine .last ?_ | refine .last2 ?_ | refine zN fun k hk => ?_ | refine aR fun k hk => ?_ | refine mA ?_ | refine mS (fun hc => ?_) (fun hc => ?_) | refine RetP.nrm ?_) <;> conv => whnf)
      · rw [any_at hy (by simp; omega)]; rfl
      · refine ⟨no_succ hij hy (by simp; omega), ?_⟩
        refine EndN.at_ ?_ rfl
        conv => whnf
        refine And.intro ?_ ?_ <;> conv => whnf
        all_goals repeat' ((first | refine vE ?_ | refine vI ?_ | refine vB ?_ | refine vC ?_ | refine vN ?_ | refine xB ?_ | exact True.intro | ((first | refine WkN.sl ?_ ?_ | refine vD ?_ ?_ | refine WkN.norm ?_ ?_ | refine BxN.mk ?_ ?_); (focus (simp [AV.norm, AV.norm1, ]; done)))) <;> conv => whnf)
    · conv => whnf
      repeat' ((first | refine CallN.fn (greatRules_ok b1 b2) ?_ | refine CallP.fn (greatRules_ok b1 b2) ?_ | refine cY ?_ | refine cN ?_ | refine .not ?_ | refine wI ?_ | refine .map ?_ | refine .nil ?_ | refine .one ?_ | refine .app ?_ | refine .set ?_ | refine .rep ?_ | refine .any ?_ | refine cI ?_ | refine cJ ?_ | refine cYa ?_ | refine cNa ?_ | refine cIa ?_ | refine cJa ?_ | refine cIr ?_ | refine cId ?_ | refine cJd ?_ | with_reducible refine CondN.and ?_ | with_reducible refine CondN.or ?_ | refine CondN.lt (fun hc => ?_) (fun hc => ?_) | refine CondN.le (fun hc => ?_) (fun hc => ?_) | refine CondN.dec (fun hc => ?_) (fun hc => ?_) | refine CondN.any (fun hc => ?_) (fun hc => ?_) | refine nS ?_ | refine iA ?_ | refine iB ?_ | refine iC fun x hx => ?_ | refine iD fun x hx => ?_ | refine iE ?_ | refine iF ?_ | refine iG ?_ | refine iH fun x hx => ?_ | refine iI fun x hx => ?_ | refine iJ ?_ | refine hB ?_ | refine aP ?_ | refine .last ?_ | refine .last2 ?_ | refine zN fun k hk => ?_ | refine aR fun k hk => ?_ | refine mA ?_ | refine mS (fun hc => ?_) (fun hc => ?_) | refine RetP.nrm ?_) <;> conv => whnf)
      rw [any_no hij, Bool.false_or]
def plGreat (x : Pl) : Bool := decide ((8 : Int) < x.order.length) || (decide ((8 : Int) < x.known.length) || x.known.any fun l => decide ((20 : Int) < l.length))
def great30 (p : Pg) (plans : List Pl) : Bool := great15 p 150 || (decide ((10 : Int) < p.rules.length) || (decide ((30 : Int) < plans.length) || ((p.rules.any fun r => decide ((8 : Int) < r.keep.length + r.remove.length)) || plans.any plGreat)))
set_option maxRecDepth 100000 in
theorem great30_ok {p : Pg} {plans : List Pl} : Fun Try.prog 14 [p.av, slA Pl.av plans] (.bool (great30 p plans)) := by
  refine Fun.assume rfl fun hg0 => ?_
  have hgp := Pg.good (hg0 p.av (by simp))
  refine Fun.of (op_constraintlaw30_Great (by simp) ?_) rfl rfl
  conv => whnf
  have hgl := (good_sla (hg0 (slA Pl.av plans) (by simp))).2
  conv => whnf
  repeat' ((first | refine CallN.fn (great15_ok (p := p) (most := 150) (by omega) (by omega)) ?_ | refine CallP.fn (great15_ok (p := p) (most := 150) (by omega) (by omega)) ?_ | refine cY ?_ | refine cN ?_ | refine .not ?_ | refine wI ?_ | refine .map ?_ | refine .nil ?_ | refine .one ?_ | refine .app ?_ | refine .set ?_ | refine .rep ?_ | refine .any ?_ | refine cI ?_ | refine cJ ?_ | refine cYa ?_ | refine cNa ?_ | refine cIa ?_ | refine cJa ?_ | refine cIr ?_ | refine cId ?_ | refine cJd ?_ | with_reducible refine CondN.and ?_ | with_reducible refine CondN.or ?_ | refine CondN.lt (fun hc => ?_) (fun hc => ?_) | refine CondN.le (fun hc => ?_) (fun hc => ?_) | refine CondN.dec (fun hc => ?_) (fun hc => ?_) | refine CondN.any (fun hc => ?_) (fun hc => ?_) | refine nS ?_ | refine iA ?_ | refine iB ?_ | refine iC fun x hx => ?_ | refine iD fun x hx => ?_ | refine iE ?_ | refine iF ?_ | refine iG ?_ | refine iH fun x hx => ?_ | refine iI fun x hx => ?_ | refine iJ ?_ | refine hB ?_ | refine aP ?_ | refine .last ?_ | refine .last2 ?_ | refine zN fun k hk => ?_ | refine aR fun k hk => ?_ | refine mA ?_ | refine mS (fun hc => ?_) (fun hc => ?_) | refine RetP.nrm ?_) <;> conv => whnf)
  · rw [great30, hc]; rfl
  · rw [great30, decide_eq_true hc]; simp
  · rw [great30, decide_eq_true hc]; simp
  · rename_i q1 q2
    have e : great30 p plans = ((p.rules.any fun r => decide ((8 : Int) < r.keep.length + r.remove.length)) || plans.any plGreat) := by
      rw [great30, q1, decide_eq_false (by omega), decide_eq_false (by omega)]; rfl
    rw [e]
    refine LoopP.count (fb := true) (p.rules.length) (fun st_ j => st_.sets [(5, .int .i64 j)]) (fun j => ∀ i x, i < j → p.rules[i]? = some x → decide ((8 : Int) < x.keep.length + x.remove.length) = false) ?_ ?_ (fun j hj hij => ?_) (fun hij => ?_)
    · exact no_zero
    · refine EndN.at_ ?_ rfl
      conv => whnf
      refine And.intro ?_ ?_ <;> conv => whnf
      all_goals repeat' ((first | refine vE ?_ | refine vI ?_ | refine vB ?_ | refine vC ?_ | refine vN ?_ | refine xB ?_ | exact True.intro | ((first | refine WkN.sl ?_ ?_ | refine vD ?_ ?_ | refine WkN.norm ?_ ?_ | refine BxN.mk ?_ ?_); (focus (simp [AV.norm, AV.norm1, ]; done)))) <;> conv => whnf)
    · obtain ⟨y, hy⟩ : ∃ y, p.rules[j]? = some y := ⟨_, List.getElem?_eq_getElem hj⟩
      have hyg := Rl.good (hgp.2.2 y (List.mem_of_getElem? hy))
      conv => whnf
      repeat' ((first | refine cY ?_ | refine cN ?_ | refine .not ?_ | refine wI ?_ | refine .map ?_ | refine .nil ?_ | refine .one ?_ | refine .app ?_ | refine .set ?_ | refine .rep ?_ | refine .any ?_ | refine cI ?_ | refine cJ ?_ | refine cYa ?_ | refine cNa ?_ | refine cIa ?_ | refine cJa ?_ | refine cIr ?_ | refine cId ?_ | refine cJd ?_ | with_reducible refine CondN.and ?_ | with_reducible refine CondN.or ?_ | refine CondN.lt (fun hc => ?_) (fun hc => ?_) | refine CondN.le (fun hc => ?_) (fun hc => ?_) | refine CondN.dec (fun hc => ?_) (fun hc => ?_) | refine CondN.any (fun hc => ?_) (fun hc => ?_) | refine nS ?_ | refine iA ?_ | refine iB ?_ | refine iC fun x hx => ?_ | refine iD fun x hx => ?_ | refine iE ?_ | refine iF ?_ | refine iG ?_ | refine iH fun x hx => ?_ | refine iI fun x hx => ?_ | refine iJ ?_ | refine hB ?_ | refine aP ?_ | refine .last ?_ | refine .last2 ?_ | refine zN fun k hk => ?_ | refine aR fun k hk => ?_ | refine mA ?_ | refine mS (fun hc => ?_) (fun hc => ?_) | refine RetP.nrm ?_) <;> conv => whnf)
      · rw [any_at hy (decide_eq_true hc)]; rfl
      · refine ⟨no_succ hij hy (decide_eq_false (by omega)), ?_⟩
        refine EndN.at_ ?_ rfl
        conv => whnf
        refine And.intro ?_ ?_ <;> conv => whnf
        all_goals repeat' ((first | refine vE ?_ | refine vI ?_ | refine vB ?_ | refine vC ?_ | refine vN ?_ | refine xB ?_ | exact True.intro | ((first | refine WkN.sl ?_ ?_ | refine vD ?_ ?_ | refine WkN.norm ?_ ?_ | refine BxN.mk ?_ ?_); (focus (simp [AV.norm, AV.norm1, ]; done)))) <;> conv => whnf)
    · rw [any_no hij, Bool.false_or]
      conv => whnf
      repeat' ((first | refine cY ?_ | refine cN ?_ | refine .not ?_ | refine wI ?_ | refine .map ?_ | refine .nil ?_ | refine .one ?_ | refine .app ?_ | refine .set ?_ | refine .rep ?_ | refine .any ?_ | refine cI ?_ | refine cJ ?_ | refine cYa ?_ | refine cNa ?_ | refine cIa ?_ | refine cJa ?_ | refine cIr ?_ | refine cId ?_ | refine cJd ?_ | with_reducible refine CondN.and ?_ | with_reducible refine CondN.or ?_ | refine CondN.lt (fun hc => ?_) (fun hc => ?_) | refine CondN.le (fun hc => ?_) (fun hc => ?_) | refine CondN.dec (fun hc => ?_) (fun hc => ?_) | refine CondN.any (fun hc => ?_) (fun hc => ?_) | refine nS ?_ | refine iA ?_ | refine iB ?_ | refine iC fun x hx => ?_ | refine iD fun x hx => ?_ | refine iE ?_ | refine iF ?_ | refine iG ?_ | refine iH fun x hx => ?_ | refine iI fun x hx => ?_ | refine iJ ?_ | refine hB ?_ | refine aP ?_ | refine .last ?_ | refine .last2 ?_ | refine zN fun k hk => ?_ | refine aR fun k hk => ?_ | refine mA ?_ | refine mS (fun hc => ?_) (fun hc => ?_) | refine RetP.nrm ?_) <;> conv => whnf)
      refine LoopP.count (fb := true) (plans.length) (fun st_ j => st_.sets [(6, .int .i64 j)]) (fun j => ∀ i x, i < j → plans[i]? = some x → plGreat x = false) ?_ ?_ (fun j hj hij => ?_) (fun hij => ?_)
      · exact no_zero
      · refine EndN.at_ ?_ rfl
        conv => whnf
        refine And.intro ?_ ?_ <;> conv => whnf
        all_goals repeat' ((first | refine vE ?_ | refine vI ?_ | refine vB ?_ | refine vC ?_ | refine vN ?_ | refine xB ?_ | exact True.intro | ((first | refine WkN.sl ?_ ?_ | refine vD ?_ ?_ | refine WkN.norm ?_ ?_ | refine BxN.mk ?_ ?_); (focus (simp [AV.norm, AV.norm1, ]; done)))) <;> conv => whnf)
      · obtain ⟨y, hy⟩ : ∃ y, plans[j]? = some y := ⟨_, List.getElem?_eq_getElem hj⟩
        conv => whnf
        repeat' ((first | refine cY ?_ | refine cN ?_ | refine .not ?_ | refine wI ?_ | refine .map ?_ | refine .nil ?_ | refine .one ?_ | refine .app ?_ | refine .set ?_ | refine .rep ?_ | refine .any ?_ | refine cI ?_ | refine cJ ?_ | refine cYa ?_ | refine cNa ?_ | refine cIa ?_ | refine cJa ?_ | refine cIr ?_ | refine cId ?_ | refine cJd ?_ | with_reducible refine CondN.and ?_ | with_reducible refine CondN.or ?_ | refine CondN.lt (fun hc => ?_) (fun hc => ?_) | refine CondN.le (fun hc => ?_) (fun hc => ?_) | refine CondN.dec (fun hc => ?_) (fun hc => ?_) | refine CondN.any (fun hc => ?_) (fun hc => ?_) | refine nS ?_ | refine iA ?_ | refine iB ?_ | refine iC fun x hx => ?_ | refine iD fun x hx => ?_ | refine iE ?_ | refine iF ?_ | refine iG ?_ | refine iH fun x hx => ?_ | refine iI fun x hx => ?_ | refine iJ ?_ | refine hB ?_ | refine aP ?_ | refine .last ?_ | refine .last2 ?_ | refine zN fun k hk => ?_ | refine aR fun k hk => ?_ | refine mA ?_ | refine mS (fun hc => ?_) (fun hc => ?_) | refine RetP.nrm ?_) <;> conv => whnf)
        · rw [any_at hy (by rw [plGreat, decide_eq_true hc]; rfl)]
        · rw [any_at hy (by rw [plGreat, decide_eq_true hc]; simp)]
        · rename_i q3
          have ey : plGreat y = y.known.any fun l => decide ((20 : Int) < l.length) := by
            rw [plGreat, decide_eq_false (by omega), decide_eq_false (by omega)]; rfl
          refine LoopP.count (fb := true) (y.known.length) (fun st_ k => st_.sets [(7, .int .i64 k)]) (fun k => ∀ i x, i < k → y.known[i]? = some x → decide ((20 : Int) < x.length) = false) ?_ ?_ (fun k hk hik => ?_) (fun hik => ?_)
          · exact no_zero
          · refine EndN.at_ ?_ rfl
            conv => whnf
            refine And.intro ?_ ?_ <;> conv => whnf
            all_goals repeat' ((first | refine vE ?_ | refine vI ?_ | refine vB ?_ | refine vC ?_ | refine vN ?_ | refine xB ?_ | exact True.intro | ((first | refine WkN.sl ?_ ?_ | refine vD ?_ ?_ | refine WkN.norm ?_ ?_ | refine BxN.mk ?_ ?_); (focus (simp [AV.norm, AV.norm1, ]; done)))) <;> conv => whnf)
          · obtain ⟨z, hz⟩ : ∃ z, y.known[k]? = some z := ⟨_, List.getElem?_eq_getElem hk⟩
            conv => whnf
            repeat' ((first | refine cY ?_ | refine cN ?_ | refine .not ?_ | refine wI ?_ | refine .map ?_ | refine .nil ?_ | refine .one ?_ | refine .app ?_ | refine .set ?_ | refine .rep ?_ | refine .any ?_ | refine cI ?_ | refine cJ ?_ | refine cYa ?_ | refine cNa ?_ | refine cIa ?_ | refine cJa ?_ | refine cIr ?_ | refine cId ?_ | refine cJd ?_ | with_reducible refine CondN.and ?_ | with_reducible refine CondN.or ?_ | refine CondN.lt (fun hc => ?_) (fun hc => ?_) | refine CondN.le (fun hc => ?_) (fun hc => ?_) | refine CondN.dec (fun hc => ?_) (fun hc => ?_) | refine CondN.any (fun hc => ?_) (fun hc => ?_) | refine nS ?_ | refine iA ?_ | refine iB ?_ | refine iC fun x hx => ?_ | refine iD fun x hx => ?_ | refine iE ?_ | refine iF ?_ | refine iG ?_ | refine iH fun x hx => ?_ | refine iI fun x hx => ?_ | refine iJ ?_ | refine hB ?_ | refine aP ?_ | refine .last ?_ | refine .last2 ?_ | refine zN fun k hk => ?_ | refine aR fun k hk => ?_ | refine mA ?_ | refine mS (fun hc => ?_) (fun hc => ?_) | refine RetP.nrm ?_) <;> conv => whnf)
            · rw [any_at hy (by rw [ey, any_at hz (decide_eq_true hc)])]
            · refine ⟨no_succ hik hz (decide_eq_false (by omega)), ?_⟩
              refine EndN.at_ ?_ rfl
              conv => whnf
              refine And.intro ?_ ?_ <;> conv => whnf
              all_goals repeat' ((first | refine vE ?_ | refine vI ?_ | refine vB ?_ | refine vC ?_ | refine vN ?_ | refine xB ?_ | exact True.intro | ((first | refine WkN.sl ?_ ?_ | refine vD ?_ ?_ | refine WkN.norm ?_ ?_ | refine BxN.mk ?_ ?_); (focus (simp [AV.norm, AV.norm1, ]; done)))) <;> conv => whnf)
          · conv => whnf
            repeat' ((first | refine cY ?_ | refine cN ?_ | refine .not ?_ | refine wI ?_ | refine .map ?_ | refine .nil ?_ | refine .one ?_ | refine .app ?_ | refine .set ?_ | refine .rep ?_ | refine .any ?_ | refine cI ?_ | refine cJ ?_ | refine cYa ?_ | refine cNa ?_ | refine cIa ?_ | refine cJa ?_ | refine cIr ?_ | refine cId ?_ | refine cJd ?_ | with_reducible refine CondN.and ?_ | with_reducible refine CondN.or ?_ | refine CondN.lt (fun hc => ?_) (fun hc => ?_) | refine CondN.le (fun hc => ?_) (fun hc => ?_) | refine CondN.dec (fun hc => ?_) (fun hc => ?_) | refine CondN.any (fun hc => ?_) (fun hc => ?_) | refine nS ?_ | refine iA ?_ | refine iB ?_ | refine iC fun x hx => ?_ | refine iD fun x hx => ?_ | refine iE ?_ | refine iF ?_ | refine iG ?_ | refine iH fun x hx => ?_ | refine iI fun x hx => ?_ | refine iJ ?_ | refine hB ?_ | refine aP ?_ | refine .last ?_ | refine .last2 ?_ | refine zN fun k hk => ?_ | refine aR fun k hk => ?_ | refine mA ?_ | refine mS (fun hc => ?_) (fun hc => ?_) | refine RetP.nrm ?_) <;> conv => whnf)
            refine ⟨no_succ hij hy (by rw [ey, any_no hik]), ?_⟩
            refine EndN.at_ ?_ rfl
            conv => whnf
            refine And.intro ?_ ?_ <;> conv => whnf
            all_goals repeat' ((first | refine vE ?_ | refine vI ?_ | refine vB ?_ | refine vC ?_ | refine vN ?_ | refine xB ?_ | exact True.intro | ((first | refine WkN.sl ?_ ?_ | refine vD ?_ ?_ | refine WkN.norm ?_ ?_ | refine BxN.mk ?_ ?_); (focus (simp [AV.norm, AV.norm1, ]; done)))) <;> conv => whnf)
      · conv => whnf
        repeat' ((first | refine cY ?_ | refine cN ?_ | refine .not ?_ | refine wI ?_ | refine .map ?_ | refine .nil ?_ | refine .one ?_ | refine .app ?_ | refine .set ?_ | refine .rep ?_ | refine .any ?_ | refine cI ?_ | refine cJ ?_ | refine cYa ?_ | refine cNa ?_ | refine cIa ?_ | refine cJa ?_ | refine cIr ?_ | refine cId ?_ | refine cJd ?_ | with_reducible refine CondN.and ?_ | with_reducible refine CondN.or ?_ | refine CondN.lt (fun hc => ?_) (fun hc => ?_) | refine CondN.le (fun hc => ?_) (fun hc => ?_) | refine CondN.dec (fun hc => ?_) (fun hc => ?_) | refine CondN.any (fun hc => ?_) (fun hc => ?_) | refine nS ?_ | refine iA ?_ | refine iB ?_ | refine iC fun x hx => ?_ | refine iD fun x hx => ?_ | refine iE ?_ | refine iF ?_ | refine iG ?_ | refine iH fun x hx => ?_ | refine iI fun x hx => ?_ | refine iJ ?_ | refine hB ?_ | refine aP ?_ | refine .last ?_ | refine .last2 ?_ | refine zN fun k hk => ?_ | refine aR fun k hk => ?_ | refine mA ?_ | refine mS (fun hc => ?_) (fun hc => ?_) | refine RetP.nrm ?_) <;> conv => whnf)
        rw [any_no hij]
/-! ### what its bounds give -/
theorem vs_wgh (t : Tm) : ∀ left deep : Int, 0 ≤ t.wgh left deep → (t.vs.length : Int) ≤ left - t.wgh left deep ∧ 1 ≤ left - t.wgh left deep := by
  induction t using Tm.ind_all with
  | h k m s l ih =>
    have hl : ∀ (r : List Tm), (∀ t ∈ r, t ∈ l) → ∀ left deep : Int, 0 ≤ left → 0 ≤ Tm.wghs r left deep → Tm.wghs r left deep ≤ left ∧ ((Tm.vss r).length : Int) ≤ left - Tm.wghs r left deep := fun r => by
      induction r with
      | nil => intro _ left deep h1 h2; simp only [Tm.wghs, Tm.vss, List.length_nil] at *; omega
      | cons t r ihr =>
        intro hm left deep h1 h2
        rw [Tm.wghs, if_neg (by omega)] at h2 ⊢
        by_cases h3 : 0 ≤ t.wgh left deep
        · have h4 := ih t (hm t (by simp)) left deep h3
          have h5 := ihr (fun x hx => hm x (by simp [hx])) (t.wgh left deep) deep h3 h2
          rw [Tm.vss, List.length_append]
          omega
        · rw [wghs_neg _ (by omega)] at h2; omega
    intro left deep h
    rw [Tm.wgh] at h ⊢
    have h8 := tdiv8 s.size
    split at h
    · omega
    · rename_i hc
      rw [if_neg hc]
      have h2 := hl l (fun t h => h) (left - 1 - (s.size : Int).tdiv 8) (deep - 1) (by omega) h
      rw [Tm.vs]
      split
      · simp only [List.length_singleton]; omega
      · split
        · omega
        · simp only [List.length_nil]; omega
theorem weigh_vs {l : List Tm} {left deep : Int} (h : 0 ≤ weighI l left deep) : (l.length : Int) ≤ left ∧ ((Tm.vss l).length : Int) ≤ left ∧ weighI l left deep ≤ left := by
  by_cases hc : deep = 0 ∨ left < l.length
  · rw [weighI, if_pos hc] at h; omega
  · rw [weighI, if_neg hc] at h ⊢
    have : ∀ (r : List Tm) (left : Int), 0 ≤ left → 0 ≤ Tm.wghs r left deep → Tm.wghs r left deep ≤ left ∧ ((Tm.vss r).length : Int) ≤ left - Tm.wghs r left deep := fun r => by
      induction r with
      | nil => intro left h1 h2; simp only [Tm.wghs, Tm.vss, List.length_nil] at *; omega
      | cons t r ihr =>
        intro left h1 h2
        rw [Tm.wghs, if_neg (by omega)] at h2 ⊢
        by_cases h3 : 0 ≤ t.wgh left deep
        · have h4 := vs_wgh t left deep h3
          have h5 := ihr (t.wgh left deep) h3 h2
          rw [Tm.vss, List.length_append]
          omega
        · rw [wghs_neg _ (by omega)] at h2; omega
    have := this l left (by omega) h
    omega
theorem vss_mem {l : List Tm} {t : Tm} (h : t ∈ l) : t.vs.length ≤ (Tm.vss l).length := by
  obtain ⟨j, hj, rfl⟩ := List.getElem_of_mem h
  rw [Tm.vss_split (List.getElem?_eq_getElem hj)]
  simp only [List.length_append]; omega
theorem greatP_at : ∀ {l : List (List Tm × ByteArray)} {most : Int}, greatP l most = false → ∀ y ∈ l, (y.1.length : Int) ≤ most ∧ ((Tm.vss y.1).length : Int) ≤ most
  | [], _, _, y, hy => by cases hy
  | a :: l, most, h, y, hy => by
    rw [greatP] at h
    split at h
    · cases h
    · have h8 := tdiv8 a.2.size
      have h0 : 0 ≤ weighI a.1 (most - 1 - (a.2.size : Int).tdiv 8) 64 := by
        rcases Int.lt_or_le (weighI a.1 (most - 1 - (a.2.size : Int).tdiv 8) 64) 0 with h1 | h1
        · rw [greatP_neg _ h1] at h; cases h
        · exact h1
      have h2 := weigh_vs h0
      rcases List.mem_cons.1 hy with rfl | hy
      · omega
      · have := greatP_at h y hy
        omega
theorem ok2_of {r : Rl} {plans : List Pl} (h : great30 ⟨[], [r]⟩ plans = false) : r.ok2 := by
  simp only [great30, great15, gr1, List.any_cons, List.any_nil, Bool.or_false, Bool.or_eq_false_iff, decide_eq_false_iff_not] at h
  obtain ⟨⟨_, _, _, _, _, hk, hm, _, _⟩, _, _, h8, _⟩ := h
  refine ⟨by omega, fun g hg => ?_⟩
  have hg2 : (g.args.length : Int) ≤ 150 ∧ ((Tm.vss g.args).length : Int) ≤ 150 := by
    rcases List.mem_append.1 hg with h1 | h1
    · exact greatP_at hk (at2 g) (List.mem_map.2 ⟨g, h1, rfl⟩)
    · exact greatP_at hm (at2 g) (List.mem_map.2 ⟨g, h1, rfl⟩)
  exact ⟨by omega, by omega, fun t ht => by have := vss_mem ht; omega⟩
end Go.CK
