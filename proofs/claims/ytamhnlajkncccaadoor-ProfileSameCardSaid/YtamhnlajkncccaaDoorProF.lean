/-
  PROFILE, in the abstract machine: the functions' contracts, 3: sums. By an AI agent.
-/
import Derived.Test.YtamhnlajkncccaaDoorProE
set_option linter.unusedSimpArgs false
set_option linter.unusedVariables false
namespace Go.CK
open Go.AM Go.Proofs
def addAV (a b : Ct) : AV := .tup [(addC a b).1.av, .int .i64 (addC a b).2]
theorem addC_err2 {a b : Ct} (h : ¬ (okC a = true ∧ okC b = true ∧ a.rules.length = b.rules.length)) : addC a b = (zeroC, 2) := by
  unfold addC; rw [if_neg h]
theorem addC_err5 {a b : Ct} (h : okC a = true ∧ okC b = true ∧ a.rules.length = b.rules.length) {j : Nat} {x y : Int} (hx : (nums a)[j]? = some x) (hy : (nums b)[j]? = some y) (hc : maxI - y < x) : addC a b = (zeroC, 5) := by
  unfold addC
  rw [if_pos h, if_neg]
  intro hf
  have hl : (nums a).length = (nums b).length := by rw [nums_len, nums_len]; omega
  have := (fits_iff hl).1 hf j x y (List.getElem?_eq_some_iff.1 hx).1 hx hy
  omega
theorem addC_good {a b : Ct} (h : okC a = true ∧ okC b = true ∧ a.rules.length = b.rules.length) (hf : fitsTo (nums a) (nums b) (nums a).length) : (addC a b).2 = 0 ∧ sumL (nums a) (nums b) = sumL a.rules b.rules ++ [(addC a b).1.tried, (addC a b).1.goals, (addC a b).1.steps] ∧ (addC a b).1.rules = sumL a.rules b.rules := by
  have hl : (nums a).length = (nums b).length := by rw [nums_len, nums_len]; omega
  have h2 := (fits_iff hl).2 hf
  unfold addC
  rw [if_pos h, if_pos h2]
  refine ⟨rfl, ?_, rfl⟩
  simp only [nums, sumL_app h.2.2]
  rfl
theorem sumL_take {x y : List Int} {j : Nat} {u v : Int} (hx : x[j]? = some u) (hy : y[j]? = some v) : sumL (x.take (j + 1)) (y.take (j + 1)) = sumL (x.take j) (y.take j) ++ [u + v] := by
  obtain ⟨h1, rfl⟩ := List.getElem?_eq_some_iff.1 hx
  obtain ⟨h2, rfl⟩ := List.getElem?_eq_some_iff.1 hy
  rw [List.take_succ_eq_append_getElem h1, List.take_succ_eq_append_getElem h2, sumL_app (by simp; omega)]
  rfl
/-- counts that lie within int -/
def Ct.fit (c : Ct) : Prop := ∀ x ∈ nums c, -9223372036854775808 ≤ x ∧ x ≤ 9223372036854775807
set_option maxRecDepth 100000 in
theorem refAdd_ok {a b : Ct} (ha : a.rules.length ≤ 1000000) (hb : b.rules.length ≤ 1000000) (fa : a.fit) (fb : b.fit) : Fun Tryd.prog 17 [a.av, b.av] (addAV a b) := by
  have hm : maxI = 9223372036854775807 := rfl
  by_cases h : okC a = true ∧ okC b = true ∧ a.rules.length = b.rules.length
  · have hra := right_ok ha
    rw [h.1] at hra
    have hrb := right_ok hb
    rw [h.2.1] at hrb
    have hlen : (nums a).length = (nums b).length := by rw [nums_len, nums_len]; omega
    have hla := nums_len a
    have hlb := nums_len b
    have hl := h.2.2
    refine Fun.of (op_constraintref37_Add (by simp) ?_) rfl rfl
    conv => whnf
    conv => whnf
    repeat' ((first | refine CallN.fn (hra) ?_ | refine CallP.fn (hra) ?_ | refine CallN.fn (hrb) ?_ | refine CallP.fn (hrb) ?_ | refine CallN.fn (refNumbers_ok ha) ?_ | refine CallP.fn (refNumbers_ok ha) ?_ | refine CallN.fn (refNumbers_ok hb) ?_ | refine CallP.fn (refNumbers_ok hb) ?_ | refine cY ?_ | refine cN ?_ | refine .not ?_ | refine wI ?_ | refine .map ?_ | refine .nil ?_ | refine .one ?_ | refine .app ?_ | refine .set ?_ | refine .rep ?_ | refine .any ?_ | refine cI ?_ | refine cJ ?_ | refine cYa ?_ | refine cNa ?_ | refine cIa ?_ | refine cJa ?_ | refine cIr ?_ | refine cId ?_ | refine cJd ?_ | with_reducible refine CondN.and ?_ | with_reducible refine CondN.or ?_ | refine CondN.lt (fun hc => ?_) (fun hc => ?_) | refine CondN.le (fun hc => ?_) (fun hc => ?_) | refine CondN.dec (fun hc => ?_) (fun hc => ?_) | refine CondN.any (fun hc => ?_) (fun hc => ?_) | refine nS ?_ | refine iA ?_ | refine iB ?_ | refine iC fun x hx => ?_ | refine iD fun x hx => ?_ | refine iE ?_ | refine iF ?_ | refine iG ?_ | refine iH fun x hx => ?_ | refine iI fun x hx => ?_ | refine iJ ?_ | refine hB ?_ | refine aP ?_ | refine .last ?_ | refine .last2 ?_ | refine zN fun k hk => ?_ | refine aR fun k hk => ?_ | refine mA ?_ | refine eL ?_ | refine eS ?_ | refine eLb ?_ | refine eSb ?_ | refine mB ?_ | refine mBb ?_ | refine pE ?_ | refine pZ ?_ | refine pC ?_ | refine pN ?_ | refine pN2 ?_ | refine mS (fun hc => ?_) (fun hc => ?_) | refine RetP.nrm ?_) <;> conv => whnf)
    refine LoopP.count (fb := true) ((nums a).length) (fun st_ j => st_.sets [(8, .sl (.own 1) ((sumL ((nums a).take j) ((nums b).take j)).map intA)), (9, .int .i64 j)]) (fun j => fitsTo (nums a) (nums b) j) ?_ ?_ (fun j hj hij => ?_) (fun hij => ?_)
    · exact fun i u v hi => by omega
    · refine EndN.at_ ?_ rfl
      conv => whnf
      refine And.intro ?_ ?_ <;> conv => whnf
      all_goals repeat' ((first | refine vE ?_ | refine vI ?_ | refine vB ?_ | refine vC ?_ | refine vN ?_ | refine xB ?_ | exact True.intro | ((first | refine WkN.sl ?_ ?_ | refine vD ?_ ?_ | refine WkN.norm ?_ ?_ | refine BxN.mk ?_ ?_); (focus (simp [AV.norm, AV.norm1, sumL]; done)))) <;> conv => whnf)
    · obtain ⟨x, hx⟩ : ∃ x, (nums a)[j]? = some x := ⟨_, List.getElem?_eq_getElem hj⟩
      obtain ⟨y, hy⟩ : ∃ y, (nums b)[j]? = some y := ⟨_, List.getElem?_eq_getElem (by omega)⟩
      have hfx := fa x (List.mem_of_getElem? hx)
      have hfy := fb y (List.mem_of_getElem? hy)
      have hy0 := okC_iff.1 h.2.1 y (List.mem_of_getElem? hy)
      have hx0 := okC_iff.1 h.1 x (List.mem_of_getElem? hx)
      have hs := sumL_take hx hy
      have hsl : (sumL ((nums a).take j) ((nums b).take j)).length = j := by rw [sumL_len (by simp; omega)]; simp; omega
      generalize sumL ((nums a).take j) ((nums b).take j) = q at *
      generalize sumL ((nums a).take (j + 1)) ((nums b).take (j + 1)) = q1 at *
      conv => whnf
      repeat' ((first | refine cY ?_ | refine cN ?_ | refine .not ?_ | refine wI ?_ | refine .map ?_ | refine .nil ?_ | refine .one ?_ | refine .app ?_ | refine .set ?_ | refine .rep ?_ | refine .any ?_ | refine cI ?_ | refine cJ ?_ | refine cYa ?_ | refine cNa ?_ | refine cIa ?_ | refine cJa ?_ | refine cIr ?_ | refine cId ?_ | refine cJd ?_ | with_reducible refine CondN.and ?_ | with_reducible refine CondN.or ?_ | refine CondN.lt (fun hc => ?_) (fun hc => ?_) | refine CondN.le (fun hc => ?_) (fun hc => ?_) | refine CondN.dec (fun hc => ?_) (fun hc => ?_) | refine CondN.any (fun hc => ?_) (fun hc => ?_) | refine nS ?_ | refine iA ?_ | refine iB ?_ | refine iC fun x hx => ?_ | refine iD fun x hx => ?_ | refine iE ?_ | refine iF ?_ | refine iG ?_ | refine iH fun x hx => ?_ | refine iI fun x hx => ?_ | refine iJ ?_ | refine hB ?_ | refine aP ?_ | refine .last ?_ | refine .last2 ?_ | refine zN fun k hk => ?_ | refine aR fun k hk => ?_ | refine mA ?_ | refine eL ?_ | refine eS ?_ | refine eLb ?_ | refine eSb ?_ | refine mB ?_ | refine mBb ?_ | refine pE ?_ | refine pZ ?_ | refine pC ?_ | refine pN ?_ | refine pN2 ?_ | refine mS (fun hc => ?_) (fun hc => ?_) | refine RetP.nrm ?_) <;> conv => whnf)
      · rw [addAV, addC_err5 h hx hy (by omega)]
        rfl
      · refine ⟨fun i u v hi hu hv => ?_, ?_⟩
        · by_cases e : i = j
          · subst e; rw [hx] at hu; rw [hy] at hv; cases hu; cases hv; omega
          · exact hij i u v (by omega) hu hv
        · refine EndN.at_ ?_ rfl
          conv => whnf
          refine And.intro ?_ ?_ <;> conv => whnf
          all_goals repeat' ((first | refine vE ?_ | refine vI ?_ | refine vB ?_ | refine vC ?_ | refine vN ?_ | refine xB ?_ | exact True.intro | ((first | refine WkN.sl ?_ ?_ | refine vD ?_ ?_ | refine WkN.norm ?_ ?_ | refine BxN.mk ?_ ?_); (focus (simp [AV.norm, AV.norm1, hs]; done)))) <;> conv => whnf)
    · obtain ⟨g1, g2, g3⟩ := addC_good h hij
      have hk : (sumL a.rules b.rules).length = a.rules.length := sumL_len hl
      rw [List.take_length, show (nums b).take (nums a).length = nums b by rw [hlen, List.take_length], g2]
      generalize hL : sumL a.rules b.rules ++ [(addC a b).1.tried, (addC a b).1.goals, (addC a b).1.steps] = L
      have hLl : L.length = a.rules.length + 3 := by rw [← hL]; simp [hk]
      have q0 : L[a.rules.length]? = some (addC a b).1.tried := by rw [← hL, List.getElem?_append_right (by omega), hk]; simp
      have q1 : L[((a.rules.length : Int) + 1).toNat]? = some (addC a b).1.goals := by rw [← hL, List.getElem?_append_right (by omega), hk, show ((a.rules.length : Int) + 1).toNat - a.rules.length = 1 by omega]; rfl
      have q2 : L[((a.rules.length : Int) + 2).toNat]? = some (addC a b).1.steps := by rw [← hL, List.getElem?_append_right (by omega), hk, show ((a.rules.length : Int) + 2).toNat - a.rules.length = 2 by omega]; rfl
      have hT : (L.map intA).take a.rules.length = (sumL a.rules b.rules).map intA := by rw [← hL, ← List.map_take, List.take_left' hk]
      conv => whnf
      repeat' ((first | refine cY ?_ | refine cN ?_ | refine .not ?_ | refine wI ?_ | refine .map ?_ | refine .nil ?_ | refine .one ?_ | refine .app ?_ | refine .set ?_ | refine .rep ?_ | refine .any ?_ | refine cI ?_ | refine cJ ?_ | refine cYa ?_ | refine cNa ?_ | refine cIa ?_ | refine cJa ?_ | refine cIr ?_ | refine cId ?_ | refine cJd ?_ | with_reducible refine CondN.and ?_ | with_reducible refine CondN.or ?_ | refine CondN.lt (fun hc => ?_) (fun hc => ?_) | refine CondN.le (fun hc => ?_) (fun hc => ?_) | refine CondN.dec (fun hc => ?_) (fun hc => ?_) | refine CondN.any (fun hc => ?_) (fun hc => ?_) | refine nS ?_ | refine iA ?_ | refine iB ?_ | refine iC fun x hx => ?_ | refine iD fun x hx => ?_ | refine iE ?_ | refine iF ?_ | refine iG ?_ | refine iH fun x hx => ?_ | refine iI fun x hx => ?_ | refine iJ ?_ | refine hB ?_ | refine aP ?_ | refine .last ?_ | refine .last2 ?_ | refine zN fun k hk => ?_ | refine aR fun k hk => ?_ | refine mA ?_ | refine eL ?_ | refine eS ?_ | refine eLb ?_ | refine eSb ?_ | refine mB ?_ | refine mBb ?_ | refine pE ?_ | refine pZ ?_ | refine pC ?_ | refine pN ?_ | refine pN2 ?_ | refine mS (fun hc => ?_) (fun hc => ?_) | refine RetP.nrm ?_) <;> conv => whnf)
      rw [addAV, g1, Ct.av, g3, ← hT]
      rfl
  · rw [addAV, addC_err2 h]
    have hra := right_ok ha
    have hrb := right_ok hb
    cases hoa : okC a <;> cases hob : okC b <;> rw [hoa] at hra <;> rw [hob] at hrb <;> simp only [hoa, hob, true_and, and_true, false_and, and_false, not_false_eq_true, Bool.false_eq_true] at h
    all_goals
      refine Fun.of (op_constraintref37_Add (by simp) ?_) rfl rfl
      conv => whnf
      conv => whnf
      repeat' ((first | refine CallN.fn (hra) ?_ | refine CallP.fn (hra) ?_ | refine CallN.fn (hrb) ?_ | refine CallP.fn (hrb) ?_ | refine cY ?_ | refine cN ?_ | refine .not ?_ | refine wI ?_ | refine .map ?_ | refine .nil ?_ | refine .one ?_ | refine .app ?_ | refine .set ?_ | refine .rep ?_ | refine .any ?_ | refine cI ?_ | refine cJ ?_ | refine cYa ?_ | refine cNa ?_ | refine cIa ?_ | refine cJa ?_ | refine cIr ?_ | refine cId ?_ | refine cJd ?_ | with_reducible refine CondN.and ?_ | with_reducible refine CondN.or ?_ | refine CondN.lt (fun hc => ?_) (fun hc => ?_) | refine CondN.le (fun hc => ?_) (fun hc => ?_) | refine CondN.dec (fun hc => ?_) (fun hc => ?_) | refine CondN.any (fun hc => ?_) (fun hc => ?_) | refine nS ?_ | refine iA ?_ | refine iB ?_ | refine iC fun x hx => ?_ | refine iD fun x hx => ?_ | refine iE ?_ | refine iF ?_ | refine iG ?_ | refine iH fun x hx => ?_ | refine iI fun x hx => ?_ | refine iJ ?_ | refine hB ?_ | refine aP ?_ | refine .last ?_ | refine .last2 ?_ | refine zN fun k hk => ?_ | refine aR fun k hk => ?_ | refine mA ?_ | refine eL ?_ | refine eS ?_ | refine eLb ?_ | refine eSb ?_ | refine mB ?_ | refine mBb ?_ | refine pE ?_ | refine pZ ?_ | refine pC ?_ | refine pN ?_ | refine pN2 ?_ | refine mS (fun hc => ?_) (fun hc => ?_) | refine RetP.nrm ?_) <;> conv => whnf)
    all_goals rfl
theorem any_neg (c : Ct) : ((nums c).any fun n => decide (n < 0)) = !okC c := by
  rw [okC]
  generalize nums c = l
  induction l with
  | nil => rfl
  | cons x l ih =>
    rw [List.any_cons, List.all_cons, ih]
    by_cases h : x < 0
    · have h2 : ¬ 0 ≤ x := by omega
      simp [h, h2]
    · have h2 : 0 ≤ x := by omega
      simp [h, h2]
def mixL (x y : List Int) (j : Nat) : List Int := sumL (x.take j) (y.take j) ++ x.drop j
theorem mixL_len {x y : List Int} (h : x.length = y.length) {j : Nat} (hj : j ≤ x.length) : (mixL x y j).length = x.length := by
  rw [mixL, List.length_append, sumL_len (by simp; omega)]; simp; omega
theorem mixL_get {x y : List Int} (h : x.length = y.length) {j : Nat} {u : Int} (hx : x[j]? = some u) : (mixL x y j)[j]? = some u := by
  obtain ⟨hj, rfl⟩ := List.getElem?_eq_some_iff.1 hx
  have hs : (sumL (x.take j) (y.take j)).length = j := by rw [sumL_len (by simp; omega)]; simp; omega
  rw [mixL, List.getElem?_append_right (by omega), hs, Nat.sub_self, List.getElem?_drop]
  simp
theorem mixL_set {x y : List Int} (h : x.length = y.length) {j : Nat} {u v : Int} (hx : x[j]? = some u) (hy : y[j]? = some v) : (mixL x y j).set j (u + v) = mixL x y (j + 1) := by
  have hj := (List.getElem?_eq_some_iff.1 hx).1
  have hs : (sumL (x.take j) (y.take j)).length = j := by rw [sumL_len (by simp; omega)]; simp; omega
  rw [mixL, mixL, sumL_take hx hy, List.set_append_right _ _ (by omega), hs, Nat.sub_self, List.drop_eq_getElem_cons hj, List.set_cons_zero, List.append_assoc]
  rfl
set_option maxRecDepth 100000 in
theorem add_ok {a b : Ct} (ha : a.rules.length ≤ 900000) (hb : b.rules.length ≤ 900000) (fa : a.fit) (fb : b.fit) : Fun Tryd.prog 13 [a.av, b.av] (addAV a b) := by
  have hm : maxI = 9223372036854775807 := rfl
  have hla := nums_len a
  have hlb := nums_len b
  have hca := containsNeg_ok (l := nums a) (by omega)
  have hcb := containsNeg_ok (l := nums b) (by omega)
  rw [any_neg] at hca hcb
  have view : ∀ {bs : List Box} {k : Nat}, bs[5]? = some (rowF intA 1 k (nums a)) → Vws bs [.bsl 5 (nums a).length k, .fn (.func 25) [] []] [slA intA (nums a), .fn (.func 25) [] []] := fun hb => .cons (.row (l := nums a) plainI hb rfl) (.cons .func .nil)
  by_cases h : okC a = true ∧ okC b = true ∧ a.rules.length = b.rules.length
  · rw [h.1] at hca
    rw [h.2.1] at hcb
    have hl := h.2.2
    have hlen : (nums a).length = (nums b).length := by omega
    refine Fun.of (op_profile_Add (by simp) ?_) rfl rfl
    conv => whnf
    conv => whnf
    repeat' ((first | refine cY ?_ | refine cN ?_ | refine .not ?_ | refine wI ?_ | refine .map ?_ | refine .nil ?_ | refine .one ?_ | refine .app ?_ | refine .set ?_ | refine .rep ?_ | refine .any ?_ | refine cI ?_ | refine cJ ?_ | refine cYa ?_ | refine cNa ?_ | refine cIa ?_ | refine cJa ?_ | refine cIr ?_ | refine cId ?_ | refine cJd ?_ | with_reducible refine CondN.and ?_ | with_reducible refine CondN.or ?_ | refine CondN.lt (fun hc => ?_) (fun hc => ?_) | refine CondN.le (fun hc => ?_) (fun hc => ?_) | refine CondN.dec (fun hc => ?_) (fun hc => ?_) | refine CondN.any (fun hc => ?_) (fun hc => ?_) | refine nS ?_ | refine iA ?_ | refine iB ?_ | refine iC fun x hx => ?_ | refine iD fun x hx => ?_ | refine iE ?_ | refine iF ?_ | refine iG ?_ | refine iH fun x hx => ?_ | refine iI fun x hx => ?_ | refine iJ ?_ | refine hB ?_ | refine aP ?_ | refine .last ?_ | refine .last2 ?_ | refine zN fun k hk => ?_ | refine aR fun k hk => ?_ | refine mA ?_ | refine eL ?_ | refine eS ?_ | refine eLb ?_ | refine eSb ?_ | refine mB ?_ | refine mBb ?_ | refine pE ?_ | refine pZ ?_ | refine pC ?_ | refine pN ?_ | refine pN2 ?_ | refine mS (fun hc => ?_) (fun hc => ?_)) <;> conv => whnf)
    refine CallN.raw (numbers_row (c := a) (by omega)) ?_
    rintro r bs' ⟨k, hk, rfl, rfl⟩
    conv => whnf
    repeat' ((first | refine CallN.fn (numbers_ok (c := b) (by omega)) ?_ | refine CallP.fn (numbers_ok (c := b) (by omega)) ?_ | refine cY ?_ | refine cN ?_ | refine .not ?_ | refine wI ?_ | refine .map ?_ | refine .nil ?_ | refine .one ?_ | refine .app ?_ | refine .set ?_ | refine .rep ?_ | refine .any ?_ | refine cI ?_ | refine cJ ?_ | refine cYa ?_ | refine cNa ?_ | refine cIa ?_ | refine cJa ?_ | refine cIr ?_ | refine cId ?_ | refine cJd ?_ | with_reducible refine CondN.and ?_ | with_reducible refine CondN.or ?_ | refine CondN.lt (fun hc => ?_) (fun hc => ?_) | refine CondN.le (fun hc => ?_) (fun hc => ?_) | refine CondN.dec (fun hc => ?_) (fun hc => ?_) | refine CondN.any (fun hc => ?_) (fun hc => ?_) | refine nS ?_ | refine iA ?_ | refine iB ?_ | refine iC fun x hx => ?_ | refine iD fun x hx => ?_ | refine iE ?_ | refine iF ?_ | refine iG ?_ | refine iH fun x hx => ?_ | refine iI fun x hx => ?_ | refine iJ ?_ | refine hB ?_ | refine aP ?_ | refine .last ?_ | refine .last2 ?_ | refine zN fun k hk => ?_ | refine aR fun k hk => ?_ | refine mA ?_ | refine eL ?_ | refine eS ?_ | refine eLb ?_ | refine eSb ?_ | refine mB ?_ | refine mBb ?_ | refine pE ?_ | refine pZ ?_ | refine pC ?_ | refine pN ?_ | refine pN2 ?_ | refine mS (fun hc => ?_) (fun hc => ?_)) <;> conv => whnf)
    refine CallN.view hca rfl (view rfl) ?_
    conv => whnf
    repeat' ((first | refine CallN.fn (hcb) ?_ | refine CallP.fn (hcb) ?_ | refine cY ?_ | refine cN ?_ | refine .not ?_ | refine wI ?_ | refine .map ?_ | refine .nil ?_ | refine .one ?_ | refine .app ?_ | refine .set ?_ | refine .rep ?_ | refine .any ?_ | refine cI ?_ | refine cJ ?_ | refine cYa ?_ | refine cNa ?_ | refine cIa ?_ | refine cJa ?_ | refine cIr ?_ | refine cId ?_ | refine cJd ?_ | with_reducible refine CondN.and ?_ | with_reducible refine CondN.or ?_ | refine CondN.lt (fun hc => ?_) (fun hc => ?_) | refine CondN.le (fun hc => ?_) (fun hc => ?_) | refine CondN.dec (fun hc => ?_) (fun hc => ?_) | refine CondN.any (fun hc => ?_) (fun hc => ?_) | refine nS ?_ | refine iA ?_ | refine iB ?_ | refine iC fun x hx => ?_ | refine iD fun x hx => ?_ | refine iE ?_ | refine iF ?_ | refine iG ?_ | refine iH fun x hx => ?_ | refine iI fun x hx => ?_ | refine iJ ?_ | refine hB ?_ | refine aP ?_ | refine .last ?_ | refine .last2 ?_ | refine zN fun k hk => ?_ | refine aR fun k hk => ?_ | refine mA ?_ | refine eL ?_ | refine eS ?_ | refine eLb ?_ | refine eSb ?_ | refine mB ?_ | refine mBb ?_ | refine pE ?_ | refine pZ ?_ | refine pC ?_ | refine pN ?_ | refine pN2 ?_ | refine mS (fun hc => ?_) (fun hc => ?_)) <;> conv => whnf)
    refine LoopP.count (fb := true) (nums a).length (fun st_ j => ⟨(st_.sets [(33, .int .i64 j)]).env, [ctBox a, ctBox b, .cells [.sl .full [], .int .i64 0, .int .i64 0, .int .i64 0], ctBox a, .dead, rowF intA 1 k (mixL (nums a) (nums b) j)], 0⟩) (fun j => fitsTo (nums a) (nums b) j) ?_ ?_ (fun j hj hij => ?_) (fun hij => ?_)
    · exact fun i u v hi => by omega
    · refine EndN.at_ ?_ rfl
      conv => whnf
      refine And.intro ?_ ?_ <;> conv => whnf
      all_goals repeat' ((first | refine vE ?_ | refine vI ?_ | refine vB ?_ | refine vC ?_ | refine vN ?_ | refine xB ?_ | exact True.intro | ((first | refine WkN.sl ?_ ?_ | refine vD ?_ ?_ | refine WkN.norm ?_ ?_ | refine BxN.mk ?_ ?_); (focus (simp [AV.norm, AV.norm1, mixL, sumL]; done)))) <;> conv => whnf)
    · obtain ⟨x, hx⟩ : ∃ x, (nums a)[j]? = some x := ⟨_, List.getElem?_eq_getElem hj⟩
      obtain ⟨y, hy⟩ : ∃ y, (nums b)[j]? = some y := ⟨_, List.getElem?_eq_getElem (by omega)⟩
      have hfx := fa x (List.mem_of_getElem? hx)
      have hfy := fb y (List.mem_of_getElem? hy)
      have hy0 := okC_iff.1 h.2.1 y (List.mem_of_getElem? hy)
      have hx0 := okC_iff.1 h.1 x (List.mem_of_getElem? hx)
      have g0 := mixL_get hlen hx
      have g1 := mixL_set hlen hx hy
      have g2 := mixL_len hlen (j := j) (by omega)
      generalize mixL (nums a) (nums b) j = q at *
      generalize mixL (nums a) (nums b) (j + 1) = q1 at *
      conv => whnf
      repeat' ((first | refine cY ?_ | refine cN ?_ | refine .not ?_ | refine wI ?_ | refine .map ?_ | refine .nil ?_ | refine .one ?_ | refine .app ?_ | refine .set ?_ | refine .rep ?_ | refine .any ?_ | refine cI ?_ | refine cJ ?_ | refine cYa ?_ | refine cNa ?_ | refine cIa ?_ | refine cJa ?_ | refine cIr ?_ | refine cId ?_ | refine cJd ?_ | with_reducible refine CondN.and ?_ | with_reducible refine CondN.or ?_ | refine CondN.lt (fun hc => ?_) (fun hc => ?_) | refine CondN.le (fun hc => ?_) (fun hc => ?_) | refine CondN.dec (fun hc => ?_) (fun hc => ?_) | refine CondN.any (fun hc => ?_) (fun hc => ?_) | refine nS ?_ | refine iA ?_ | refine iB ?_ | refine iC fun x hx => ?_ | refine iD fun x hx => ?_ | refine iE ?_ | refine iF ?_ | refine iG ?_ | refine iH fun x hx => ?_ | refine iI fun x hx => ?_ | refine iJ ?_ | refine hB ?_ | refine aP ?_ | refine .last ?_ | refine .last2 ?_ | refine zN fun k hk => ?_ | refine aR fun k hk => ?_ | refine mA ?_ | refine eL ?_ | refine eS ?_ | refine eLb ?_ | refine eSb ?_ | refine mB ?_ | refine mBb ?_ | refine pE ?_ | refine pZ ?_ | refine pC ?_ | refine pN ?_ | refine pN2 ?_ | refine mS (fun hc => ?_) (fun hc => ?_)) <;> conv => whnf)
      · rw [addAV, addC_err5 h hx hy (by omega)]
        conv => whnf
        repeat' ((first | refine cY ?_ | refine cN ?_ | refine .not ?_ | refine wI ?_ | refine .map ?_ | refine .nil ?_ | refine .one ?_ | refine .app ?_ | refine .set ?_ | refine .rep ?_ | refine .any ?_ | refine cI ?_ | refine cJ ?_ | refine cYa ?_ | refine cNa ?_ | refine cIa ?_ | refine cJa ?_ | refine cIr ?_ | refine cId ?_ | refine cJd ?_ | with_reducible refine CondN.and ?_ | with_reducible refine CondN.or ?_ | refine CondN.lt (fun hc => ?_) (fun hc => ?_) | refine CondN.le (fun hc => ?_) (fun hc => ?_) | refine CondN.dec (fun hc => ?_) (fun hc => ?_) | refine CondN.any (fun hc => ?_) (fun hc => ?_) | refine nS ?_ | refine iA ?_ | refine iB ?_ | refine iC fun x hx => ?_ | refine iD fun x hx => ?_ | refine iE ?_ | refine iF ?_ | refine iG ?_ | refine iH fun x hx => ?_ | refine iI fun x hx => ?_ | refine iJ ?_ | refine hB ?_ | refine aP ?_ | refine .last ?_ | refine .last2 ?_ | refine zN fun k hk => ?_ | refine aR fun k hk => ?_ | refine mA ?_ | refine eL ?_ | refine eS ?_ | refine eLb ?_ | refine eSb ?_ | refine mB ?_ | refine mBb ?_ | refine pE ?_ | refine pZ ?_ | refine pC ?_ | refine pN ?_ | refine pN2 ?_ | refine mS (fun hc => ?_) (fun hc => ?_) | refine RetP.nrm ?_) <;> conv => whnf)
        rfl
      · refine ⟨fun i u v hi hu hv => ?_, ?_⟩
        · by_cases e : i = j
          · subst e; rw [hx] at hu; rw [hy] at hv; cases hu; cases hv; omega
          · exact hij i u v (by omega) hu hv
        · refine EndN.at_ ?_ rfl
          conv => whnf
          refine And.intro ?_ ?_ <;> conv => whnf
          all_goals repeat' ((first | refine vE ?_ | refine vI ?_ | refine vB ?_ | refine vC ?_ | refine vN ?_ | refine xB ?_ | exact True.intro | ((first | refine WkN.sl ?_ ?_ | refine vD ?_ ?_ | refine WkN.norm ?_ ?_ | refine BxN.mk ?_ ?_); (focus (simp [AV.norm, AV.norm1, g1, rowF]; done)))) <;> conv => whnf)
    · obtain ⟨g1, g2, g3⟩ := addC_good h hij
      have hk' : (sumL a.rules b.rules).length = a.rules.length := sumL_len hl
      rw [show mixL (nums a) (nums b) (nums a).length = sumL (nums a) (nums b) by rw [mixL, List.take_length, hlen, List.take_length, ← hlen, List.drop_length, List.append_nil], g2]
      generalize hL : sumL a.rules b.rules ++ [(addC a b).1.tried, (addC a b).1.goals, (addC a b).1.steps] = L
      have hLl : L.length = a.rules.length + 3 := by rw [← hL]; simp [hk']
      have q0 : L[a.rules.length]? = some (addC a b).1.tried := by rw [← hL, List.getElem?_append_right (by omega), hk']; simp
      have q1 : L[((a.rules.length : Int) + 1).toNat]? = some (addC a b).1.goals := by rw [← hL, List.getElem?_append_right (by omega), hk', show ((a.rules.length : Int) + 1).toNat - a.rules.length = 1 by omega]; rfl
      have q2 : L[((a.rules.length : Int) + 2).toNat]? = some (addC a b).1.steps := by rw [← hL, List.getElem?_append_right (by omega), hk', show ((a.rules.length : Int) + 2).toNat - a.rules.length = 2 by omega]; rfl
      have hT : (L.take a.rules.length).map intA = (sumL a.rules b.rules).map intA := by rw [← hL, List.take_left' hk']
      conv => whnf
      repeat' ((first | refine cY ?_ | refine cN ?_ | refine .not ?_ | refine wI ?_ | refine .map ?_ | refine .nil ?_ | refine .one ?_ | refine .app ?_ | refine .set ?_ | refine .rep ?_ | refine .any ?_ | refine cI ?_ | refine cJ ?_ | refine cYa ?_ | refine cNa ?_ | refine cIa ?_ | refine cJa ?_ | refine cIr ?_ | refine cId ?_ | refine cJd ?_ | with_reducible refine CondN.and ?_ | with_reducible refine CondN.or ?_ | refine CondN.lt (fun hc => ?_) (fun hc => ?_) | refine CondN.le (fun hc => ?_) (fun hc => ?_) | refine CondN.dec (fun hc => ?_) (fun hc => ?_) | refine CondN.any (fun hc => ?_) (fun hc => ?_) | refine nS ?_ | refine iA ?_ | refine iB ?_ | refine iC fun x hx => ?_ | refine iD fun x hx => ?_ | refine iE ?_ | refine iF ?_ | refine iG ?_ | refine iH fun x hx => ?_ | refine iI fun x hx => ?_ | refine iJ ?_ | refine hB ?_ | refine aP ?_ | refine .last ?_ | refine .last2 ?_ | refine zN fun k hk => ?_ | refine aR fun k hk => ?_ | refine mA ?_ | refine eL ?_ | refine eS ?_ | refine eLb ?_ | refine eSb ?_ | refine mB ?_ | refine mBb ?_ | refine pE ?_ | refine pZ ?_ | refine pC ?_ | refine pN ?_ | refine pN2 ?_ | refine mS (fun hc => ?_) (fun hc => ?_)) <;> conv => whnf)
      refine RetP.frozeBx plainI 2 0 (l := L) (k0 := k) rfl rfl rfl (by omega) ?_
      conv => whnf
      repeat' ((first | refine cY ?_ | refine cN ?_ | refine .not ?_ | refine wI ?_ | refine .map ?_ | refine .nil ?_ | refine .one ?_ | refine .app ?_ | refine .set ?_ | refine .rep ?_ | refine .any ?_ | refine cI ?_ | refine cJ ?_ | refine cYa ?_ | refine cNa ?_ | refine cIa ?_ | refine cJa ?_ | refine cIr ?_ | refine cId ?_ | refine cJd ?_ | with_reducible refine CondN.and ?_ | with_reducible refine CondN.or ?_ | refine CondN.lt (fun hc => ?_) (fun hc => ?_) | refine CondN.le (fun hc => ?_) (fun hc => ?_) | refine CondN.dec (fun hc => ?_) (fun hc => ?_) | refine CondN.any (fun hc => ?_) (fun hc => ?_) | refine nS ?_ | refine iA ?_ | refine iB ?_ | refine iC fun x hx => ?_ | refine iD fun x hx => ?_ | refine iE ?_ | refine iF ?_ | refine iG ?_ | refine iH fun x hx => ?_ | refine iI fun x hx => ?_ | refine iJ ?_ | refine hB ?_ | refine aP ?_ | refine .last ?_ | refine .last2 ?_ | refine zN fun k hk => ?_ | refine aR fun k hk => ?_ | refine mA ?_ | refine eL ?_ | refine eS ?_ | refine eLb ?_ | refine eSb ?_ | refine mB ?_ | refine mBb ?_ | refine pE ?_ | refine pZ ?_ | refine pC ?_ | refine pN ?_ | refine pN2 ?_ | refine mS (fun hc => ?_) (fun hc => ?_) | refine RetP.nrm ?_) <;> conv => whnf)
      rw [addAV, g1, Ct.av, g3, ← hT]
      rfl
  · rw [addAV, addC_err2 h]
    refine Fun.of (op_profile_Add (by simp) ?_) rfl rfl
    conv => whnf
    conv => whnf
    repeat' ((first | refine cY ?_ | refine cN ?_ | refine .not ?_ | refine wI ?_ | refine .map ?_ | refine .nil ?_ | refine .one ?_ | refine .app ?_ | refine .set ?_ | refine .rep ?_ | refine .any ?_ | refine cI ?_ | refine cJ ?_ | refine cYa ?_ | refine cNa ?_ | refine cIa ?_ | refine cJa ?_ | refine cIr ?_ | refine cId ?_ | refine cJd ?_ | with_reducible refine CondN.and ?_ | with_reducible refine CondN.or ?_ | refine CondN.lt (fun hc => ?_) (fun hc => ?_) | refine CondN.le (fun hc => ?_) (fun hc => ?_) | refine CondN.dec (fun hc => ?_) (fun hc => ?_) | refine CondN.any (fun hc => ?_) (fun hc => ?_) | refine nS ?_ | refine iA ?_ | refine iB ?_ | refine iC fun x hx => ?_ | refine iD fun x hx => ?_ | refine iE ?_ | refine iF ?_ | refine iG ?_ | refine iH fun x hx => ?_ | refine iI fun x hx => ?_ | refine iJ ?_ | refine hB ?_ | refine aP ?_ | refine .last ?_ | refine .last2 ?_ | refine zN fun k hk => ?_ | refine aR fun k hk => ?_ | refine mA ?_ | refine eL ?_ | refine eS ?_ | refine eLb ?_ | refine eSb ?_ | refine mB ?_ | refine mBb ?_ | refine pE ?_ | refine pZ ?_ | refine pC ?_ | refine pN ?_ | refine pN2 ?_ | refine mS (fun hc => ?_) (fun hc => ?_)) <;> conv => whnf)
    refine CallN.raw (numbers_row (c := a) (by omega)) ?_
    rintro r bs' ⟨k, hk, rfl, rfl⟩
    conv => whnf
    repeat' ((first | refine CallN.fn (numbers_ok (c := b) (by omega)) ?_ | refine CallP.fn (numbers_ok (c := b) (by omega)) ?_ | refine cY ?_ | refine cN ?_ | refine .not ?_ | refine wI ?_ | refine .map ?_ | refine .nil ?_ | refine .one ?_ | refine .app ?_ | refine .set ?_ | refine .rep ?_ | refine .any ?_ | refine cI ?_ | refine cJ ?_ | refine cYa ?_ | refine cNa ?_ | refine cIa ?_ | refine cJa ?_ | refine cIr ?_ | refine cId ?_ | refine cJd ?_ | with_reducible refine CondN.and ?_ | with_reducible refine CondN.or ?_ | refine CondN.lt (fun hc => ?_) (fun hc => ?_) | refine CondN.le (fun hc => ?_) (fun hc => ?_) | refine CondN.dec (fun hc => ?_) (fun hc => ?_) | refine CondN.any (fun hc => ?_) (fun hc => ?_) | refine nS ?_ | refine iA ?_ | refine iB ?_ | refine iC fun x hx => ?_ | refine iD fun x hx => ?_ | refine iE ?_ | refine iF ?_ | refine iG ?_ | refine iH fun x hx => ?_ | refine iI fun x hx => ?_ | refine iJ ?_ | refine hB ?_ | refine aP ?_ | refine .last ?_ | refine .last2 ?_ | refine zN fun k hk => ?_ | refine aR fun k hk => ?_ | refine mA ?_ | refine eL ?_ | refine eS ?_ | refine eLb ?_ | refine eSb ?_ | refine mB ?_ | refine mBb ?_ | refine pE ?_ | refine pZ ?_ | refine pC ?_ | refine pN ?_ | refine pN2 ?_ | refine mS (fun hc => ?_) (fun hc => ?_)) <;> conv => whnf)
    · refine CallN.view hca rfl (view rfl) ?_
      cases hoa : okC a with
      | false =>
        conv => whnf
        repeat' ((first | refine cY ?_ | refine cN ?_ | refine .not ?_ | refine wI ?_ | refine .map ?_ | refine .nil ?_ | refine .one ?_ | refine .app ?_ | refine .set ?_ | refine .rep ?_ | refine .any ?_ | refine cI ?_ | refine cJ ?_ | refine cYa ?_ | refine cNa ?_ | refine cIa ?_ | refine cJa ?_ | refine cIr ?_ | refine cId ?_ | refine cJd ?_ | with_reducible refine CondN.and ?_ | with_reducible refine CondN.or ?_ | refine CondN.lt (fun hc => ?_) (fun hc => ?_) | refine CondN.le (fun hc => ?_) (fun hc => ?_) | refine CondN.dec (fun hc => ?_) (fun hc => ?_) | refine CondN.any (fun hc => ?_) (fun hc => ?_) | refine nS ?_ | refine iA ?_ | refine iB ?_ | refine iC fun x hx => ?_ | refine iD fun x hx => ?_ | refine iE ?_ | refine iF ?_ | refine iG ?_ | refine iH fun x hx => ?_ | refine iI fun x hx => ?_ | refine iJ ?_ | refine hB ?_ | refine aP ?_ | refine .last ?_ | refine .last2 ?_ | refine zN fun k hk => ?_ | refine aR fun k hk => ?_ | refine mA ?_ | refine eL ?_ | refine eS ?_ | refine eLb ?_ | refine eSb ?_ | refine mB ?_ | refine mBb ?_ | refine pE ?_ | refine pZ ?_ | refine pC ?_ | refine pN ?_ | refine pN2 ?_ | refine mS (fun hc => ?_) (fun hc => ?_) | refine RetP.nrm ?_) <;> conv => whnf)
        rfl
      | true =>
        conv => whnf
        repeat' ((first | refine CallN.fn (hcb) ?_ | refine CallP.fn (hcb) ?_ | refine cY ?_ | refine cN ?_ | refine .not ?_ | refine wI ?_ | refine .map ?_ | refine .nil ?_ | refine .one ?_ | refine .app ?_ | refine .set ?_ | refine .rep ?_ | refine .any ?_ | refine cI ?_ | refine cJ ?_ | refine cYa ?_ | refine cNa ?_ | refine cIa ?_ | refine cJa ?_ | refine cIr ?_ | refine cId ?_ | refine cJd ?_ | with_reducible refine CondN.and ?_ | with_reducible refine CondN.or ?_ | refine CondN.lt (fun hc => ?_) (fun hc => ?_) | refine CondN.le (fun hc => ?_) (fun hc => ?_) | refine CondN.dec (fun hc => ?_) (fun hc => ?_) | refine CondN.any (fun hc => ?_) (fun hc => ?_) | refine nS ?_ | refine iA ?_ | refine iB ?_ | refine iC fun x hx => ?_ | refine iD fun x hx => ?_ | refine iE ?_ | refine iF ?_ | refine iG ?_ | refine iH fun x hx => ?_ | refine iI fun x hx => ?_ | refine iJ ?_ | refine hB ?_ | refine aP ?_ | refine .last ?_ | refine .last2 ?_ | refine zN fun k hk => ?_ | refine aR fun k hk => ?_ | refine mA ?_ | refine eL ?_ | refine eS ?_ | refine eLb ?_ | refine eSb ?_ | refine mB ?_ | refine mBb ?_ | refine pE ?_ | refine pZ ?_ | refine pC ?_ | refine pN ?_ | refine pN2 ?_ | refine mS (fun hc => ?_) (fun hc => ?_)) <;> conv => whnf)
        · exact absurd ⟨hoa, by assumption, by omega⟩ h
        · conv => whnf
          repeat' ((first | refine cY ?_ | refine cN ?_ | refine .not ?_ | refine wI ?_ | refine .map ?_ | refine .nil ?_ | refine .one ?_ | refine .app ?_ | refine .set ?_ | refine .rep ?_ | refine .any ?_ | refine cI ?_ | refine cJ ?_ | refine cYa ?_ | refine cNa ?_ | refine cIa ?_ | refine cJa ?_ | refine cIr ?_ | refine cId ?_ | refine cJd ?_ | with_reducible refine CondN.and ?_ | with_reducible refine CondN.or ?_ | refine CondN.lt (fun hc => ?_) (fun hc => ?_) | refine CondN.le (fun hc => ?_) (fun hc => ?_) | refine CondN.dec (fun hc => ?_) (fun hc => ?_) | refine CondN.any (fun hc => ?_) (fun hc => ?_) | refine nS ?_ | refine iA ?_ | refine iB ?_ | refine iC fun x hx => ?_ | refine iD fun x hx => ?_ | refine iE ?_ | refine iF ?_ | refine iG ?_ | refine iH fun x hx => ?_ | refine iI fun x hx => ?_ | refine iJ ?_ | refine hB ?_ | refine aP ?_ | refine .last ?_ | refine .last2 ?_ | refine zN fun k hk => ?_ | refine aR fun k hk => ?_ | refine mA ?_ | refine eL ?_ | refine eS ?_ | refine eLb ?_ | refine eSb ?_ | refine mB ?_ | refine mBb ?_ | refine pE ?_ | refine pZ ?_ | refine pC ?_ | refine pN ?_ | refine pN2 ?_ | refine mS (fun hc => ?_) (fun hc => ?_) | refine RetP.nrm ?_) <;> conv => whnf)
          rfl
    · conv => whnf
      repeat' ((first | refine cY ?_ | refine cN ?_ | refine .not ?_ | refine wI ?_ | refine .map ?_ | refine .nil ?_ | refine .one ?_ | refine .app ?_ | refine .set ?_ | refine .rep ?_ | refine .any ?_ | refine cI ?_ | refine cJ ?_ | refine cYa ?_ | refine cNa ?_ | refine cIa ?_ | refine cJa ?_ | refine cIr ?_ | refine cId ?_ | refine cJd ?_ | with_reducible refine CondN.and ?_ | with_reducible refine CondN.or ?_ | refine CondN.lt (fun hc => ?_) (fun hc => ?_) | refine CondN.le (fun hc => ?_) (fun hc => ?_) | refine CondN.dec (fun hc => ?_) (fun hc => ?_) | refine CondN.any (fun hc => ?_) (fun hc => ?_) | refine nS ?_ | refine iA ?_ | refine iB ?_ | refine iC fun x hx => ?_ | refine iD fun x hx => ?_ | refine iE ?_ | refine iF ?_ | refine iG ?_ | refine iH fun x hx => ?_ | refine iI fun x hx => ?_ | refine iJ ?_ | refine hB ?_ | refine aP ?_ | refine .last ?_ | refine .last2 ?_ | refine zN fun k hk => ?_ | refine aR fun k hk => ?_ | refine mA ?_ | refine eL ?_ | refine eS ?_ | refine eLb ?_ | refine eSb ?_ | refine mB ?_ | refine mBb ?_ | refine pE ?_ | refine pZ ?_ | refine pC ?_ | refine pN ?_ | refine pN2 ?_ | refine mS (fun hc => ?_) (fun hc => ?_) | refine RetP.nrm ?_) <;> conv => whnf)
      rfl
end Go.CK
