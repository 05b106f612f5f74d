/-
  WALKS: the reference of the package arith. By an AI agent.
-/
import Derived.Test.YtllcnpfdklbbbaaArithW
namespace Go.CK
open Go.RowKit Go.Proofs

theorem isOp_yes {s : ByteArray} (h : isOp s = true) : s.toList = [43] ∨ s.toList = [45] ∨ s.toList = [42] ∨ s.toList = [47] ∨ s.toList = [37] := by
  simp only [isOp, decide_eq_true_eq] at h
  rw [s_add, s_sub, s_mul, s_div, s_mod]; exact h

set_option maxHeartbeats 400000 in
theorem operator_ref (s : ByteArray) (w : World) :
    Calls Try.prog 45 #[.string s] w fun e w' => e = .returned (.bool (isOp s)) ∧ w = w' := by
  cases ho : isOp s with
  | false =>
    obtain ⟨n1, n2, n3, n4, n5⟩ := isOp_not ho
    clear ho
    go_enter Try.func45, Try.ntmps45
    go_wp2_with fail
    go_ret
    exact ⟨rfl, rfl⟩
  | true =>
    rcases isOp_yes ho with h | h | h | h | h
    all_goals
      clear ho
      go_enter Try.func45, Try.ntmps45
      go_wp2_with fail
      go_ret
      exact ⟨rfl, rfl⟩

set_option maxHeartbeats 400000 in
theorem in_ref (n : Int) (w : World) :
    Calls Try.prog 46 #[.int .i64 n] w fun e w' => e = .returned (.bool (inR n)) ∧ w = w' := by
  by_cases h1 : -2147483648 ≤ n
  · by_cases h2 : n ≤ 2147483648
    · have hv : inR n = true := inR_iff.2 ⟨h1, h2⟩
      have Hv := Lib.hid hv; clear hv
      go_enter Try.func46, Try.ntmps46
      go_wp2_with fail
      go_ret
      exact ⟨by rw [Hv.out]; rfl, rfl⟩
    · have hv : inR n = false := by simp [inR]; omega
      have Hv := Lib.hid hv; clear hv
      go_enter Try.func46, Try.ntmps46
      go_wp2_with fail
      go_ret
      exact ⟨by rw [Hv.out]; rfl, rfl⟩
  · have hv : inR n = false := by simp [inR]; omega
    have Hv := Lib.hid hv; clear hv
    go_enter Try.func46, Try.ntmps46
    go_wp2_with fail
    go_ret
    exact ⟨by rw [Hv.out]; rfl, rfl⟩

set_option maxHeartbeats 400000 in
theorem floor_ref (a b : Int) (w : World) (hb : b ≠ 0) (h1 : -2147483648 ≤ a) (h2 : a ≤ 2147483648) (h3 : -2147483648 ≤ b) (h4 : b ≤ 2147483648) :
    Calls Try.prog 47 #[.int .i64 a, .int .i64 b] w fun e w' => e = .returned (.int .i64 (a.fdiv b)) ∧ w = w' := by
  rw [← flr_fdiv a b hb]
  have hz : (b == 0) = false := by simpa using hb
  by_cases hb0 : b < 0
  · have hz' : (-b == 0) = false := by simpa using hb
    by_cases ha : 0 ≤ -a
    · have hv : flr a b = a.tdiv b := by unfold flr; rw [if_pos hb0, if_pos ha, Int.neg_tdiv_neg]
      have hq := tdiv_bound b h1 h2
      have q1 := hq.1
      have q2 := hq.2
      have Hv := Lib.hid hv; clear hv hq
      go_enter Try.func47, Try.ntmps47
      go_wp2_with fail
      go_ret
      exact ⟨by rw [Hv.out]; rfl, rfl⟩
    · have h0 : 0 ≤ -b - 1 - -a := by omega
      have hv : flr a b = (-b - 1 + a).tdiv b := by unfold flr; rw [if_pos hb0, if_neg ha, Int.tdiv_neg, Int.neg_neg, Int.sub_neg]
      have hq : ((-b - 1 + a).tdiv b).natAbs ≤ (-b - 1 + a).natAbs := by rw [Int.natAbs_tdiv]; exact Nat.div_le_self _ _
      have hw : wrap64 (-wrap64 (-(-b - 1 + a).tdiv b)) = flr a b := by
        rw [hv, IntWalk.wrap64_in (-(-b - 1 + a).tdiv b) (by omega), Int.neg_neg, IntWalk.wrap64_in _ (by omega)]
      have Hw := Lib.hid hw; clear hv hq hw
      go_enter Try.func47, Try.ntmps47
      go_wp2_with fail
      go_ret
      exact ⟨by rw [← Hw.out]; rfl, rfl⟩
  · by_cases ha : 0 ≤ a
    · have hv : flr a b = a / b := by unfold flr; rw [if_neg hb0, if_pos ha, Int.tdiv_eq_ediv_of_nonneg ha]
      have Hv := Lib.hid hv; clear hv
      go_enter Try.func47, Try.ntmps47
      go_wp2_with fail
      go_ret
      exact ⟨by rw [Hv.out]; rfl, rfl⟩
    · have h0 : 0 ≤ b - 1 - a := by omega
      have hv : flr a b = -((b - 1 - a) / b) := by unfold flr; rw [if_neg hb0, if_neg ha, Int.tdiv_eq_ediv_of_nonneg h0]
      have hq1 := Int.ediv_nonneg h0 (show 0 ≤ b by omega)
      have hq2 := Int.ediv_le_self b h0
      have Hv := Lib.hid hv; clear hv
      go_enter Try.func47, Try.ntmps47
      go_wp2_with fail
      go_ret
      exact ⟨by rw [Hv.out]; rfl, rfl⟩

set_option maxHeartbeats 1000000 in
theorem apply_ref (s : ByteArray) (a b : Int) (w : World) :
    Calls Try.prog 30 #[.string s, .int .i64 a, .int .i64 b] w fun e w' => e = .returned (.tuple #[.int .i64 (apply s a b).1, .int .i64 (apply s a b).2]) ∧ w = w' := by
  cases ho : isOp s with
  | false =>
    have hv : apply s a b = (0, 7) := by rw [apply, if_pos ho]
    rw [hv]
    have Ho := Lib.hid ho; clear ho hv
    go_enter Try.func30, Try.ntmps30
    go_wp2_with fail
    refine (operator_ref s _).mono ?_
    rintro e w1 ⟨rfl, rfl⟩
    rw [Ho.out]
    go_wp2_with fail
    go_ret2
    exact ⟨rfl, rfl⟩
  | true =>
    cases ia : inR a with
    | false =>
      have hv : apply s a b = (0, 5) := by rw [apply, if_neg (by simp [ho]), if_pos (by simp [ia])]
      rw [hv]
      have Ho := Lib.hid ho; clear ho hv
      have Ia := Lib.hid ia; clear ia
      go_enter Try.func30, Try.ntmps30
      go_wp2_with fail
      refine (operator_ref s _).mono ?_
      rintro e w1 ⟨rfl, rfl⟩
      rw [Ho.out]
      go_wp2_with fail
      refine (in_ref _ _).mono ?_
      rintro e w1 ⟨rfl, rfl⟩
      rw [Ia.out]
      go_wp2_with fail
      go_ret2
      exact ⟨rfl, rfl⟩
    | true =>
    cases ib : inR b with
    | false =>
      have hv : apply s a b = (0, 5) := by rw [apply, if_neg (by simp [ho]), if_pos (by simp [ib])]
      rw [hv]
      have Ho := Lib.hid ho; clear ho hv
      have Ia := Lib.hid ia; clear ia
      have Ib := Lib.hid ib; clear ib
      go_enter Try.func30, Try.ntmps30
      go_wp2_with fail
      refine (operator_ref s _).mono ?_
      rintro e w1 ⟨rfl, rfl⟩
      rw [Ho.out]
      go_wp2_with fail
      refine (in_ref _ _).mono ?_
      rintro e w1 ⟨rfl, rfl⟩
      rw [Ia.out]
      go_wp2_with fail
      refine (in_ref _ _).mono ?_
      rintro e w1 ⟨rfl, rfl⟩
      rw [Ib.out]
      go_wp2_with fail
      go_ret2
      exact ⟨rfl, rfl⟩
    | true =>
      have hap : apply s a b = if (opv s a b).2 ≠ 0 then (0, (opv s a b).2) else if inR (opv s a b).1 = false then (0, 5) else ((opv s a b).1, 0) := by
        rw [apply, if_neg (by rw [ho]; simp), if_neg (by simp [ia, ib])]
      have hfin : ∀ n, opv s a b = (n, 0) → (inR n = true → apply s a b = (n, 0)) ∧ (inR n = false → apply s a b = (0, 5)) := by
        intro n hn
        rw [hap, hn]
        exact ⟨fun h => by simp [h], fun h => by simp [h]⟩
      have ha' := inR_iff.1 ia
      have hb' := inR_iff.1 ib
      have a1 := ha'.1
      have a2 := ha'.2
      have b1 := hb'.1
      have b2 := hb'.2
      have hm := mul_bound a1 a2 b1 b2
      have m1 := hm.1
      have m2 := hm.2
      have hcase := isOp_yes ho
      have hopv : (s.toList = [43] → opv s a b = (a + b, 0)) ∧ (s.toList = [45] → opv s a b = (a - b, 0)) ∧ (s.toList = [42] → opv s a b = (a * b, 0)) ∧
          (b ≠ 0 → s.toList = [47] → opv s a b = (a.fdiv b, 0)) ∧ (b ≠ 0 → s.toList = [37] → opv s a b = (a - a.fdiv b * b, 0)) ∧ (b = 0 → s.toList = [47] ∨ s.toList = [37] → apply s a b = (0, 12)) := by
        rw [hap]
        refine ⟨fun h => ?_, fun h => ?_, fun h => ?_, fun hz h => ?_, fun hz h => ?_, fun hz h => ?_⟩
        · rw [s_add] at h; subst h; simp [opv]
        · rw [s_sub] at h; subst h; simp [opv, cAdd, cSub]
        · rw [s_mul] at h; subst h; simp [opv, cAdd, cSub, cMul]
        · rw [s_div] at h; subst h; simp [opv, cAdd, cSub, cMul, cDiv, hz]
        · rw [s_mod] at h; subst h; simp [opv, cAdd, cSub, cMul, cDiv, cMod, hz]
        · rcases h with h | h
          · rw [s_div] at h; subst h; simp [opv, cAdd, cSub, cMul, cDiv, hz]
          · rw [s_mod] at h; subst h; simp [opv, cAdd, cSub, cMul, cMod, hz]
      obtain ⟨o1, o2, o3, o4, o5, o6⟩ := hopv
      have Ho := Lib.hid ho
      have Ia := Lib.hid ia
      have Ib := Lib.hid ib
      have Hfin := Lib.hid hfin
      clear ho ia ib hap hm ha' hb' hfin
      rcases hcase with h | h | h | h | h
      · have Hn := Lib.hid (o1 h)
        clear o1 o2 o3 o4 o5 o6
        cases hin : inR (a + b) with
        | true =>
          have Hin := Lib.hid hin; clear hin
          go_enter Try.func30, Try.ntmps30
          go_wp2_with fail
          refine (operator_ref s _).mono ?_
          rintro e w1 ⟨rfl, rfl⟩
          rw [Ho.out]
          go_wp2_with fail
          refine (in_ref _ _).mono ?_
          rintro e w1 ⟨rfl, rfl⟩
          rw [Ia.out]
          go_wp2_with fail
          refine (in_ref _ _).mono ?_
          rintro e w1 ⟨rfl, rfl⟩
          rw [Ib.out]
          go_wp2_with fail
          refine (in_ref (a + b) _).mono ?_
          rintro e w1 ⟨rfl, rfl⟩
          rw [Hin.out]
          go_wp2_with fail
          go_ret2
          exact ⟨by rw [(Hfin.out _ Hn.out).1 Hin.out]; rfl, rfl⟩
        | false =>
          have Hin := Lib.hid hin; clear hin
          go_enter Try.func30, Try.ntmps30
          go_wp2_with fail
          refine (operator_ref s _).mono ?_
          rintro e w1 ⟨rfl, rfl⟩
          rw [Ho.out]
          go_wp2_with fail
          refine (in_ref _ _).mono ?_
          rintro e w1 ⟨rfl, rfl⟩
          rw [Ia.out]
          go_wp2_with fail
          refine (in_ref _ _).mono ?_
          rintro e w1 ⟨rfl, rfl⟩
          rw [Ib.out]
          go_wp2_with fail
          refine (in_ref (a + b) _).mono ?_
          rintro e w1 ⟨rfl, rfl⟩
          rw [Hin.out]
          go_wp2_with fail
          go_ret2
          exact ⟨by rw [(Hfin.out _ Hn.out).2 Hin.out]; rfl, rfl⟩
      · have Hn := Lib.hid (o2 h)
        clear o1 o2 o3 o4 o5 o6
        cases hin : inR (a - b) with
        | true =>
          have Hin := Lib.hid hin; clear hin
          go_enter Try.func30, Try.ntmps30
          go_wp2_with fail
          refine (operator_ref s _).mono ?_
          rintro e w1 ⟨rfl, rfl⟩
          rw [Ho.out]
          go_wp2_with fail
          refine (in_ref _ _).mono ?_
          rintro e w1 ⟨rfl, rfl⟩
          rw [Ia.out]
          go_wp2_with fail
          refine (in_ref _ _).mono ?_
          rintro e w1 ⟨rfl, rfl⟩
          rw [Ib.out]
          go_wp2_with fail
          refine (in_ref (a - b) _).mono ?_
          rintro e w1 ⟨rfl, rfl⟩
          rw [Hin.out]
          go_wp2_with fail
          go_ret2
          exact ⟨by rw [(Hfin.out _ Hn.out).1 Hin.out]; rfl, rfl⟩
        | false =>
          have Hin := Lib.hid hin; clear hin
          go_enter Try.func30, Try.ntmps30
          go_wp2_with fail
          refine (operator_ref s _).mono ?_
          rintro e w1 ⟨rfl, rfl⟩
          rw [Ho.out]
          go_wp2_with fail
          refine (in_ref _ _).mono ?_
          rintro e w1 ⟨rfl, rfl⟩
          rw [Ia.out]
          go_wp2_with fail
          refine (in_ref _ _).mono ?_
          rintro e w1 ⟨rfl, rfl⟩
          rw [Ib.out]
          go_wp2_with fail
          refine (in_ref (a - b) _).mono ?_
          rintro e w1 ⟨rfl, rfl⟩
          rw [Hin.out]
          go_wp2_with fail
          go_ret2
          exact ⟨by rw [(Hfin.out _ Hn.out).2 Hin.out]; rfl, rfl⟩
      · have Hn := Lib.hid (o3 h)
        clear o1 o2 o3 o4 o5 o6
        cases hin : inR (a * b) with
        | true =>
          have Hin := Lib.hid hin; clear hin
          go_enter Try.func30, Try.ntmps30
          go_wp2_with fail
          refine (operator_ref s _).mono ?_
          rintro e w1 ⟨rfl, rfl⟩
          rw [Ho.out]
          go_wp2_with fail
          refine (in_ref _ _).mono ?_
          rintro e w1 ⟨rfl, rfl⟩
          rw [Ia.out]
          go_wp2_with fail
          refine (in_ref _ _).mono ?_
          rintro e w1 ⟨rfl, rfl⟩
          rw [Ib.out]
          go_wp2_with fail
          refine (in_ref (a * b) _).mono ?_
          rintro e w1 ⟨rfl, rfl⟩
          rw [Hin.out]
          go_wp2_with fail
          go_ret2
          exact ⟨by rw [(Hfin.out _ Hn.out).1 Hin.out]; rfl, rfl⟩
        | false =>
          have Hin := Lib.hid hin; clear hin
          go_enter Try.func30, Try.ntmps30
          go_wp2_with fail
          refine (operator_ref s _).mono ?_
          rintro e w1 ⟨rfl, rfl⟩
          rw [Ho.out]
          go_wp2_with fail
          refine (in_ref _ _).mono ?_
          rintro e w1 ⟨rfl, rfl⟩
          rw [Ia.out]
          go_wp2_with fail
          refine (in_ref _ _).mono ?_
          rintro e w1 ⟨rfl, rfl⟩
          rw [Ib.out]
          go_wp2_with fail
          refine (in_ref (a * b) _).mono ?_
          rintro e w1 ⟨rfl, rfl⟩
          rw [Hin.out]
          go_wp2_with fail
          go_ret2
          exact ⟨by rw [(Hfin.out _ Hn.out).2 Hin.out]; rfl, rfl⟩
      · by_cases hz : b = 0
        · have Hn := Lib.hid (o6 hz (.inl h))
          subst hz
          clear o1 o2 o3 o4 o5 o6 m1 m2 Hfin
          go_enter Try.func30, Try.ntmps30
          go_wp2_with fail
          refine (operator_ref s _).mono ?_
          rintro e w1 ⟨rfl, rfl⟩
          rw [Ho.out]
          go_wp2_with fail
          refine (in_ref _ _).mono ?_
          rintro e w1 ⟨rfl, rfl⟩
          rw [Ia.out]
          go_wp2_with fail
          refine (in_ref _ _).mono ?_
          rintro e w1 ⟨rfl, rfl⟩
          rw [Ib.out]
          go_wp2_with fail
          go_ret2
          exact ⟨by rw [Hn.out]; rfl, rfl⟩
        · have Hn := Lib.hid (o4 hz h)
          have hz' : (b == 0) = false := by simpa using hz
          have hf := fdiv_bound hz a1 a2
          have f1 := hf.1
          have f2 := hf.2
          have Hz := Lib.hid hz
          clear o1 o2 o3 o4 o5 o6 hz hf
          cases hin : inR (a.fdiv b) with
          | true =>
            have Hin := Lib.hid hin; clear hin
            go_enter Try.func30, Try.ntmps30
            go_wp2_with fail
            refine (operator_ref s _).mono ?_
            rintro e w1 ⟨rfl, rfl⟩
            rw [Ho.out]
            go_wp2_with fail
            refine (in_ref _ _).mono ?_
            rintro e w1 ⟨rfl, rfl⟩
            rw [Ia.out]
            go_wp2_with fail
            refine (in_ref _ _).mono ?_
            rintro e w1 ⟨rfl, rfl⟩
            rw [Ib.out]
            go_wp2_with fail
            refine (floor_ref a b _ Hz.out a1 a2 b1 b2).mono ?_
            rintro e w1 ⟨rfl, rfl⟩
            go_wp2_with fail
            refine (in_ref (a.fdiv b) _).mono ?_
            rintro e w1 ⟨rfl, rfl⟩
            rw [Hin.out]
            go_wp2_with fail
            go_ret2
            exact ⟨by rw [(Hfin.out _ Hn.out).1 Hin.out]; rfl, rfl⟩
          | false =>
            exact absurd hin (by simp [inR]; omega)
      · by_cases hz : b = 0
        · have Hn := Lib.hid (o6 hz (.inr h))
          subst hz
          clear o1 o2 o3 o4 o5 o6 m1 m2 Hfin
          go_enter Try.func30, Try.ntmps30
          go_wp2_with fail
          refine (operator_ref s _).mono ?_
          rintro e w1 ⟨rfl, rfl⟩
          rw [Ho.out]
          go_wp2_with fail
          refine (in_ref _ _).mono ?_
          rintro e w1 ⟨rfl, rfl⟩
          rw [Ia.out]
          go_wp2_with fail
          refine (in_ref _ _).mono ?_
          rintro e w1 ⟨rfl, rfl⟩
          rw [Ib.out]
          go_wp2_with fail
          go_ret2
          exact ⟨by rw [Hn.out]; rfl, rfl⟩
        · have Hn := Lib.hid (o5 hz h)
          have hz' : (b == 0) = false := by simpa using hz
          have hf := fdiv_bound hz a1 a2
          have f1 := hf.1
          have f2 := hf.2
          have hm := mul_bound f1 f2 b1 b2
          have m1 := hm.1
          have m2 := hm.2
          have Hz := Lib.hid hz
          clear o1 o2 o3 o4 o5 o6 hz hf hm
          cases hin : inR (a - a.fdiv b * b) with
          | true =>
            have Hin := Lib.hid hin; clear hin
            go_enter Try.func30, Try.ntmps30
            go_wp2_with fail
            refine (operator_ref s _).mono ?_
            rintro e w1 ⟨rfl, rfl⟩
            rw [Ho.out]
            go_wp2_with fail
            refine (in_ref _ _).mono ?_
            rintro e w1 ⟨rfl, rfl⟩
            rw [Ia.out]
            go_wp2_with fail
            refine (in_ref _ _).mono ?_
            rintro e w1 ⟨rfl, rfl⟩
            rw [Ib.out]
            go_wp2_with fail
            refine (floor_ref a b _ Hz.out a1 a2 b1 b2).mono ?_
            rintro e w1 ⟨rfl, rfl⟩
            go_wp2_with fail
            refine (in_ref (a - a.fdiv b * b) _).mono ?_
            rintro e w1 ⟨rfl, rfl⟩
            rw [Hin.out]
            go_wp2_with fail
            go_ret2
            exact ⟨by rw [(Hfin.out _ Hn.out).1 Hin.out]; rfl, rfl⟩
          | false =>
            have Hin := Lib.hid hin; clear hin
            go_enter Try.func30, Try.ntmps30
            go_wp2_with fail
            refine (operator_ref s _).mono ?_
            rintro e w1 ⟨rfl, rfl⟩
            rw [Ho.out]
            go_wp2_with fail
            refine (in_ref _ _).mono ?_
            rintro e w1 ⟨rfl, rfl⟩
            rw [Ia.out]
            go_wp2_with fail
            refine (in_ref _ _).mono ?_
            rintro e w1 ⟨rfl, rfl⟩
            rw [Ib.out]
            go_wp2_with fail
            refine (floor_ref a b _ Hz.out a1 a2 b1 b2).mono ?_
            rintro e w1 ⟨rfl, rfl⟩
            go_wp2_with fail
            refine (in_ref (a - a.fdiv b * b) _).mono ?_
            rintro e w1 ⟨rfl, rfl⟩
            rw [Hin.out]
            go_wp2_with fail
            go_ret2
            exact ⟨by rw [(Hfin.out _ Hn.out).2 Hin.out]; rfl, rfl⟩
end Go.CK
