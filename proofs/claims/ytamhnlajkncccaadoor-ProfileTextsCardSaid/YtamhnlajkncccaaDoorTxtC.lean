/-
  PROFILE, in the abstract machine: the functions' contracts, 8: the specification's text; ProfileTexts: a direct walk. By an AI agent.
-/
import Derived.Test.YtamhnlajkncccaaDoorProJ
import Derived.Lib.LaidTab
import Derived.Deep.RegionHeld3
import Derived.Deep.DrawnRows
set_option linter.unusedSimpArgs false
set_option linter.unusedVariables false
namespace Go.CK
open Go.AM Go.Proofs
theorem wB {n : Int} {K : Int → Prop} (k : K n) (h : 0 ≤ n ∧ n ≤ 255) : WrapN .u8 n K := ⟨by rw [IntWalk.u8_in n h]; exact k⟩
theorem wU {n : Int} {K : Int → Prop} (k : K n) (h : 0 ≤ n ∧ n ≤ 18446744073709551615) : WrapN .u64 n K := ⟨by rw [IntWalk.u64_in n h]; exact k⟩
theorem wUn {n : Int} {K : Int → Prop} (k : K (n + 18446744073709551616)) (h : -18446744073709551616 ≤ n ∧ n < 0) : WrapN .u64 n K := ⟨by
  have : IntKind.u64.wrap n = n + 18446744073709551616 := by rw [IntKind.wrap_u64]; omega
  rw [this]; exact k⟩
theorem tm10 (m : Nat) : (m : Int).tmod 10 = ((m % 10 : Nat) : Int) := rfl
theorem td10 (m : Nat) : (m : Int).tdiv 10 = ((m / 10 : Nat) : Int) := rfl
def byB (l : List UInt8) : ByteArray := ⟨l.toArray⟩
theorem byB_size (l : List UInt8) : (byB l).size = l.length := by simp [byB, ByteArray.size]
theorem byB_app (l m : List UInt8) : byB l ++ byB m = byB (l ++ m) := by
  apply ByteArray.ext
  simp [byB, ByteArray.data_append]
theorem strOf1 (m : Nat) (h : m < 10) : strOf [48 + (m : Int)] = byB [UInt8.ofNat (48 + m)] := by
  have : (48 + (m : Int)).toNat = 48 + m := by omega
  simp only [strOf, List.foldl_cons, List.foldl_nil, this]
  rfl
/-- the digits, one after another -/
theorem digits_run : ∀ (k n : Nat) (s : List UInt8), n < 10 ^ (k + 1) → ∃ (N : Nat) (q : Nat → Nat) (t : Nat → List UInt8), q 0 = n ∧ t 0 = s ∧ q N < 10 ∧ N ≤ k ∧ (∀ j, j < N → 10 ≤ q j ∧ q (j + 1) = q j / 10 ∧ t (j + 1) = UInt8.ofNat (48 + q j % 10) :: t j) ∧ Lib.decDigits n ++ s = UInt8.ofNat (48 + q N) :: t N ∧ (∀ j, j ≤ N → (t j).length ≤ s.length + j ∧ q j ≤ n)
  | 0, n, s, h => by
    have h : n < 10 := by simpa using h
    refine ⟨0, fun _ => n, fun _ => s, rfl, rfl, h, Nat.le_refl _, fun j hj => by omega, by rw [digit1 h]; rfl, fun j hj => ⟨Nat.le_add_right _ _, Nat.le_refl _⟩⟩
  | k + 1, n, s, h => by
    by_cases hn : n < 10
    · exact ⟨0, fun _ => n, fun _ => s, rfl, rfl, hn, Nat.zero_le _, fun j hj => by omega, by rw [digit1 hn]; rfl, fun j hj => ⟨Nat.le_add_right _ _, Nat.le_refl _⟩⟩
    · obtain ⟨N, q, t, h0, h1, h2, h3, h4, h5, h6⟩ := digits_run k (n / 10) (UInt8.ofNat (48 + n % 10) :: s) (by rw [Nat.pow_succ] at h; omega)
      refine ⟨N + 1, fun j => match j with | 0 => n | j + 1 => q j, fun j => match j with | 0 => s | j + 1 => t j, rfl, rfl, h2, by omega, fun j hj => ?_, ?_, fun j hj => ?_⟩
      · cases j with
        | zero => exact ⟨by show 10 ≤ n; omega, h0, h1⟩
        | succ j => exact h4 j (by omega)
      · rw [Lib.decDigits, dif_neg hn, ← h5]; simp
      · cases j with
        | zero => exact ⟨by simp, Nat.le_refl _⟩
        | succ j => have := h6 j (by omega); simp only [List.length_cons] at this; exact ⟨by show (t j).length ≤ _; omega, by show q j ≤ n; omega⟩
set_option maxRecDepth 100000 in
theorem digits_ok {n : Nat} (hn : n ≤ 18446744073709551615) : Fun Tryd.prog 37 [.int .u64 n] (.str (byB (Lib.decDigits n))) := by
  obtain ⟨N, q, t, h0, h1, h2, h3, h4, h5, h6⟩ := digits_run 19 n [] (by omega)
  have hm : ∀ j, q j % 10 < 10 := fun j => Nat.mod_lt _ (by decide)
  refine Fun.of (op_constraintref37_digits (by simp) ?_) rfl rfl
  conv => whnf
  conv => whnf
  repeat' ((first | refine cY ?_ | refine cN ?_ | refine .not ?_ | refine wI ?_ | refine .map ?_ | refine .nil ?_ | refine .one ?_ | refine .app ?_ | refine .set ?_ | refine .rep ?_ | refine .any ?_ | refine cI ?_ | refine cJ ?_ | refine cYa ?_ | refine cNa ?_ | refine cIa ?_ | refine cJa ?_ | refine cIr ?_ | refine cId ?_ | refine cJd ?_ | with_reducible refine CondN.and ?_ | with_reducible refine CondN.or ?_ | refine CondN.lt (fun hc => ?_) (fun hc => ?_) | refine CondN.le (fun hc => ?_) (fun hc => ?_) | refine CondN.dec (fun hc => ?_) (fun hc => ?_) | refine CondN.any (fun hc => ?_) (fun hc => ?_) | refine nS ?_ | refine iA ?_ | refine iB ?_ | refine iC fun x hx => ?_ | refine iD fun x hx => ?_ | refine iE ?_ | refine iF ?_ | refine iG ?_ | refine iH fun x hx => ?_ | refine iI fun x hx => ?_ | refine iJ ?_ | refine hB ?_ | refine aP ?_ | refine .last ?_ | refine .last2 ?_ | refine zN fun k hk => ?_ | refine aR fun k hk => ?_ | refine mA ?_ | refine eL ?_ | refine eS ?_ | refine eLb ?_ | refine eSb ?_ | refine mB ?_ | refine mBb ?_ | refine pE ?_ | refine pZ ?_ | refine pC ?_ | refine pN ?_ | refine pN2 ?_ | refine mS (fun hc => ?_) (fun hc => ?_) | refine RetP.nrm ?_) <;> conv => whnf)
  refine LoopP.count (fb := true) (N) (fun st_ j => st_.sets [(0, .int .u64 (q j)), (3, .str (byB (t j)))]) (fun j => True) ?_ ?_ (fun j hj hij => ?_) (fun hij => ?_)
  · trivial
  · refine EndN.at_ ?_ rfl
    conv => whnf
    refine And.intro ?_ ?_ <;> conv => whnf
    all_goals repeat' ((first | refine vE ?_ | refine vI ?_ | refine vB ?_ | refine vC ?_ | refine vN ?_ | refine xB ?_ | exact True.intro | ((first | refine WkN.sl ?_ ?_ | refine vD ?_ ?_ | refine WkN.norm ?_ ?_ | refine BxN.mk ?_ ?_); (focus (simp [AV.norm, AV.norm1, h0, h1, byB]; done)))) <;> conv => whnf)
  · obtain ⟨g1, g2, g3⟩ := h4 j hj
    obtain ⟨g4, g5⟩ := h6 j (by omega)
    have g6 := hm j
    have hz : (strOf [48 + ((q j % 10 : Nat) : Int)]).size + (byB (t j)).size ≤ lim := by
      rw [strOf1 _ g6, byB_size, byB_size]; simp only [List.length_cons, List.length_nil, lim] at *; omega
    conv => whnf
    repeat' ((first | refine cY ?_ | refine cN ?_ | refine .not ?_ | refine wI ?_ | refine .map ?_ | refine .nil ?_ | refine .one ?_ | refine .app ?_ | refine .set ?_ | refine .rep ?_ | refine .any ?_ | refine cI ?_ | refine cJ ?_ | refine cYa ?_ | refine cNa ?_ | refine cIa ?_ | refine cJa ?_ | refine cIr ?_ | refine cId ?_ | refine cJd ?_ | with_reducible refine CondN.and ?_ | with_reducible refine CondN.or ?_ | refine CondN.lt (fun hc => ?_) (fun hc => ?_) | refine CondN.le (fun hc => ?_) (fun hc => ?_) | refine CondN.dec (fun hc => ?_) (fun hc => ?_) | refine CondN.any (fun hc => ?_) (fun hc => ?_) | refine nS ?_ | refine iA ?_ | refine iB ?_ | refine iC fun x hx => ?_ | refine iD fun x hx => ?_ | refine iE ?_ | refine iF ?_ | refine iG ?_ | refine iH fun x hx => ?_ | refine iI fun x hx => ?_ | refine iJ ?_ | refine hB ?_ | refine aP ?_ | refine .last ?_ | refine .last2 ?_ | refine zN fun k hk => ?_ | refine aR fun k hk => ?_ | refine mA ?_ | refine eL ?_ | refine eS ?_ | refine eLb ?_ | refine eSb ?_ | refine mB ?_ | refine mBb ?_ | refine pE ?_ | refine pZ ?_ | refine pC ?_ | refine pN ?_ | refine pN2 ?_ | refine mS (fun hc => ?_) (fun hc => ?_) | refine RetP.nrm ?_) <;> conv => whnf)
    rw [tm10]
    refine wB ?_ (by omega)
    conv => whnf
    repeat' ((first | refine cY ?_ | refine cN ?_ | refine .not ?_ | refine wI ?_ | refine .map ?_ | refine .nil ?_ | refine .one ?_ | refine .app ?_ | refine .set ?_ | refine .rep ?_ | refine .any ?_ | refine cI ?_ | refine cJ ?_ | refine cYa ?_ | refine cNa ?_ | refine cIa ?_ | refine cJa ?_ | refine cIr ?_ | refine cId ?_ | refine cJd ?_ | with_reducible refine CondN.and ?_ | with_reducible refine CondN.or ?_ | refine CondN.lt (fun hc => ?_) (fun hc => ?_) | refine CondN.le (fun hc => ?_) (fun hc => ?_) | refine CondN.dec (fun hc => ?_) (fun hc => ?_) | refine CondN.any (fun hc => ?_) (fun hc => ?_) | refine nS ?_ | refine iA ?_ | refine iB ?_ | refine iC fun x hx => ?_ | refine iD fun x hx => ?_ | refine iE ?_ | refine iF ?_ | refine iG ?_ | refine iH fun x hx => ?_ | refine iI fun x hx => ?_ | refine iJ ?_ | refine hB ?_ | refine aP ?_ | refine .last ?_ | refine .last2 ?_ | refine zN fun k hk => ?_ | refine aR fun k hk => ?_ | refine mA ?_ | refine eL ?_ | refine eS ?_ | refine eLb ?_ | refine eSb ?_ | refine mB ?_ | refine mBb ?_ | refine pE ?_ | refine pZ ?_ | refine pC ?_ | refine pN ?_ | refine pN2 ?_ | refine mS (fun hc => ?_) (fun hc => ?_) | refine RetP.nrm ?_) <;> conv => whnf)
    refine wB ?_ (by omega)
    conv => whnf
    repeat' ((first | refine cY ?_ | refine cN ?_ | refine .not ?_ | refine wI ?_ | refine .map ?_ | refine .nil ?_ | refine .one ?_ | refine .app ?_ | refine .set ?_ | refine .rep ?_ | refine .any ?_ | refine cI ?_ | refine cJ ?_ | refine cYa ?_ | refine cNa ?_ | refine cIa ?_ | refine cJa ?_ | refine cIr ?_ | refine cId ?_ | refine cJd ?_ | with_reducible refine CondN.and ?_ | with_reducible refine CondN.or ?_ | refine CondN.lt (fun hc => ?_) (fun hc => ?_) | refine CondN.le (fun hc => ?_) (fun hc => ?_) | refine CondN.dec (fun hc => ?_) (fun hc => ?_) | refine CondN.any (fun hc => ?_) (fun hc => ?_) | refine nS ?_ | refine iA ?_ | refine iB ?_ | refine iC fun x hx => ?_ | refine iD fun x hx => ?_ | refine iE ?_ | refine iF ?_ | refine iG ?_ | refine iH fun x hx => ?_ | refine iI fun x hx => ?_ | refine iJ ?_ | refine hB ?_ | refine aP ?_ | refine .last ?_ | refine .last2 ?_ | refine zN fun k hk => ?_ | refine aR fun k hk => ?_ | refine mA ?_ | refine eL ?_ | refine eS ?_ | refine eLb ?_ | refine eSb ?_ | refine mB ?_ | refine mBb ?_ | refine pE ?_ | refine pZ ?_ | refine pC ?_ | refine pN ?_ | refine pN2 ?_ | refine mS (fun hc => ?_) (fun hc => ?_) | refine RetP.nrm ?_) <;> conv => whnf)
    simp only [strOf1 _ g6, byB_app, List.cons_append, List.nil_append, ← g3, td10, ← g2]
    refine wU ?_ (by omega)
    conv => whnf
    repeat' ((first | refine cY ?_ | refine cN ?_ | refine .not ?_ | refine wI ?_ | refine .map ?_ | refine .nil ?_ | refine .one ?_ | refine .app ?_ | refine .set ?_ | refine .rep ?_ | refine .any ?_ | refine cI ?_ | refine cJ ?_ | refine cYa ?_ | refine cNa ?_ | refine cIa ?_ | refine cJa ?_ | refine cIr ?_ | refine cId ?_ | refine cJd ?_ | with_reducible refine CondN.and ?_ | with_reducible refine CondN.or ?_ | refine CondN.lt (fun hc => ?_) (fun hc => ?_) | refine CondN.le (fun hc => ?_) (fun hc => ?_) | refine CondN.dec (fun hc => ?_) (fun hc => ?_) | refine CondN.any (fun hc => ?_) (fun hc => ?_) | refine nS ?_ | refine iA ?_ | refine iB ?_ | refine iC fun x hx => ?_ | refine iD fun x hx => ?_ | refine iE ?_ | refine iF ?_ | refine iG ?_ | refine iH fun x hx => ?_ | refine iI fun x hx => ?_ | refine iJ ?_ | refine hB ?_ | refine aP ?_ | refine .last ?_ | refine .last2 ?_ | refine zN fun k hk => ?_ | refine aR fun k hk => ?_ | refine mA ?_ | refine eL ?_ | refine eS ?_ | refine eLb ?_ | refine eSb ?_ | refine mB ?_ | refine mBb ?_ | refine pE ?_ | refine pZ ?_ | refine pC ?_ | refine pN ?_ | refine pN2 ?_ | refine mS (fun hc => ?_) (fun hc => ?_) | refine RetP.nrm ?_) <;> conv => whnf)
    refine ⟨trivial, ?_⟩
    refine EndN.at_ ?_ rfl
    conv => whnf
    refine And.intro ?_ ?_ <;> conv => whnf
    all_goals repeat' ((first | refine vE ?_ | refine vI ?_ | refine vB ?_ | refine vC ?_ | refine vN ?_ | refine xB ?_ | exact True.intro | ((first | refine WkN.sl ?_ ?_ | refine vD ?_ ?_ | refine WkN.norm ?_ ?_ | refine BxN.mk ?_ ?_); (focus (simp [AV.norm, AV.norm1, ]; done)))) <;> conv => whnf)
  · have hz : (strOf [48 + (q N : Int)]).size + (byB (t N)).size ≤ lim := by
      have h7 := (h6 N (Nat.le_refl _)).1
      rw [strOf1 _ h2, byB_size, byB_size]; simp only [List.length_cons, List.length_nil, lim] at *; omega
    conv => whnf
    repeat' ((first | refine cY ?_ | refine cN ?_ | refine .not ?_ | refine wI ?_ | refine .map ?_ | refine .nil ?_ | refine .one ?_ | refine .app ?_ | refine .set ?_ | refine .rep ?_ | refine .any ?_ | refine cI ?_ | refine cJ ?_ | refine cYa ?_ | refine cNa ?_ | refine cIa ?_ | refine cJa ?_ | refine cIr ?_ | refine cId ?_ | refine cJd ?_ | with_reducible refine CondN.and ?_ | with_reducible refine CondN.or ?_ | refine CondN.lt (fun hc => ?_) (fun hc => ?_) | refine CondN.le (fun hc => ?_) (fun hc => ?_) | refine CondN.dec (fun hc => ?_) (fun hc => ?_) | refine CondN.any (fun hc => ?_) (fun hc => ?_) | refine nS ?_ | refine iA ?_ | refine iB ?_ | refine iC fun x hx => ?_ | refine iD fun x hx => ?_ | refine iE ?_ | refine iF ?_ | refine iG ?_ | refine iH fun x hx => ?_ | refine iI fun x hx => ?_ | refine iJ ?_ | refine hB ?_ | refine aP ?_ | refine .last ?_ | refine .last2 ?_ | refine zN fun k hk => ?_ | refine aR fun k hk => ?_ | refine mA ?_ | refine eL ?_ | refine eS ?_ | refine eLb ?_ | refine eSb ?_ | refine mB ?_ | refine mBb ?_ | refine pE ?_ | refine pZ ?_ | refine pC ?_ | refine pN ?_ | refine pN2 ?_ | refine mS (fun hc => ?_) (fun hc => ?_) | refine RetP.nrm ?_) <;> conv => whnf)
    refine wB ?_ (by omega)
    conv => whnf
    repeat' ((first | refine cY ?_ | refine cN ?_ | refine .not ?_ | refine wI ?_ | refine .map ?_ | refine .nil ?_ | refine .one ?_ | refine .app ?_ | refine .set ?_ | refine .rep ?_ | refine .any ?_ | refine cI ?_ | refine cJ ?_ | refine cYa ?_ | refine cNa ?_ | refine cIa ?_ | refine cJa ?_ | refine cIr ?_ | refine cId ?_ | refine cJd ?_ | with_reducible refine CondN.and ?_ | with_reducible refine CondN.or ?_ | refine CondN.lt (fun hc => ?_) (fun hc => ?_) | refine CondN.le (fun hc => ?_) (fun hc => ?_) | refine CondN.dec (fun hc => ?_) (fun hc => ?_) | refine CondN.any (fun hc => ?_) (fun hc => ?_) | refine nS ?_ | refine iA ?_ | refine iB ?_ | refine iC fun x hx => ?_ | refine iD fun x hx => ?_ | refine iE ?_ | refine iF ?_ | refine iG ?_ | refine iH fun x hx => ?_ | refine iI fun x hx => ?_ | refine iJ ?_ | refine hB ?_ | refine aP ?_ | refine .last ?_ | refine .last2 ?_ | refine zN fun k hk => ?_ | refine aR fun k hk => ?_ | refine mA ?_ | refine eL ?_ | refine eS ?_ | refine eLb ?_ | refine eSb ?_ | refine mB ?_ | refine mBb ?_ | refine pE ?_ | refine pZ ?_ | refine pC ?_ | refine pN ?_ | refine pN2 ?_ | refine mS (fun hc => ?_) (fun hc => ?_) | refine RetP.nrm ?_) <;> conv => whnf)
    refine wB ?_ (by omega)
    conv => whnf
    repeat' ((first | refine cY ?_ | refine cN ?_ | refine .not ?_ | refine wI ?_ | refine .map ?_ | refine .nil ?_ | refine .one ?_ | refine .app ?_ | refine .set ?_ | refine .rep ?_ | refine .any ?_ | refine cI ?_ | refine cJ ?_ | refine cYa ?_ | refine cNa ?_ | refine cIa ?_ | refine cJa ?_ | refine cIr ?_ | refine cId ?_ | refine cJd ?_ | with_reducible refine CondN.and ?_ | with_reducible refine CondN.or ?_ | refine CondN.lt (fun hc => ?_) (fun hc => ?_) | refine CondN.le (fun hc => ?_) (fun hc => ?_) | refine CondN.dec (fun hc => ?_) (fun hc => ?_) | refine CondN.any (fun hc => ?_) (fun hc => ?_) | refine nS ?_ | refine iA ?_ | refine iB ?_ | refine iC fun x hx => ?_ | refine iD fun x hx => ?_ | refine iE ?_ | refine iF ?_ | refine iG ?_ | refine iH fun x hx => ?_ | refine iI fun x hx => ?_ | refine iJ ?_ | refine hB ?_ | refine aP ?_ | refine .last ?_ | refine .last2 ?_ | refine zN fun k hk => ?_ | refine aR fun k hk => ?_ | refine mA ?_ | refine eL ?_ | refine eS ?_ | refine eLb ?_ | refine eSb ?_ | refine mB ?_ | refine mBb ?_ | refine pE ?_ | refine pZ ?_ | refine pC ?_ | refine pN ?_ | refine pN2 ?_ | refine mS (fun hc => ?_) (fun hc => ?_) | refine RetP.nrm ?_) <;> conv => whnf)
    rw [List.append_nil] at h5
    rw [strOf1 _ h2, byB_app, h5]
    rfl
theorem itoaB_neg {n : Int} (h : n < 0) : byB [45] ++ byB (Lib.decDigits n.natAbs) = byB (Lib.itoa n) := by
  rw [byB_app]; unfold Lib.itoa; rw [if_pos h]; rfl
set_option maxRecDepth 100000 in
theorem decimal_ok {n : Int} (h0 : -9223372036854775808 ≤ n) (h1 : n ≤ 9223372036854775807) : Fun Tryd.prog 32 [.int .i64 n] (.str (byB (Lib.itoa n))) := by
  by_cases hn : n < 0
  · have hd := digits_ok (n := n.natAbs) (by omega)
    have e : (0 - (n + 18446744073709551616)) + 18446744073709551616 = (n.natAbs : Int) := by omega
    have hz : (⟨⟨[45]⟩⟩ : ByteArray).size + (byB (Lib.decDigits n.natAbs)).size ≤ lim := by
      have := decDigits_len 19 n.natAbs (by omega)
      rw [byB_size]; show 1 + _ ≤ lim; simp only [lim]; omega
    refine Fun.of (op_constraintref37_Decimal (by simp) ?_) rfl rfl
    conv => whnf
    conv => whnf
    repeat' ((first | refine cY ?_ | refine cN ?_ | refine .not ?_ | refine wI ?_ | refine .map ?_ | refine .nil ?_ | refine .one ?_ | refine .app ?_ | refine .set ?_ | refine .rep ?_ | refine .any ?_ | refine cI ?_ | refine cJ ?_ | refine cYa ?_ | refine cNa ?_ | refine cIa ?_ | refine cJa ?_ | refine cIr ?_ | refine cId ?_ | refine cJd ?_ | with_reducible refine CondN.and ?_ | with_reducible refine CondN.or ?_ | refine CondN.lt (fun hc => ?_) (fun hc => ?_) | refine CondN.le (fun hc => ?_) (fun hc => ?_) | refine CondN.dec (fun hc => ?_) (fun hc => ?_) | refine CondN.any (fun hc => ?_) (fun hc => ?_) | refine nS ?_ | refine iA ?_ | refine iB ?_ | refine iC fun x hx => ?_ | refine iD fun x hx => ?_ | refine iE ?_ | refine iF ?_ | refine iG ?_ | refine iH fun x hx => ?_ | refine iI fun x hx => ?_ | refine iJ ?_ | refine hB ?_ | refine aP ?_ | refine .last ?_ | refine .last2 ?_ | refine zN fun k hk => ?_ | refine aR fun k hk => ?_ | refine mA ?_ | refine eL ?_ | refine eS ?_ | refine eLb ?_ | refine eSb ?_ | refine mB ?_ | refine mBb ?_ | refine pE ?_ | refine pZ ?_ | refine pC ?_ | refine pN ?_ | refine pN2 ?_ | refine mS (fun hc => ?_) (fun hc => ?_) | refine RetP.nrm ?_) <;> conv => whnf)
    refine wUn ?_ (by omega)
    conv => whnf
    repeat' ((first | refine cY ?_ | refine cN ?_ | refine .not ?_ | refine wI ?_ | refine .map ?_ | refine .nil ?_ | refine .one ?_ | refine .app ?_ | refine .set ?_ | refine .rep ?_ | refine .any ?_ | refine cI ?_ | refine cJ ?_ | refine cYa ?_ | refine cNa ?_ | refine cIa ?_ | refine cJa ?_ | refine cIr ?_ | refine cId ?_ | refine cJd ?_ | with_reducible refine CondN.and ?_ | with_reducible refine CondN.or ?_ | refine CondN.lt (fun hc => ?_) (fun hc => ?_) | refine CondN.le (fun hc => ?_) (fun hc => ?_) | refine CondN.dec (fun hc => ?_) (fun hc => ?_) | refine CondN.any (fun hc => ?_) (fun hc => ?_) | refine nS ?_ | refine iA ?_ | refine iB ?_ | refine iC fun x hx => ?_ | refine iD fun x hx => ?_ | refine iE ?_ | refine iF ?_ | refine iG ?_ | refine iH fun x hx => ?_ | refine iI fun x hx => ?_ | refine iJ ?_ | refine hB ?_ | refine aP ?_ | refine .last ?_ | refine .last2 ?_ | refine zN fun k hk => ?_ | refine aR fun k hk => ?_ | refine mA ?_ | refine eL ?_ | refine eS ?_ | refine eLb ?_ | refine eSb ?_ | refine mB ?_ | refine mBb ?_ | refine pE ?_ | refine pZ ?_ | refine pC ?_ | refine pN ?_ | refine pN2 ?_ | refine mS (fun hc => ?_) (fun hc => ?_) | refine RetP.nrm ?_) <;> conv => whnf)
    refine wUn ?_ (by omega)
    rw [e]
    conv => whnf
    repeat' ((first | refine CallN.fn (hd) ?_ | refine CallP.fn (hd) ?_ | refine cY ?_ | refine cN ?_ | refine .not ?_ | refine wI ?_ | refine .map ?_ | refine .nil ?_ | refine .one ?_ | refine .app ?_ | refine .set ?_ | refine .rep ?_ | refine .any ?_ | refine cI ?_ | refine cJ ?_ | refine cYa ?_ | refine cNa ?_ | refine cIa ?_ | refine cJa ?_ | refine cIr ?_ | refine cId ?_ | refine cJd ?_ | with_reducible refine CondN.and ?_ | with_reducible refine CondN.or ?_ | refine CondN.lt (fun hc => ?_) (fun hc => ?_) | refine CondN.le (fun hc => ?_) (fun hc => ?_) | refine CondN.dec (fun hc => ?_) (fun hc => ?_) | refine CondN.any (fun hc => ?_) (fun hc => ?_) | refine nS ?_ | refine iA ?_ | refine iB ?_ | refine iC fun x hx => ?_ | refine iD fun x hx => ?_ | refine iE ?_ | refine iF ?_ | refine iG ?_ | refine iH fun x hx => ?_ | refine iI fun x hx => ?_ | refine iJ ?_ | refine hB ?_ | refine aP ?_ | refine .last ?_ | refine .last2 ?_ | refine zN fun k hk => ?_ | refine aR fun k hk => ?_ | refine mA ?_ | refine eL ?_ | refine eS ?_ | refine eLb ?_ | refine eSb ?_ | refine mB ?_ | refine mBb ?_ | refine pE ?_ | refine pZ ?_ | refine pC ?_ | refine pN ?_ | refine pN2 ?_ | refine mS (fun hc => ?_) (fun hc => ?_) | refine RetP.nrm ?_) <;> conv => whnf)
    exact congrArg AV.str (itoaB_neg hn)
  · obtain ⟨m, rfl⟩ : ∃ m : Nat, n = m := ⟨n.toNat, by omega⟩
    have hd := digits_ok (n := m) (by omega)
    have e : Lib.itoa m = Lib.decDigits m := by unfold Lib.itoa; rw [if_neg hn]; rfl
    rw [e]
    refine Fun.of (op_constraintref37_Decimal (by simp) ?_) rfl rfl
    conv => whnf
    conv => whnf
    repeat' ((first | refine cY ?_ | refine cN ?_ | refine .not ?_ | refine wI ?_ | refine .map ?_ | refine .nil ?_ | refine .one ?_ | refine .app ?_ | refine .set ?_ | refine .rep ?_ | refine .any ?_ | refine cI ?_ | refine cJ ?_ | refine cYa ?_ | refine cNa ?_ | refine cIa ?_ | refine cJa ?_ | refine cIr ?_ | refine cId ?_ | refine cJd ?_ | with_reducible refine CondN.and ?_ | with_reducible refine CondN.or ?_ | refine CondN.lt (fun hc => ?_) (fun hc => ?_) | refine CondN.le (fun hc => ?_) (fun hc => ?_) | refine CondN.dec (fun hc => ?_) (fun hc => ?_) | refine CondN.any (fun hc => ?_) (fun hc => ?_) | refine nS ?_ | refine iA ?_ | refine iB ?_ | refine iC fun x hx => ?_ | refine iD fun x hx => ?_ | refine iE ?_ | refine iF ?_ | refine iG ?_ | refine iH fun x hx => ?_ | refine iI fun x hx => ?_ | refine iJ ?_ | refine hB ?_ | refine aP ?_ | refine .last ?_ | refine .last2 ?_ | refine zN fun k hk => ?_ | refine aR fun k hk => ?_ | refine mA ?_ | refine eL ?_ | refine eS ?_ | refine eLb ?_ | refine eSb ?_ | refine mB ?_ | refine mBb ?_ | refine pE ?_ | refine pZ ?_ | refine pC ?_ | refine pN ?_ | refine pN2 ?_ | refine mS (fun hc => ?_) (fun hc => ?_) | refine RetP.nrm ?_) <;> conv => whnf)
    refine wU ?_ (by omega)
    conv => whnf
    repeat' ((first | refine CallN.fn (hd) ?_ | refine CallP.fn (hd) ?_ | refine cY ?_ | refine cN ?_ | refine .not ?_ | refine wI ?_ | refine .map ?_ | refine .nil ?_ | refine .one ?_ | refine .app ?_ | refine .set ?_ | refine .rep ?_ | refine .any ?_ | refine cI ?_ | refine cJ ?_ | refine cYa ?_ | refine cNa ?_ | refine cIa ?_ | refine cJa ?_ | refine cIr ?_ | refine cId ?_ | refine cJd ?_ | with_reducible refine CondN.and ?_ | with_reducible refine CondN.or ?_ | refine CondN.lt (fun hc => ?_) (fun hc => ?_) | refine CondN.le (fun hc => ?_) (fun hc => ?_) | refine CondN.dec (fun hc => ?_) (fun hc => ?_) | refine CondN.any (fun hc => ?_) (fun hc => ?_) | refine nS ?_ | refine iA ?_ | refine iB ?_ | refine iC fun x hx => ?_ | refine iD fun x hx => ?_ | refine iE ?_ | refine iF ?_ | refine iG ?_ | refine iH fun x hx => ?_ | refine iI fun x hx => ?_ | refine iJ ?_ | refine hB ?_ | refine aP ?_ | refine .last ?_ | refine .last2 ?_ | refine zN fun k hk => ?_ | refine aR fun k hk => ?_ | refine mA ?_ | refine eL ?_ | refine eS ?_ | refine eLb ?_ | refine eSb ?_ | refine mB ?_ | refine mBb ?_ | refine pE ?_ | refine pZ ?_ | refine pC ?_ | refine pN ?_ | refine pN2 ?_ | refine mS (fun hc => ?_) (fun hc => ?_) | refine RetP.nrm ?_) <;> conv => whnf)
theorem bsz (l : List UInt8) : (⟨⟨l⟩⟩ : ByteArray).size = l.length := rfl
theorem blit (l : List UInt8) : (⟨⟨l⟩⟩ : ByteArray) = byB l := rfl
set_option maxRecDepth 100000 in
set_option maxHeartbeats 1000000 in
theorem refText_ok {c : Ct} (hl : c.rules.length ≤ 1000) (fc : c.fit) : Fun Tryd.prog 21 [c.av] (.str (byB (textC c))) := by
  have hb : ∀ n ∈ nums c, -9223372036854775808 ≤ n ∧ n ≤ 9223372036854775807 := fun n hn => fc n hn
  have fr : ∀ n ∈ c.rules, -9223372036854775808 ≤ n ∧ n ≤ 9223372036854775807 := fun n hn => hb n (by simp [nums, hn])
  have f1 := hb c.tried (by simp [nums])
  have f2 := hb c.goals (by simp [nums])
  have f3 := hb c.steps (by simp [nums])
  have f0 := totalC_b c
  have hm : maxI = 9223372036854775807 := rfl
  have hrl : ∀ j, j ≤ c.rules.length → (ruleLines 0 (c.rules.take j)).length ≤ 68000 := fun j hj => by
    have := ruleLines_len 30 (c.rules.take j) 0 (fun n hn => itoa_len (fr n (List.mem_of_mem_take hn)).1 (fr n (List.mem_of_mem_take hn)).2) (fun q hq => by
      have : q < 1000 := by simp at hq; omega
      exact itoa_len (by omega) (by omega))
    have h2 : (c.rules.take j).length ≤ 1000 := by simp; omega
    have := Nat.mul_le_mul_right 68 h2
    omega
  have i0 := itoa_len (n := totalC c) (by omega) (by omega)
  have i1 := itoa_len f1.1 f1.2
  have i2 := itoa_len f2.1 f2.2
  have i3 := itoa_len f3.1 f3.2
  have d0 := decimal_ok (n := totalC c) (by omega) (by omega)
  have d1 := decimal_ok f1.1 f1.2
  have d2 := decimal_ok f2.1 f2.2
  have d3 := decimal_ok f3.1 f3.2
  have ht := refTotal_ok (c := c) (by omega)
  refine Fun.of (op_constraintref37_Text (by simp) ?_) rfl rfl
  conv => whnf
  conv => whnf
  repeat' ((first | refine cY ?_ | refine cN ?_ | refine .not ?_ | refine wI ?_ | refine .map ?_ | refine .nil ?_ | refine .one ?_ | refine .app ?_ | refine .set ?_ | refine .rep ?_ | refine .any ?_ | refine cI ?_ | refine cJ ?_ | refine cYa ?_ | refine cNa ?_ | refine cIa ?_ | refine cJa ?_ | refine cIr ?_ | refine cId ?_ | refine cJd ?_ | with_reducible refine CondN.and ?_ | with_reducible refine CondN.or ?_ | refine CondN.lt (fun hc => ?_) (fun hc => ?_) | refine CondN.le (fun hc => ?_) (fun hc => ?_) | refine CondN.dec (fun hc => ?_) (fun hc => ?_) | refine CondN.any (fun hc => ?_) (fun hc => ?_) | refine nS ?_ | refine iA ?_ | refine iB ?_ | refine iC fun x hx => ?_ | refine iD fun x hx => ?_ | refine iE ?_ | refine iF ?_ | refine iG ?_ | refine iH fun x hx => ?_ | refine iI fun x hx => ?_ | refine iJ ?_ | refine hB ?_ | refine aP ?_ | refine .last ?_ | refine .last2 ?_ | refine zN fun k hk => ?_ | refine aR fun k hk => ?_ | refine mA ?_ | refine eL ?_ | refine eS ?_ | refine eLb ?_ | refine eSb ?_ | refine mB ?_ | refine mBb ?_ | refine pE ?_ | refine pZ ?_ | refine pC ?_ | refine pN ?_ | refine pN2 ?_ | refine mS (fun hc => ?_) (fun hc => ?_) | refine RetP.nrm ?_) <;> conv => whnf)
  refine LoopP.count (fb := true) (c.rules.length) (fun st_ j => st_.sets [(3, .str (byB (ruleLines 0 (c.rules.take j)))), (4, .int .i64 j)]) (fun j => True) ?_ ?_ (fun j hj hij => ?_) (fun hij => ?_)
  · trivial
  · refine EndN.at_ ?_ rfl
    conv => whnf
    refine And.intro ?_ ?_ <;> conv => whnf
    all_goals repeat' ((first | refine vE ?_ | refine vI ?_ | refine vB ?_ | refine vC ?_ | refine vN ?_ | refine xB ?_ | exact True.intro | ((first | refine WkN.sl ?_ ?_ | refine vD ?_ ?_ | refine WkN.norm ?_ ?_ | refine BxN.mk ?_ ?_); (focus (simp [AV.norm, AV.norm1, ruleLines, byB]; done)))) <;> conv => whnf)
  · obtain ⟨x, hx⟩ : ∃ x, c.rules[j]? = some x := ⟨_, List.getElem?_eq_getElem hj⟩
    have fx := fr x (List.mem_of_getElem? hx)
    have hj2 : (c.rules.take j).length = j := by simp; omega
    have hla := ruleLines_app (c.rules.take j) 0 x
    rw [← take_snoc hx, hj2, Nat.zero_add] at hla
    have hr := hrl j (by omega)
    by_cases hx0 : x = 0
    · subst hx0
      rw [if_pos rfl, List.append_nil] at hla
      conv => whnf
      repeat' ((first | refine cY ?_ | refine cN ?_ | refine .not ?_ | refine wI ?_ | refine .map ?_ | refine .nil ?_ | refine .one ?_ | refine .app ?_ | refine .set ?_ | refine .rep ?_ | refine .any ?_ | refine cI ?_ | refine cJ ?_ | refine cYa ?_ | refine cNa ?_ | refine cIa ?_ | refine cJa ?_ | refine cIr ?_ | refine cId ?_ | refine cJd ?_ | with_reducible refine CondN.and ?_ | with_reducible refine CondN.or ?_ | refine CondN.lt (fun hc => ?_) (fun hc => ?_) | refine CondN.le (fun hc => ?_) (fun hc => ?_) | refine CondN.dec (fun hc => ?_) (fun hc => ?_) | refine CondN.any (fun hc => ?_) (fun hc => ?_) | refine nS ?_ | refine iA ?_ | refine iB ?_ | refine iC fun x hx => ?_ | refine iD fun x hx => ?_ | refine iE ?_ | refine iF ?_ | refine iG ?_ | refine iH fun x hx => ?_ | refine iI fun x hx => ?_ | refine iJ ?_ | refine hB ?_ | refine aP ?_ | refine .last ?_ | refine .last2 ?_ | refine zN fun k hk => ?_ | refine aR fun k hk => ?_ | refine mA ?_ | refine eL ?_ | refine eS ?_ | refine eLb ?_ | refine eSb ?_ | refine mB ?_ | refine mBb ?_ | refine pE ?_ | refine pZ ?_ | refine pC ?_ | refine pN ?_ | refine pN2 ?_ | refine mS (fun hc => ?_) (fun hc => ?_) | refine RetP.nrm ?_) <;> conv => whnf)
      refine ⟨trivial, ?_⟩
      refine EndN.at_ ?_ rfl
      conv => whnf
      refine And.intro ?_ ?_ <;> conv => whnf
      all_goals repeat' ((first | refine vE ?_ | refine vI ?_ | refine vB ?_ | refine vC ?_ | refine vN ?_ | refine xB ?_ | exact True.intro | ((first | refine WkN.sl ?_ ?_ | refine vD ?_ ?_ | refine WkN.norm ?_ ?_ | refine BxN.mk ?_ ?_); (focus (simp [AV.norm, AV.norm1, hla]; done)))) <;> conv => whnf)
    · rw [if_neg hx0] at hla
      have e1 := itoa_len fx.1 fx.2
      have e2 := itoa_len (n := (j : Int)) (by omega) (by omega)
      have e3 := decimal_ok fx.1 fx.2
      have e4 := decimal_ok (n := (j : Int)) (by omega) (by omega)
      have z0 : (byB (ruleLines 0 (c.rules.take j))).size + ((⟨⟨[114, 117, 108, 101, 32]⟩⟩ : ByteArray)).size ≤ lim := by simp only [ByteArray.size_append, byB_size, bsz, List.length_cons, List.length_nil, lim]; omega
      have z1 : ((byB (ruleLines 0 (c.rules.take j)) ++ (⟨⟨[114, 117, 108, 101, 32]⟩⟩ : ByteArray))).size + (byB (Lib.itoa (j : Int))).size ≤ lim := by simp only [ByteArray.size_append, byB_size, bsz, List.length_cons, List.length_nil, lim]; omega
      have z2 : (((byB (ruleLines 0 (c.rules.take j)) ++ (⟨⟨[114, 117, 108, 101, 32]⟩⟩ : ByteArray)) ++ byB (Lib.itoa (j : Int)))).size + ((⟨⟨[58, 32]⟩⟩ : ByteArray)).size ≤ lim := by simp only [ByteArray.size_append, byB_size, bsz, List.length_cons, List.length_nil, lim]; omega
      have z3 : ((((byB (ruleLines 0 (c.rules.take j)) ++ (⟨⟨[114, 117, 108, 101, 32]⟩⟩ : ByteArray)) ++ byB (Lib.itoa (j : Int))) ++ (⟨⟨[58, 32]⟩⟩ : ByteArray))).size + (byB (Lib.itoa x)).size ≤ lim := by simp only [ByteArray.size_append, byB_size, bsz, List.length_cons, List.length_nil, lim]; omega
      have z4 : (((((byB (ruleLines 0 (c.rules.take j)) ++ (⟨⟨[114, 117, 108, 101, 32]⟩⟩ : ByteArray)) ++ byB (Lib.itoa (j : Int))) ++ (⟨⟨[58, 32]⟩⟩ : ByteArray)) ++ byB (Lib.itoa x))).size + ((⟨⟨[10]⟩⟩ : ByteArray)).size ≤ lim := by simp only [ByteArray.size_append, byB_size, bsz, List.length_cons, List.length_nil, lim]; omega
      have he : (((((byB (ruleLines 0 (c.rules.take j)) ++ (⟨⟨[114, 117, 108, 101, 32]⟩⟩ : ByteArray)) ++ byB (Lib.itoa (j : Int))) ++ (⟨⟨[58, 32]⟩⟩ : ByteArray)) ++ byB (Lib.itoa x)) ++ (⟨⟨[10]⟩⟩ : ByteArray)) = byB (ruleLines 0 (c.rules.take (j + 1))) := by
        rw [hla]; simp only [blit, byB_app, lineT, sRule]; simp
      conv => whnf
      repeat' ((first | refine CallN.fn (e4) ?_ | refine CallP.fn (e4) ?_ | refine CallN.fn (e3) ?_ | refine CallP.fn (e3) ?_ | refine cY ?_ | refine cN ?_ | refine .not ?_ | refine wI ?_ | refine .map ?_ | refine .nil ?_ | refine .one ?_ | refine .app ?_ | refine .set ?_ | refine .rep ?_ | refine .any ?_ | refine cI ?_ | refine cJ ?_ | refine cYa ?_ | refine cNa ?_ | refine cIa ?_ | refine cJa ?_ | refine cIr ?_ | refine cId ?_ | refine cJd ?_ | with_reducible refine CondN.and ?_ | with_reducible refine CondN.or ?_ | refine CondN.lt (fun hc => ?_) (fun hc => ?_) | refine CondN.le (fun hc => ?_) (fun hc => ?_) | refine CondN.dec (fun hc => ?_) (fun hc => ?_) | refine CondN.any (fun hc => ?_) (fun hc => ?_) | refine nS ?_ | refine iA ?_ | refine iB ?_ | refine iC fun x hx => ?_ | refine iD fun x hx => ?_ | refine iE ?_ | refine iF ?_ | refine iG ?_ | refine iH fun x hx => ?_ | refine iI fun x hx => ?_ | refine iJ ?_ | refine hB ?_ | refine aP ?_ | refine .last ?_ | refine .last2 ?_ | refine zN fun k hk => ?_ | refine aR fun k hk => ?_ | refine mA ?_ | refine eL ?_ | refine eS ?_ | refine eLb ?_ | refine eSb ?_ | refine mB ?_ | refine mBb ?_ | refine pE ?_ | refine pZ ?_ | refine pC ?_ | refine pN ?_ | refine pN2 ?_ | refine mS (fun hc => ?_) (fun hc => ?_) | refine RetP.nrm ?_) <;> conv => whnf)
      simp only [he]
      conv => whnf
      repeat' ((first | refine cY ?_ | refine cN ?_ | refine .not ?_ | refine wI ?_ | refine .map ?_ | refine .nil ?_ | refine .one ?_ | refine .app ?_ | refine .set ?_ | refine .rep ?_ | refine .any ?_ | refine cI ?_ | refine cJ ?_ | refine cYa ?_ | refine cNa ?_ | refine cIa ?_ | refine cJa ?_ | refine cIr ?_ | refine cId ?_ | refine cJd ?_ | with_reducible refine CondN.and ?_ | with_reducible refine CondN.or ?_ | refine CondN.lt (fun hc => ?_) (fun hc => ?_) | refine CondN.le (fun hc => ?_) (fun hc => ?_) | refine CondN.dec (fun hc => ?_) (fun hc => ?_) | refine CondN.any (fun hc => ?_) (fun hc => ?_) | refine nS ?_ | refine iA ?_ | refine iB ?_ | refine iC fun x hx => ?_ | refine iD fun x hx => ?_ | refine iE ?_ | refine iF ?_ | refine iG ?_ | refine iH fun x hx => ?_ | refine iI fun x hx => ?_ | refine iJ ?_ | refine hB ?_ | refine aP ?_ | refine .last ?_ | refine .last2 ?_ | refine zN fun k hk => ?_ | refine aR fun k hk => ?_ | refine mA ?_ | refine eL ?_ | refine eS ?_ | refine eLb ?_ | refine eSb ?_ | refine mB ?_ | refine mBb ?_ | refine pE ?_ | refine pZ ?_ | refine pC ?_ | refine pN ?_ | refine pN2 ?_ | refine mS (fun hc => ?_) (fun hc => ?_) | refine RetP.nrm ?_) <;> conv => whnf)
      refine ⟨trivial, ?_⟩
      refine EndN.at_ ?_ rfl
      conv => whnf
      refine And.intro ?_ ?_ <;> conv => whnf
      all_goals repeat' ((first | refine vE ?_ | refine vI ?_ | refine vB ?_ | refine vC ?_ | refine vN ?_ | refine xB ?_ | exact True.intro | ((first | refine WkN.sl ?_ ?_ | refine vD ?_ ?_ | refine WkN.norm ?_ ?_ | refine BxN.mk ?_ ?_); (focus (simp [AV.norm, AV.norm1, ]; done)))) <;> conv => whnf)
  · have hr := hrl c.rules.length (Nat.le_refl _)
    rw [List.take_length] at hr ⊢
    have z0 : (byB (ruleLines 0 c.rules)).size + ((⟨⟨[97, 112, 112, 108, 105, 99, 97, 116, 105, 111, 110, 115, 58, 32]⟩⟩ : ByteArray)).size ≤ lim := by simp only [ByteArray.size_append, byB_size, bsz, List.length_cons, List.length_nil, lim]; omega
    have z1 : ((byB (ruleLines 0 c.rules) ++ (⟨⟨[97, 112, 112, 108, 105, 99, 97, 116, 105, 111, 110, 115, 58, 32]⟩⟩ : ByteArray))).size + (byB (Lib.itoa (totalC c))).size ≤ lim := by simp only [ByteArray.size_append, byB_size, bsz, List.length_cons, List.length_nil, lim]; omega
    have z2 : (((byB (ruleLines 0 c.rules) ++ (⟨⟨[97, 112, 112, 108, 105, 99, 97, 116, 105, 111, 110, 115, 58, 32]⟩⟩ : ByteArray)) ++ byB (Lib.itoa (totalC c)))).size + ((⟨⟨[10, 116, 114, 105, 101, 100, 58, 32]⟩⟩ : ByteArray)).size ≤ lim := by simp only [ByteArray.size_append, byB_size, bsz, List.length_cons, List.length_nil, lim]; omega
    have z3 : ((((byB (ruleLines 0 c.rules) ++ (⟨⟨[97, 112, 112, 108, 105, 99, 97, 116, 105, 111, 110, 115, 58, 32]⟩⟩ : ByteArray)) ++ byB (Lib.itoa (totalC c))) ++ (⟨⟨[10, 116, 114, 105, 101, 100, 58, 32]⟩⟩ : ByteArray))).size + (byB (Lib.itoa c.tried)).size ≤ lim := by simp only [ByteArray.size_append, byB_size, bsz, List.length_cons, List.length_nil, lim]; omega
    have z4 : (((((byB (ruleLines 0 c.rules) ++ (⟨⟨[97, 112, 112, 108, 105, 99, 97, 116, 105, 111, 110, 115, 58, 32]⟩⟩ : ByteArray)) ++ byB (Lib.itoa (totalC c))) ++ (⟨⟨[10, 116, 114, 105, 101, 100, 58, 32]⟩⟩ : ByteArray)) ++ byB (Lib.itoa c.tried))).size + ((⟨⟨[10, 103, 111, 97, 108, 115, 58, 32]⟩⟩ : ByteArray)).size ≤ lim := by simp only [ByteArray.size_append, byB_size, bsz, List.length_cons, List.length_nil, lim]; omega
    have z5 : ((((((byB (ruleLines 0 c.rules) ++ (⟨⟨[97, 112, 112, 108, 105, 99, 97, 116, 105, 111, 110, 115, 58, 32]⟩⟩ : ByteArray)) ++ byB (Lib.itoa (totalC c))) ++ (⟨⟨[10, 116, 114, 105, 101, 100, 58, 32]⟩⟩ : ByteArray)) ++ byB (Lib.itoa c.tried)) ++ (⟨⟨[10, 103, 111, 97, 108, 115, 58, 32]⟩⟩ : ByteArray))).size + (byB (Lib.itoa c.goals)).size ≤ lim := by simp only [ByteArray.size_append, byB_size, bsz, List.length_cons, List.length_nil, lim]; omega
    have z6 : (((((((byB (ruleLines 0 c.rules) ++ (⟨⟨[97, 112, 112, 108, 105, 99, 97, 116, 105, 111, 110, 115, 58, 32]⟩⟩ : ByteArray)) ++ byB (Lib.itoa (totalC c))) ++ (⟨⟨[10, 116, 114, 105, 101, 100, 58, 32]⟩⟩ : ByteArray)) ++ byB (Lib.itoa c.tried)) ++ (⟨⟨[10, 103, 111, 97, 108, 115, 58, 32]⟩⟩ : ByteArray)) ++ byB (Lib.itoa c.goals))).size + ((⟨⟨[10, 115, 116, 101, 112, 115, 58, 32]⟩⟩ : ByteArray)).size ≤ lim := by simp only [ByteArray.size_append, byB_size, bsz, List.length_cons, List.length_nil, lim]; omega
    have z7 : ((((((((byB (ruleLines 0 c.rules) ++ (⟨⟨[97, 112, 112, 108, 105, 99, 97, 116, 105, 111, 110, 115, 58, 32]⟩⟩ : ByteArray)) ++ byB (Lib.itoa (totalC c))) ++ (⟨⟨[10, 116, 114, 105, 101, 100, 58, 32]⟩⟩ : ByteArray)) ++ byB (Lib.itoa c.tried)) ++ (⟨⟨[10, 103, 111, 97, 108, 115, 58, 32]⟩⟩ : ByteArray)) ++ byB (Lib.itoa c.goals)) ++ (⟨⟨[10, 115, 116, 101, 112, 115, 58, 32]⟩⟩ : ByteArray))).size + (byB (Lib.itoa c.steps)).size ≤ lim := by simp only [ByteArray.size_append, byB_size, bsz, List.length_cons, List.length_nil, lim]; omega
    have z8 : (((((((((byB (ruleLines 0 c.rules) ++ (⟨⟨[97, 112, 112, 108, 105, 99, 97, 116, 105, 111, 110, 115, 58, 32]⟩⟩ : ByteArray)) ++ byB (Lib.itoa (totalC c))) ++ (⟨⟨[10, 116, 114, 105, 101, 100, 58, 32]⟩⟩ : ByteArray)) ++ byB (Lib.itoa c.tried)) ++ (⟨⟨[10, 103, 111, 97, 108, 115, 58, 32]⟩⟩ : ByteArray)) ++ byB (Lib.itoa c.goals)) ++ (⟨⟨[10, 115, 116, 101, 112, 115, 58, 32]⟩⟩ : ByteArray)) ++ byB (Lib.itoa c.steps))).size + ((⟨⟨[10]⟩⟩ : ByteArray)).size ≤ lim := by simp only [ByteArray.size_append, byB_size, bsz, List.length_cons, List.length_nil, lim]; omega
    have he : (((((((((byB (ruleLines 0 c.rules) ++ (⟨⟨[97, 112, 112, 108, 105, 99, 97, 116, 105, 111, 110, 115, 58, 32]⟩⟩ : ByteArray)) ++ byB (Lib.itoa (totalC c))) ++ (⟨⟨[10, 116, 114, 105, 101, 100, 58, 32]⟩⟩ : ByteArray)) ++ byB (Lib.itoa c.tried)) ++ (⟨⟨[10, 103, 111, 97, 108, 115, 58, 32]⟩⟩ : ByteArray)) ++ byB (Lib.itoa c.goals)) ++ (⟨⟨[10, 115, 116, 101, 112, 115, 58, 32]⟩⟩ : ByteArray)) ++ byB (Lib.itoa c.steps)) ++ (⟨⟨[10]⟩⟩ : ByteArray)) = byB (textC c) := by
      simp only [blit, byB_app, textC, restLines, lineT, sApp, sTried, sGoals, sSteps]; simp
    conv => whnf
    repeat' ((first | refine CallN.fn (ht) ?_ | refine CallP.fn (ht) ?_ | refine CallN.fn (d0) ?_ | refine CallP.fn (d0) ?_ | refine CallN.fn (d1) ?_ | refine CallP.fn (d1) ?_ | refine CallN.fn (d2) ?_ | refine CallP.fn (d2) ?_ | refine CallN.fn (d3) ?_ | refine CallP.fn (d3) ?_ | refine cY ?_ | refine cN ?_ | refine .not ?_ | refine wI ?_ | refine .map ?_ | refine .nil ?_ | refine .one ?_ | refine .app ?_ | refine .set ?_ | refine .rep ?_ | refine .any ?_ | refine cI ?_ | refine cJ ?_ | refine cYa ?_ | refine cNa ?_ | refine cIa ?_ | refine cJa ?_ | refine cIr ?_ | refine cId ?_ | refine cJd ?_ | with_reducible refine CondN.and ?_ | with_reducible refine CondN.or ?_ | refine CondN.lt (fun hc => ?_) (fun hc => ?_) | refine CondN.le (fun hc => ?_) (fun hc => ?_) | refine CondN.dec (fun hc => ?_) (fun hc => ?_) | refine CondN.any (fun hc => ?_) (fun hc => ?_) | refine nS ?_ | refine iA ?_ | refine iB ?_ | refine iC fun x hx => ?_ | refine iD fun x hx => ?_ | refine iE ?_ | refine iF ?_ | refine iG ?_ | refine iH fun x hx => ?_ | refine iI fun x hx => ?_ | refine iJ ?_ | refine hB ?_ | refine aP ?_ | refine .last ?_ | refine .last2 ?_ | refine zN fun k hk => ?_ | refine aR fun k hk => ?_ | refine mA ?_ | refine eL ?_ | refine eS ?_ | refine eLb ?_ | refine eSb ?_ | refine mB ?_ | refine mBb ?_ | refine pE ?_ | refine pZ ?_ | refine pC ?_ | refine pN ?_ | refine pN2 ?_ | refine mS (fun hc => ?_) (fun hc => ?_) | refine RetP.nrm ?_) <;> conv => whnf)
    exact congrArg AV.str he
end Go.CK
namespace Go.CK
open Go.RowKit Go.Proofs
attribute [local go_sem ↓] Go.wp_at_zero Go.wp_at_succ
abbrev PowAt (w : World) : Prop := Lib.TabIs Tryd.prog w "internal/strconv.uint64pow10" .u64 Lib.pow10Tab
theorem pow_below {w w' : World} {B : Nat} (hB : B ≤ w.heap.size) (hg : 0 < B) (h : PowAt w) (hb : Below B w w') : PowAt w' := by
  have hn : Tryd.prog.globalNamed "internal/strconv.uint64pow10" = some 0 := by kernel_rfl
  unfold PowAt Lib.TabIs World.var? at h ⊢
  rw [hn] at h ⊢
  have hh := hb.block 0 hg
  simp only [Option.bind_eq_bind, Option.bind_some] at h ⊢
  rw [hh]; exact h
open Go.AM in
theorem Fun.callsB {P : Program} {f : FuncId} {vals : List AV} {t : ByteArray} (h : Fun P f vals (.str t)) {w : World} {args : List Value} (ha : AllFV (Hp.of w) vals args) :
    Calls P f args.toArray w fun e w' => e = .returned (.string t) ∧ Ext w w' := by
  refine (((h []).mono (Q' := fun r _ => r = .str t) fun r bs hq => hq.1).calls (Hp.le_refl _) ha.len ha.get).mono ?_
  rintro e w' ⟨v, r, bs', M', σ, n, rfl, rfl, hv, hx, _⟩
  exact ⟨by rw [hv.inv_str.1], hx⟩
theorem ct_bool {f : FuncId} {c : Ct} {r : Bool} (h : AM.Fun Tryd.prog f [c.av] (.bool r)) {w : World} {cs : List Value} (hc : RCt (Hp.of w) cs c) :
    Calls Tryd.prog f #[.agg cs.toArray] w fun e w' => e = .returned (.bool r) ∧ Below w.heap.size w w' :=
  (Fun.calls h (args := [.agg cs.toArray]) ⟨hc.fv, trivial⟩).mono fun e w' he => ⟨he.1, he.2.bel⟩
theorem ct_text {f : FuncId} {c : Ct} {t : ByteArray} (h : AM.Fun Tryd.prog f [c.av] (.str t)) {w : World} {cs : List Value} (hc : RCt (Hp.of w) cs c) :
    Calls Tryd.prog f #[.agg cs.toArray] w fun e w' => e = .returned (.string t) ∧ Below w.heap.size w w' :=
  (Fun.callsB h (args := [.agg cs.toArray]) ⟨hc.fv, trivial⟩).mono fun e w' he => ⟨he.1, he.2.bel⟩
theorem ct_both {f : FuncId} {c d : Ct} {r : Bool} (h : AM.Fun Tryd.prog f [c.av, d.av] (.bool r)) {w : World} {cs ds : List Value} (hc : RCt (Hp.of w) cs c) (hd : RCt (Hp.of w) ds d) :
    Calls Tryd.prog f #[.agg cs.toArray, .agg ds.toArray] w fun e w' => e = .returned (.bool r) ∧ Below w.heap.size w w' :=
  (Fun.calls h (args := [.agg cs.toArray, .agg ds.toArray]) ⟨hc.fv, hd.fv, trivial⟩).mono fun e w' he => ⟨he.1, he.2.bel⟩
theorem ct_textP {c : Ct} (hl : c.rules.length ≤ 200) {w : World} {cs : List Value} (hc : RCt (Hp.of w) cs c) (hg : 0 < w.heap.size) (hp : PowAt w) :
    Calls Tryd.prog 20 #[.agg cs.toArray] w fun e w' => e = .returned (.string (byB (textC c))) ∧ Below w.heap.size w w' := by
  have fc := hc.fit
  have f0 := totalC_b c
  have hm : maxI = 9223372036854775807 := rfl
  have hn : ∀ n ∈ textNums c, -9223372036854775808 ≤ n ∧ n ≤ 9223372036854775807 := fun n hn => by
    simp only [textNums, List.append_assoc, List.mem_append, List.mem_map, List.mem_range, List.mem_cons, List.not_mem_nil, or_false] at hn
    rcases hn with ⟨j, hj, rfl⟩ | hn | rfl | rfl | rfl | rfl
    · omega
    · exact fc n (by simp [nums, hn])
    · omega
    · exact fc _ (by simp [nums])
    · exact fc _ (by simp [nums])
    · exact fc _ (by simp [nums])
  exact text_b c (by omega) w cs hc fun n hm => ⟨itoa_len (hn n hm).1 (hn n hm).2, fun w' hw => itoa_any (hn n hm).1 (hn n hm).2 w' (pow_below (Nat.le_refl _) hg hp hw)⟩
theorem laidMet_tail {P : Program} {x : String × DataW Unit} {r : List (String × DataW Unit)} {W : World} (h : laidMet P (x :: r) W) : laidMet P r W := by
  obtain ⟨ps, ⟨g, t, cs, fuel, p, q, _, _, _, _, hq, rfl⟩, hn, hr⟩ := h
  exact ⟨q, hq, (List.nodup_append.1 hn).2.1, fun b off hm => hr b off (List.mem_append_right _ hm)⟩
theorem pow_of {x y : String × DataW Unit} {W : World} (h : laidMet Tryd.prog [x, y, ("internal/strconv.uint64pow10", Lib.tabData .u64 Lib.pow10Tab)] W) : PowAt W :=
  Lib.tabIs_of_head (g := 0) (t := 69) (n := 20) (by kernel_rfl) (by kernel_rfl) (by kernel_rfl) Tryd.underlying58 (by kernel_rfl) (by kernel_rfl) (laidMet_tail (laidMet_tail h))
theorem pow_size {W : World} (h : PowAt W) : 0 < W.heap.size :=
  Hp.lt (Hp.le_refl _) (Lib.TabIs.cell h (by kernel_rfl) 0 (by decide))
set_option maxHeartbeats 2000000 in
set_option maxRecDepth 100000 in
theorem texts_b (a b : Ct) (W : World) (cs ds : List Value) (ha : RCt (Hp.of W) cs a) (hb : RCt (Hp.of W) ds b) (hg : 0 < W.heap.size) (hp : PowAt W) :
    Calls Tryd.prog 8 #[.agg cs.toArray, .agg ds.toArray] W fun e W' => e = .returned (.bool true) ∧ Below W.heap.size W W' := by
  have hL : ∀ w, Calls Tryd.prog 12 #[] w fun e w' => e = .returned (.bool true) ∧ Below w.heap.size w w' := fun w => (Fun.calls live37_ok (w := w) (args := []) trivial).mono fun e w' he => ⟨he.1, he.2.bel⟩
  have hA : ∀ w, Below W.heap.size W w → RCt (Hp.of w) cs a := fun w h => RCt.mono (hp_below h) ha
  have hB : ∀ w, Below W.heap.size W w → RCt (Hp.of w) ds b := fun w h => RCt.mono (hp_below h) hb
  have hP : ∀ w, Below W.heap.size W w → PowAt w := fun w h => pow_below (Nat.le_refl _) hg hp h
  obtain ⟨a1, k1, rfl, hk1, hsl, i1, i2, i3⟩ := id ha
  obtain ⟨a2, k2, rfl, hk2, hsm, j1, j2, j3⟩ := id hb
  obtain ⟨w2, hw2⟩ : ∃ w2, w2 = (W.alloc (.cells #[.slice a1 a.rules.length k1, .int .i64 a.tried, .int .i64 a.goals, .int .i64 a.steps] 26)).alloc (.cells #[.slice a2 b.rules.length k2, .int .i64 b.tried, .int .i64 b.goals, .int .i64 b.steps] 26) := ⟨_, rfl⟩
  have hz : w2.heap.size = W.heap.size + 2 := by rw [hw2]; simp
  have hB0 : Below W.heap.size W w2 := by
    rw [hw2]
    exact ((Below.refl _ W).alloc (Nat.le_refl _) _).alloc (by simp) _
  have hbx : w2.heap[W.heap.size]? = some (.cells #[.slice a1 a.rules.length k1, .int .i64 a.tried, .int .i64 a.goals, .int .i64 a.steps] 26 (0, 0)) := by
    rw [hw2, Below.heap_alloc _ _ _ (by simp)]
    exact World.alloc_heap_new W _
  have hby : w2.heap[W.heap.size + 1]? = some (.cells #[.slice a2 b.rules.length k2, .int .i64 b.tried, .int .i64 b.goals, .int .i64 b.steps] 26 (0, 0)) := by
    rw [hw2]
    have := World.alloc_heap_new (W.alloc (.cells #[.slice a1 a.rules.length k1, .int .i64 a.tried, .int .i64 a.goals, .int .i64 a.steps] 26)) (.cells #[.slice a2 b.rules.length k2, .int .i64 b.tried, .int .i64 b.goals, .int .i64 b.steps] 26)
    simpa using this
  have hcell : ∀ w, Below w2.heap.size w2 w → (w.cell? ⟨W.heap.size, 0, none⟩ = some (.slice a1 a.rules.length k1) ∧ w.cell? ⟨W.heap.size, 1, none⟩ = some (.int .i64 a.tried) ∧ w.cell? ⟨W.heap.size, 2, none⟩ = some (.int .i64 a.goals) ∧ w.cell? ⟨W.heap.size, 3, none⟩ = some (.int .i64 a.steps)) ∧ w.cell? ⟨W.heap.size + 1, 0, none⟩ = some (.slice a2 b.rules.length k2) ∧ w.cell? ⟨W.heap.size + 1, 1, none⟩ = some (.int .i64 b.tried) ∧ w.cell? ⟨W.heap.size + 1, 2, none⟩ = some (.int .i64 b.goals) ∧ w.cell? ⟨W.heap.size + 1, 3, none⟩ = some (.int .i64 b.steps) := fun w h => by
    have e1 := (h.block W.heap.size (by omega)).trans hbx
    have e2 := (h.block (W.heap.size + 1) (by omega)).trans hby
    simp [World.cell?, e1, e2]
  have hin : ∀ w, Below w2.heap.size w2 w → Below W.heap.size W w := fun w h => hB0.trans (h.mono (by omega))
  have Hc := Lib.hid hcell; clear hcell
  have Hin := Lib.hid hin; clear hin
  have HL := Lib.hid hL; clear hL
  have HA := Lib.hid hA; clear hA
  have HB := Lib.hid hB; clear hB
  have HP := Lib.hid hP; clear hP
  have Hsl := Lib.hid hsl; clear hsl
  have Hsm := Lib.hid hsm; clear hsm
  have Ha := Lib.hid ha; clear ha
  have Hb := Lib.hid hb; clear hb
  clear hp
  go_enter Tryd.func8, Tryd.ntmps8
  go_wp2_with fail
  rw [← hw2]
  clear hbx hby
  have Hw2 := Lib.hid hw2; clear hw2
  refine (HL.out _).mono ?_
  rintro e w3 ⟨rfl, hx3⟩
  obtain ⟨⟨c0, c1, c2, c3⟩, c4, c5, c6, c7⟩ := Hc.out _ hx3
  go_wp2_with fail
  refine (ct_bool great_ok (HA.out _ (Hin.out _ hx3))).mono ?_
  rintro e w4 ⟨rfl, hx4⟩
  have hx4 := hx3.trans (hx4.mono hx3.size)
  obtain ⟨⟨c0, c1, c2, c3⟩, c4, c5, c6, c7⟩ := Hc.out _ hx4
  by_cases ha2 : 200 < a.rules.length
  · rw [decide_eq_true ha2]
    go_wp2_with fail
    go_ret
    exact ⟨rfl, Hin.out _ hx4⟩
  rw [decide_eq_false ha2]
  go_wp2_with fail
  refine (ct_bool great_ok (HB.out _ (Hin.out _ hx4))).mono ?_
  rintro e w5 ⟨rfl, hx5⟩
  have hx5 := hx4.trans (hx5.mono hx4.size)
  obtain ⟨⟨c0, c1, c2, c3⟩, c4, c5, c6, c7⟩ := Hc.out _ hx5
  by_cases hb2 : 200 < b.rules.length
  · rw [decide_eq_true hb2]
    go_wp2_with fail
    go_ret
    exact ⟨rfl, Hin.out _ hx5⟩
  rw [decide_eq_false hb2]
  have TA : ∀ w, Below w2.heap.size w2 w → Calls Tryd.prog 20 #[.agg #[.slice a1 a.rules.length k1, .int .i64 a.tried, .int .i64 a.goals, .int .i64 a.steps]] w fun e w' => e = .returned (.string (byB (textC a))) ∧ Below w2.heap.size w2 w' := fun w h => (ct_textP (by omega) (HA.out _ (Hin.out _ h)) (by have := (Hin.out _ h).size; omega) (HP.out _ (Hin.out _ h))).mono fun e w' he => ⟨he.1, h.trans (he.2.mono h.size)⟩
  have TB : ∀ w, Below w2.heap.size w2 w → Calls Tryd.prog 20 #[.agg #[.slice a2 b.rules.length k2, .int .i64 b.tried, .int .i64 b.goals, .int .i64 b.steps]] w fun e w' => e = .returned (.string (byB (textC b))) ∧ Below w2.heap.size w2 w' := fun w h => (ct_textP (by omega) (HB.out _ (Hin.out _ h)) (by have := (Hin.out _ h).size; omega) (HP.out _ (Hin.out _ h))).mono fun e w' he => ⟨he.1, h.trans (he.2.mono h.size)⟩
  have HTA := Lib.hid TA; clear TA
  have HTB := Lib.hid TB; clear TB
  go_wp2_with fail
  have HK : ∀ w', Below w2.heap.size w2 w' → (w'.cell? ⟨W.heap.size, 0, none⟩ = some (.slice a1 a.rules.length k1) ∧ w'.cell? ⟨W.heap.size, 1, none⟩ = some (.int .i64 a.tried) ∧ w'.cell? ⟨W.heap.size, 2, none⟩ = some (.int .i64 a.goals) ∧ w'.cell? ⟨W.heap.size, 3, none⟩ = some (.int .i64 a.steps) ∧ w'.cell? ⟨W.heap.size + 1, 0, none⟩ = some (.slice a2 b.rules.length k2) ∧ w'.cell? ⟨W.heap.size + 1, 1, none⟩ = some (.int .i64 b.tried) ∧ w'.cell? ⟨W.heap.size + 1, 2, none⟩ = some (.int .i64 b.goals) ∧ w'.cell? ⟨W.heap.size + 1, 3, none⟩ = some (.int .i64 b.steps)) := fun w' h => by
    obtain ⟨⟨c0, c1, c2, c3⟩, c4, c5, c6, c7⟩ := Hc.out _ h
    exact ⟨c0, c1, c2, c3, c4, c5, c6, c7⟩
  have HK := Lib.hid HK
  clear c0 c1 c2 c3 c4 c5 c6 c7
  have Hx5 := Lib.hid (show ∀ w, Below w2.heap.size w w → Below w2.heap.size w2 w5 from fun _ _ => hx5)
  clear hx3 hx4
  go_region_held3 (fun w' => w'.cell? ⟨W.heap.size, 0, none⟩ = some (.slice a1 a.rules.length k1) ∧ w'.cell? ⟨W.heap.size, 1, none⟩ = some (.int .i64 a.tried) ∧ w'.cell? ⟨W.heap.size, 2, none⟩ = some (.int .i64 a.goals) ∧ w'.cell? ⟨W.heap.size, 3, none⟩ = some (.int .i64 a.steps) ∧ w'.cell? ⟨W.heap.size + 1, 0, none⟩ = some (.slice a2 b.rules.length k2) ∧ w'.cell? ⟨W.heap.size + 1, 1, none⟩ = some (.int .i64 b.tried) ∧ w'.cell? ⟨W.heap.size + 1, 2, none⟩ = some (.int .i64 b.goals) ∧ w'.cell? ⟨W.heap.size + 1, 3, none⟩ = some (.int .i64 b.steps)) (exact HK.out _ (by repeat (first | assumption | refine Below.drew ?_))) (first | (go_at_call_of 20 (Value.agg #[.slice a1 a.rules.length k1, .int .i64 a.tried, .int .i64 a.goals, .int .i64 a.steps]); refine (HTA.out _ (by repeat (first | assumption | refine Below.drew ?_))).mono ?_; rintro e w' ⟨rfl, hb⟩) | (go_at_call_of 20 (Value.agg #[.slice a2 b.rules.length k2, .int .i64 b.tried, .int .i64 b.goals, .int .i64 b.steps]); refine (HTB.out _ (by repeat (first | assumption | refine Below.drew ?_))).mono ?_; rintro e w' ⟨rfl, hb⟩))
  have hx6 := hb
  obtain ⟨⟨c0, c1, c2, c3⟩, c4, c5, c6, c7⟩ := Hc.out _ hx6
  go_wp2_with fail
  refine (ct_text (refText_ok (by omega) (RCt.fit Ha.out)) (HA.out _ (Hin.out _ hx6))).mono ?_
  rintro e w7 ⟨rfl, hx7⟩
  have hx7 := hx6.trans (hx7.mono hx6.size)
  obtain ⟨⟨c0, c1, c2, c3⟩, c4, c5, c6, c7⟩ := Hc.out _ hx7
  go_wp2_with fail
  refine (ct_text (refText_ok (by omega) (RCt.fit Hb.out)) (HB.out _ (Hin.out _ hx7))).mono ?_
  rintro e w8 ⟨rfl, hx8⟩
  have hx8 := hx7.trans (hx8.mono hx7.size)
  obtain ⟨⟨c0, c1, c2, c3⟩, c4, c5, c6, c7⟩ := Hc.out _ hx8
  go_wp2_with fail
  · have hlen : a.rules.length = b.rules.length := by omega
    refine (ct_bool (right_ok (by omega)) (HA.out _ (Hin.out _ hx8))).mono ?_
    rintro e w9 ⟨rfl, hx9⟩
    have hx9 := hx8.trans (hx9.mono hx8.size)
    obtain ⟨⟨c0, c1, c2, c3⟩, c4, c5, c6, c7⟩ := Hc.out _ hx9
    cases hoa : okC a with
    | false =>
      go_wp2_with fail
      go_ret
      exact ⟨rfl, Hin.out _ hx9⟩
    | true =>
      go_wp2_with fail
      refine (ct_bool (right_ok (by omega)) (HB.out _ (Hin.out _ hx9))).mono ?_
      rintro e w10 ⟨rfl, hx10⟩
      have hx10 := hx9.trans (hx10.mono hx9.size)
      obtain ⟨⟨c0, c1, c2, c3⟩, c4, c5, c6, c7⟩ := Hc.out _ hx10
      cases hob : okC b with
      | false =>
        go_wp2_with fail
        go_ret
        exact ⟨rfl, Hin.out _ hx10⟩
      | true =>
        go_wp2_with fail
        have hS := ct_both (same_ok (by omega) (by omega)) (HA.out _ (Hin.out _ hx10)) (HB.out _ (Hin.out _ hx10))
        rw [hlen] at hS
        refine hS.mono ?_
        rintro e w11 ⟨rfl, hx11⟩
        have hx11 := hx10.trans (hx11.mono hx10.size)
        obtain ⟨⟨c0, c1, c2, c3⟩, c4, c5, c6, c7⟩ := Hc.out _ hx11
        go_wp2_with fail
        have hI := textC_inj hlen hoa hob
        have hE : (byB (textC a) = byB (textC b)) ↔ textC a = textC b := ⟨fun h => by
          have := congrArg (fun x : ByteArray => x.data.toList) h
          simpa [byB] using this, fun h => by rw [h]⟩
        have hV : (((byB (textC a)).toList == (byB (textC b)).toList) == decide (nums a = nums b)) = true := by
          rw [AM.str_eq, decide_eq_decide.2 (hE.trans hI)]
          exact beq_self_eq_true _
        rw [hV]
        go_ret
        exact ⟨rfl, Hin.out _ hx11⟩
  · go_ret
    exact ⟨rfl, Hin.out _ hx8⟩
end Go.CK
