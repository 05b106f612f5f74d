/-
  WALKS: arith.Eval, arith.Expr and their references. By an AI agent.
-/
import Derived.Test.YtllcnpfdklbbbaaArithR
import Derived.Test.YtllcnpfdklbbbaaEvalM
namespace Go.CK
open Go.RowKit Go.Proofs

def opTm : Tm → Bool
  | .mk k _ s l => decide (k = 2) && (decide (l.length = 2) && isOp s)

theorem func_ne_nil (k : Nat) (cap : Array Value) (w : World) : (binOp .neq 68 (.func (.func k) #[] cap) .nilFunc).run Try.prog w = .ok (.bool true) w := by kernel_rfl
theorem nil_ne_nil (w : World) : (binOp .neq 68 .nilFunc .nilFunc).run Try.prog w = .ok (.bool false) w := by kernel_rfl

set_option maxHeartbeats 400000 in
theorem operator_any (t : Tm) (c : List Value) (H : Hp) (w : World) (ht : RTm H c t) :
    Calls Try.prog 48 #[.agg c.toArray] w fun e w' => e = .returned (.bool (opTm t)) ∧ Ext w w' := by
  have hnn := nil_ne_nil
  have hfn := func_ne_nil
  obtain ⟨k, n, s, l⟩ := t
  obtain ⟨a, cap, rfl, ik, im, is, ic, hl⟩ := ht.inv
  have hle : l.length ≤ 9223372036854775807 := hl.le
  clear ht
  by_cases h2 : k = 2
  case neg =>
    have hv : opTm (.mk k n s l) = false := by simp [opTm, h2]
    have Hv := Lib.hid hv; clear hv
    have h2' : (k == 2) = false := by simpa using h2
    clear h2
    go_enter Try.func48, Try.ntmps48
    go_wp2_with fail
    go_ret
    exact ⟨by rw [Hv.out]; rfl, (by repeat first | assumption | exact Ext.refl _ | refine Ext.alloc ?_ _ | refine Ext.drew ?_ | refine Ext.trans ?_ (by assumption))⟩
  subst h2
  by_cases hl2 : l.length = 2
  case neg =>
    have hv : opTm (.mk 2 n s l) = false := by simp [opTm, hl2]
    have Hv := Lib.hid hv; clear hv
    have h2' : ((l.length : Int) == 2) = false := by rw [beq_eq_false_iff_ne]; omega
    clear hl2
    go_enter Try.func48, Try.ntmps48
    go_wp2_with fail
    go_ret
    exact ⟨by rw [Hv.out]; rfl, (by repeat first | assumption | exact Ext.refl _ | refine Ext.alloc ?_ _ | refine Ext.drew ?_ | refine Ext.trans ?_ (by assumption))⟩
  have h2' : ((l.length : Int) == 2) = true := by rw [beq_iff_eq]; omega
  cases ho : isOp s with
  | false =>
    have hv : opTm (.mk 2 n s l) = false := by simp [opTm, ho]
    have Hv := Lib.hid hv
    have Ho := Lib.hid ho
    clear hv hl2 ho
    go_enter Try.func48, Try.ntmps48
    go_wp2_with fail
    refine (of_none s _ Ho.out).mono ?_
    rintro e w1 ⟨rfl, rfl⟩
    go_wp2_with fail
    go_ret
    exact ⟨by rw [Hv.out]; rfl, (by repeat first | assumption | exact Ext.refl _ | refine Ext.alloc ?_ _ | refine Ext.drew ?_ | refine Ext.trans ?_ (by assumption))⟩
  | true =>
    have hv : opTm (.mk 2 n s l) = true := by simp [opTm, ho, hl2]
    have Hv := Lib.hid hv
    have Ho := Lib.hid ho
    clear hv hl2 ho
    go_enter Try.func48, Try.ntmps48
    go_wp2_with fail
    refine (of_any s _ Ho.out).mono ?_
    rintro e w1 ⟨fv, rfl, ⟨k, cap, rfl, hk, hf⟩, hx1⟩
    clear hf hk
    go_wp2_with fail
    go_ret
    exact ⟨by rw [Hv.out]; rfl, (by repeat first | assumption | exact Ext.refl _ | refine Ext.alloc ?_ _ | refine Ext.drew ?_ | refine Ext.trans ?_ (by assumption))⟩

set_option maxHeartbeats 1000000 in
theorem eval_any (t : Tm) : ∀ (c : List Value) (H : Hp) (w : World), H.le (Hp.of w) → RTm H c t →
    Calls Try.prog 31 #[.agg c.toArray] w fun e w' => e = .returned (.tuple #[.int .i64 (evalv t).1, .int .i64 (evalv t).2]) ∧ Ext w w' := by
  induction t using Tm.ind_all with
  | h k n s l ih =>
  intro c H w hH ht
  have hop := fun w => operator_any (.mk k n s l) c H w ht
  obtain ⟨a, cap, rfl, ik, im, is, ic, hl⟩ := ht.inv
  have hle : l.length ≤ 9223372036854775807 := hl.le
  have Ih := Lib.hid ih
  have Hop := Lib.hid hop
  clear ih ht hop
  by_cases h1 : k = 1
  · subst h1
    have hv : evalv (.mk 1 n s l) = (0, 17) := by rw [evalv_01 (by simp)]; rfl
    have Hv := Lib.hid hv; clear hv
    go_enter Try.func31, Try.ntmps31
    go_wp2_with fail
    go_ret2
    exact ⟨by rw [Hv.out]; rfl, (by repeat first | assumption | exact Ext.refl _ | refine Ext.alloc ?_ _ | refine Ext.drew ?_ | refine Ext.trans ?_ (by assumption))⟩
  by_cases h0 : k = 0
  · subst h0
    cases hin : inR n with
    | true =>
      have hv : evalv (.mk 0 n s l) = (n, 0) := evalv_int hin
      have Hv := Lib.hid hv
      have Hin := Lib.hid hin
      clear hv hin
      go_enter Try.func31, Try.ntmps31
      go_wp2_with fail
      refine (inRange_any [n] _ 1 (Hp.of _) _ (Hp.le_refl _) (ints_one im (by simp [Hp.of]))).mono ?_
      rintro e w2 ⟨rfl, rfl⟩
      rw [show [n].all inR = true from by simp [Hin.out]]
      go_wp2_with fail
      go_ret2
      exact ⟨by rw [Hv.out]; rfl, (by repeat first | assumption | exact Ext.refl _ | refine Ext.alloc ?_ _ | refine Ext.drew ?_ | refine Ext.trans ?_ (by assumption))⟩
    | false =>
      have hv : evalv (.mk 0 n s l) = (0, 5) := by rw [evalv_01 (by simp)]; simp [hin]
      have Hv := Lib.hid hv
      have Hin := Lib.hid hin
      clear hv hin
      go_enter Try.func31, Try.ntmps31
      go_wp2_with fail
      refine (inRange_any [n] _ 1 (Hp.of _) _ (Hp.le_refl _) (ints_one im (by simp [Hp.of]))).mono ?_
      rintro e w2 ⟨rfl, rfl⟩
      rw [show [n].all inR = false from by simp [Hin.out]]
      go_wp2_with fail
      go_ret2
      exact ⟨by rw [Hv.out]; rfl, (by repeat first | assumption | exact Ext.refl _ | refine Ext.alloc ?_ _ | refine Ext.drew ?_ | refine Ext.trans ?_ (by assumption))⟩
  have h1' : (k == 1) = false := by simpa using h1
  have h0' : (k == 0) = false := by simpa using h0
  cases ho : opTm (.mk k n s l) with
  | false =>
    have hv : evalv (.mk k n s l) = (0, 11) := by
      by_cases hl2 : l.length = 2
      · obtain ⟨x, y, rfl⟩ := two_of_len hl2
        rw [evalv_eq, if_neg h1, if_neg h0, if_pos]
        simp [opTm] at ho
        by_cases h2 : k = 2
        · right; exact ho h2
        · left; exact h2
      · rw [evalv_ne hl2, if_neg h1, if_neg h0]
    have Hv := Lib.hid hv
    have Ho := Lib.hid ho
    clear hv ho h1 h0
    go_enter Try.func31, Try.ntmps31
    go_wp2_with fail
    refine (Hop.out _).mono ?_
    rintro e w2 ⟨rfl, hx2⟩
    rw [Ho.out]
    go_wp2_with fail
    go_ret2
    exact ⟨by rw [Hv.out]; rfl, (by repeat first | assumption | exact Ext.refl _ | refine Ext.alloc ?_ _ | refine Ext.drew ?_ | refine Ext.trans ?_ (by assumption))⟩
  | true =>
    simp only [opTm, Bool.and_eq_true, decide_eq_true_eq] at ho
    obtain ⟨rfl, hl2, hos⟩ := ho
    obtain ⟨x, y, rfl⟩ := two_of_len hl2
    have hv : evalv (.mk 2 n s [x, y]) = if (evalv x).2 ≠ 0 then (0, (evalv x).2) else if (evalv y).2 ≠ 0 then (0, (evalv y).2) else apply s (evalv x).1 (evalv y).1 := by
      rw [evalv_two, if_neg (by simp [hos])]
    have Hv := Lib.hid hv
    have Ho : Hid (opTm (.mk 2 n s [x, y]) = true) := Lib.hid (by simp [opTm, hos])
    obtain ⟨b, o, rfl⟩ := hl.addr (by simp)
    clear hv hl2 h1 h0 h0' h1'
    go_enter Try.func31, Try.ntmps31
    go_wp2_with fail
    refine (Hop.out _).mono ?_
    rintro e w2 ⟨rfl, hx2⟩
    rw [Ho.out]
    go_wp2_with fail
    obtain ⟨w3, hw3⟩ : ∃ w3, w2.alloc (.cells #[.int .i64 0, .int .i64 0] 74) = w3 := ⟨_, rfl⟩
    have hx3 : Ext w2 w3 := by rw [← hw3]; exact (Ext.refl _).alloc _
    have hx4 : Ext w w3 := (by repeat first | assumption | exact Ext.refl _ | refine Ext.alloc ?_ _ | refine Ext.drew ?_ | refine Ext.trans ?_ (by assumption))
    have hb := hx2.size
    have hb2 : w.heap.size < w2.heap.size := by simp at hb; omega
    have hb3 : w2.heap.size < w3.heap.size := by rw [← hw3]; simp
    have hc : w3.cell? ⟨w.heap.size, 3, none⟩ = some (.slice (some ⟨b, o, none⟩) 2 cap) := hx3.cell (hx2.cell (by simp))
    have hs : w3.cell? ⟨w.heap.size, 2, none⟩ = some (.string s) := hx3.cell (hx2.cell (by simp))
    have k0 : w3.cell? ⟨w2.heap.size, 0, none⟩ = some (.int .i64 0) := by rw [← hw3]; simp
    have k1 : w3.cell? ⟨w2.heap.size, 1, none⟩ = some (.int .i64 0) := by rw [← hw3]; simp
    have g0 : w3.frozen? ⟨w2.heap.size, 0, none⟩ = false := by rw [← hw3]; simp
    have g1 : w3.frozen? ⟨w2.heap.size, 1, none⟩ = false := by rw [← hw3]; simp
    rw [hw3]
    clear hw3 hb
    obtain ⟨x0, x1, x2, x3, e0, e1, e2, e3, r1⟩ := hl.get4 (Hp.ext hH hx4) 0 (by simp)
    simp only [Nat.zero_mul, Nat.add_zero] at e0 e1 e2 e3
    refine wp_loop_rounds 3 ?_
    rw [rounds_succ]
    go_wp2_with fail
    refine (Ih.out x (by simp) _ _ _ (Hp.ext hH hx4) r1).mono ?_
    rintro e w4 ⟨rfl, hx5⟩
    by_cases hx0 : (evalv x).2 = 0
    case neg =>
      have hv : evalv (.mk 2 n s [x, y]) = (0, (evalv x).2) := by rw [Hv.out, if_pos hx0]
      have Hv2 := Lib.hid hv
      have hx0' : ((evalv x).2 != 0) = true := by simpa using hx0
      clear hv hx0
      go_wp2_with fail
      go_ret2
      exact ⟨by rw [Hv2.out]; rfl, (by repeat first | assumption | exact Ext.refl _ | refine Ext.alloc ?_ _ | refine Ext.drew ?_ | refine Ext.trans ?_ (by assumption))⟩
    have hx0' : ((evalv x).2 != 0) = false := by simpa using hx0
    have hv : evalv (.mk 2 n s [x, y]) = if (evalv y).2 ≠ 0 then (0, (evalv y).2) else apply s (evalv x).1 (evalv y).1 := by rw [Hv.out, if_neg (by simp [hx0])]
    have Hv2 := Lib.hid hv
    have Hx0 := Lib.hid hx0
    clear hv hx0 Hv
    have hc4 := hx5.cell hc
    have hs4 := hx5.cell hs
    have k04 := hx5.cell k0
    have k14 := hx5.cell k1
    have g04 : w4.frozen? ⟨w2.heap.size, 0, none⟩ = false := by rw [hx5.frozen hb3]; exact g0
    have g14 : w4.frozen? ⟨w2.heap.size, 1, none⟩ = false := by rw [hx5.frozen hb3]; exact g1
    go_wp2_with fail
    obtain ⟨w5, hw5⟩ : ∃ w5, w4.setCell ⟨w2.heap.size, 0, none⟩ (.int .i64 (evalv x).1) = w5 := ⟨_, rfl⟩
    have hx6 : Ext w w5 := by rw [← hw5]; exact (hx4.trans hx5).setCell (by simp; omega) _
    have hz5 : w5.heap.size = w4.heap.size := by rw [← hw5]; simp
    have hb4 := hx5.size
    have hne : w.heap.size ≠ w2.heap.size := by omega
    have hc5 : w5.cell? ⟨w.heap.size, 3, none⟩ = some (.slice (some ⟨b, o, none⟩) 2 cap) := by rw [← hw5, World.cell?_setCell_other _ _ _ _ (by simp)]; exact hc4
    have hs5 : w5.cell? ⟨w.heap.size, 2, none⟩ = some (.string s) := by rw [← hw5, World.cell?_setCell_other _ _ _ _ (by simp)]; exact hs4
    have k05 : w5.cell? ⟨w2.heap.size, 0, none⟩ = some (.int .i64 (evalv x).1) := by rw [← hw5]; exact World.cell?_setCell_same' _ _ _ (by rw [k04]; rfl)
    have k15 : w5.cell? ⟨w2.heap.size, 1, none⟩ = some (.int .i64 0) := by rw [← hw5, World.cell?_setCell_other _ _ _ _ (by simp)]; exact k14
    have g15 : w5.frozen? ⟨w2.heap.size, 1, none⟩ = false := by rw [← hw5, World.frozen?_setCell]; exact g14
    rw [hw5]
    obtain ⟨y0, y1, y2, y3, f0, f1, f2, f3, r2⟩ := hl.get4 (Hp.ext hH hx6) 1 (by simp)
    simp only [Nat.one_mul] at f0 f1 f2 f3
    clear e0 e1 e2 e3 hc4 hs4 k04 k14 g04 g14 hc hs k0 k1 g0 g1 hw5
    rw [rounds_succ]
    go_wp2_with fail
    refine (Ih.out y (by simp) _ _ _ (Hp.ext hH hx6) r2).mono ?_
    rintro e w6 ⟨rfl, hx7⟩
    by_cases hy0 : (evalv y).2 = 0
    case neg =>
      have hv : evalv (.mk 2 n s [x, y]) = (0, (evalv y).2) := by rw [Hv2.out, if_pos hy0]
      have Hv3 := Lib.hid hv
      have hy0' : ((evalv y).2 != 0) = true := by simpa using hy0
      clear hv hy0
      go_wp2_with fail
      go_ret2
      exact ⟨by rw [Hv3.out]; rfl, hx6.trans hx7⟩
    have hy0' : ((evalv y).2 != 0) = false := by simpa using hy0
    have hv : evalv (.mk 2 n s [x, y]) = apply s (evalv x).1 (evalv y).1 := by rw [Hv2.out, if_neg (by simp [hy0])]
    have Hv3 := Lib.hid hv
    have ix := inR_iff.1 (evalv_in x Hx0.out)
    have iy := inR_iff.1 (evalv_in y hy0)
    have okx : IntOk (evalv x).1 := by unfold IntOk; omega
    have oky : IntOk (evalv y).1 := by unfold IntOk; omega
    have Hx6 := hx6
    clear hv hy0 Hv2 ix iy hx6
    have hs6 := hx7.cell hs5
    have k06 := hx7.cell k05
    have k16 := hx7.cell k15
    have g16 : w6.frozen? ⟨w2.heap.size, 1, none⟩ = false := by rw [hx7.frozen (by simp; omega)]; exact g15
    go_wp2_with fail
    obtain ⟨w7, hw7⟩ : ∃ w7, w6.setCell ⟨w2.heap.size, 1, none⟩ (.int .i64 (evalv y).1) = w7 := ⟨_, rfl⟩
    have hx8 : Ext w w7 := by rw [← hw7]; exact (Hx6.trans hx7).setCell (by simp; omega) _
    have hs7 : w7.cell? ⟨w.heap.size, 2, none⟩ = some (.string s) := by rw [← hw7, World.cell?_setCell_other _ _ _ _ (by simp)]; exact hs6
    have k07 : w7.cell? ⟨w2.heap.size, 0, none⟩ = some (.int .i64 (evalv x).1) := by rw [← hw7, World.cell?_setCell_other _ _ _ _ (by simp)]; exact k06
    have k17 : w7.cell? ⟨w2.heap.size, 1, none⟩ = some (.int .i64 (evalv y).1) := by rw [← hw7]; exact World.cell?_setCell_same' _ _ _ (by rw [k16]; rfl)
    rw [hw7]
    clear hw7 hs6 k06 k16 g16 hs5 k05 k15 g15 hc5 f0 f1 f2 f3
    rw [rounds_succ]
    go_wp2_with fail
    refine (apply_any s _ _ _ okx oky).mono ?_
    rintro e w8 ⟨rfl, hx9⟩
    go_wp2_with fail
    go_ret2
    exact ⟨by rw [Hv3.out]; rfl, hx8.trans hx9⟩

set_option maxHeartbeats 1000000 in
theorem eval_ref (t : Tm) : ∀ (c : List Value) (H : Hp) (w : World), H.le (Hp.of w) → RTm H c t →
    Calls Try.prog 32 #[.agg c.toArray] w fun e w' => e = .returned (.tuple #[.int .i64 (evalv t).1, .int .i64 (evalv t).2]) ∧ Ext w w' := by
  induction t using Tm.ind_all with
  | h k n s l ih =>
  intro c H w hH ht
  obtain ⟨a, cap, rfl, ik, im, is, ic, hl⟩ := ht.inv
  have hle : l.length ≤ 9223372036854775807 := hl.le
  have Ih := Lib.hid ih
  clear ih ht
  by_cases h1 : k = 1
  · subst h1
    have hv : evalv (.mk 1 n s l) = (0, 17) := by rw [evalv_01 (by simp)]; rfl
    have Hv := Lib.hid hv; clear hv
    go_enter Try.func32, Try.ntmps32
    go_wp2_with fail
    go_ret2
    exact ⟨by rw [Hv.out]; rfl, (by repeat first | assumption | exact Ext.refl _ | refine Ext.alloc ?_ _ | refine Ext.drew ?_ | refine Ext.trans ?_ (by assumption))⟩
  by_cases h0 : k = 0
  · subst h0
    cases hin : inR n with
    | true =>
      have hv : evalv (.mk 0 n s l) = (n, 0) := evalv_int hin
      have Hv := Lib.hid hv
      have Hin := Lib.hid hin
      clear hv hin
      go_enter Try.func32, Try.ntmps32
      go_wp2_with fail
      refine (in_ref _ _).mono ?_
      rintro e w2 ⟨rfl, rfl⟩
      rw [Hin.out]
      go_wp2_with fail
      go_ret2
      exact ⟨by rw [Hv.out]; rfl, (by repeat first | assumption | exact Ext.refl _ | refine Ext.alloc ?_ _ | refine Ext.drew ?_ | refine Ext.trans ?_ (by assumption))⟩
    | false =>
      have hv : evalv (.mk 0 n s l) = (0, 5) := by rw [evalv_01 (by simp)]; simp [hin]
      have Hv := Lib.hid hv
      have Hin := Lib.hid hin
      clear hv hin
      go_enter Try.func32, Try.ntmps32
      go_wp2_with fail
      refine (in_ref _ _).mono ?_
      rintro e w2 ⟨rfl, rfl⟩
      rw [Hin.out]
      go_wp2_with fail
      go_ret2
      exact ⟨by rw [Hv.out]; rfl, (by repeat first | assumption | exact Ext.refl _ | refine Ext.alloc ?_ _ | refine Ext.drew ?_ | refine Ext.trans ?_ (by assumption))⟩
  have h1' : (k == 1) = false := by simpa using h1
  have h0' : (k == 0) = false := by simpa using h0
  by_cases h2 : k = 2
  case neg =>
    have hv : evalv (.mk k n s l) = (0, 11) := by rw [evalv_01 h2, if_neg h1, if_neg h0]
    have Hv := Lib.hid hv
    have h2' : (k != 2) = true := by simpa using h2
    clear hv h2 h1 h0
    go_enter Try.func32, Try.ntmps32
    go_wp2_with fail
    go_ret2
    exact ⟨by rw [Hv.out]; rfl, (by repeat first | assumption | exact Ext.refl _ | refine Ext.alloc ?_ _ | refine Ext.drew ?_ | refine Ext.trans ?_ (by assumption))⟩
  subst h2
  cases ho : isOp s with
  | false =>
    have hv : evalv (.mk 2 n s l) = (0, 11) := by
      by_cases hl2 : l.length = 2
      · obtain ⟨x, y, rfl⟩ := two_of_len hl2
        rw [evalv_two, if_pos ho]
      · exact evalv_len hl2
    have Hv := Lib.hid hv
    have Ho := Lib.hid ho
    clear hv ho
    go_enter Try.func32, Try.ntmps32
    go_wp2_with fail
    refine (operator_ref _ _).mono ?_
    rintro e w2 ⟨rfl, rfl⟩
    rw [Ho.out]
    go_wp2_with fail
    go_ret2
    exact ⟨by rw [Hv.out]; rfl, (by repeat first | assumption | exact Ext.refl _ | refine Ext.alloc ?_ _ | refine Ext.drew ?_ | refine Ext.trans ?_ (by assumption))⟩
  | true =>
  by_cases hl2 : l.length = 2
  case neg =>
    have hv : evalv (.mk 2 n s l) = (0, 11) := evalv_len hl2
    have Hv := Lib.hid hv
    have Ho := Lib.hid ho
    have hl' : ((l.length : Int) != 2) = true := by rw [bne_iff_ne]; omega
    clear hv ho hl2
    go_enter Try.func32, Try.ntmps32
    go_wp2_with fail
    refine (operator_ref _ _).mono ?_
    rintro e w2 ⟨rfl, rfl⟩
    rw [Ho.out]
    go_wp2_with fail
    go_ret2
    exact ⟨by rw [Hv.out]; rfl, (by repeat first | assumption | exact Ext.refl _ | refine Ext.alloc ?_ _ | refine Ext.drew ?_ | refine Ext.trans ?_ (by assumption))⟩
  obtain ⟨x, y, rfl⟩ := two_of_len hl2
  have hv : evalv (.mk 2 n s [x, y]) = if (evalv x).2 ≠ 0 then (0, (evalv x).2) else if (evalv y).2 ≠ 0 then (0, (evalv y).2) else apply s (evalv x).1 (evalv y).1 := by
    rw [evalv_two, if_neg (by simp [ho])]
  have Hv := Lib.hid hv
  have Ho := Lib.hid ho
  obtain ⟨b, o, rfl⟩ := hl.addr (by simp)
  clear hv hl2 h1 h0 h0' h1' ho
  go_enter Try.func32, Try.ntmps32
  go_wp2_with fail
  refine (operator_ref _ _).mono ?_
  rintro e w2 ⟨rfl, rfl⟩
  rw [Ho.out]
  obtain ⟨w3, hw3⟩ : ∃ w3, w.alloc (.cells #[.int .i64 2, .int .i64 n, .string s, .slice (some ⟨b, o, none⟩) 2 cap] 39) = w3 := ⟨_, rfl⟩
  have hx3 : Ext w w3 := by rw [← hw3]; exact (Ext.refl _).alloc _
  have hc : w3.cell? ⟨w.heap.size, 3, none⟩ = some (.slice (some ⟨b, o, none⟩) 2 cap) := by rw [← hw3]; simp
  have hs : w3.cell? ⟨w.heap.size, 2, none⟩ = some (.string s) := by rw [← hw3]; simp
  rw [hw3]
  clear hw3
  obtain ⟨x0, x1, x2, x3, e0, e1, e2, e3, r1⟩ := hl.get4 (Hp.ext hH hx3) 0 (by simp)
  simp only [Nat.zero_mul, Nat.add_zero] at e0 e1 e2 e3
  go_wp2_with fail
  refine (Ih.out x (by simp) _ _ _ (Hp.ext hH hx3) r1).mono ?_
  rintro e w4 ⟨rfl, hx5⟩
  by_cases hx0 : (evalv x).2 = 0
  case neg =>
    have hv : evalv (.mk 2 n s [x, y]) = (0, (evalv x).2) := by rw [Hv.out, if_pos hx0]
    have Hv2 := Lib.hid hv
    have hx0' : ((evalv x).2 != 0) = true := by simpa using hx0
    clear hv hx0
    go_wp2_with fail
    go_ret2
    exact ⟨by rw [Hv2.out]; rfl, hx3.trans hx5⟩
  have hx0' : ((evalv x).2 != 0) = false := by simpa using hx0
  have hv : evalv (.mk 2 n s [x, y]) = if (evalv y).2 ≠ 0 then (0, (evalv y).2) else apply s (evalv x).1 (evalv y).1 := by rw [Hv.out, if_neg (by simp [hx0])]
  have Hv2 := Lib.hid hv
  clear hv hx0 Hv
  have hc4 := hx5.cell hc
  have hs4 := hx5.cell hs
  obtain ⟨y0, y1, y2, y3, f0, f1, f2, f3, r2⟩ := hl.get4 (Hp.ext hH (hx3.trans hx5)) 1 (by simp)
  simp only [Nat.one_mul] at f0 f1 f2 f3
  go_wp2_with fail
  refine (Ih.out y (by simp) _ _ _ (Hp.ext hH (hx3.trans hx5)) r2).mono ?_
  rintro e w6 ⟨rfl, hx7⟩
  by_cases hy0 : (evalv y).2 = 0
  case neg =>
    have hv : evalv (.mk 2 n s [x, y]) = (0, (evalv y).2) := by rw [Hv2.out, if_pos hy0]
    have Hv3 := Lib.hid hv
    have hy0' : ((evalv y).2 != 0) = true := by simpa using hy0
    clear hv hy0
    go_wp2_with fail
    go_ret2
    exact ⟨by rw [Hv3.out]; rfl, (hx3.trans hx5).trans hx7⟩
  have hy0' : ((evalv y).2 != 0) = false := by simpa using hy0
  have hv : evalv (.mk 2 n s [x, y]) = apply s (evalv x).1 (evalv y).1 := by rw [Hv2.out, if_neg (by simp [hy0])]
  have Hv3 := Lib.hid hv
  clear hv hy0 Hv2
  have hs6 := hx7.cell hs4
  go_wp2_with fail
  refine (apply_ref s _ _ _).mono ?_
  rintro e w8 ⟨rfl, rfl⟩
  go_wp2_with fail
  go_ret2
  exact ⟨by rw [Hv3.out]; rfl, (hx3.trans hx5).trans hx7⟩
end Go.CK
