/-
  WALKS: arith.Expr and its reference, constraintlaw04.variable. By an AI agent.
-/
import Derived.Test.YtllcnpfdklbbbaaEvalW
import Derived.Test.YtllcnpfdklbbbaaClosedM
namespace Go.CK
open Go.RowKit Go.Proofs

theorem exprv_0 {n : Int} {s : ByteArray} {l : List Tm} : exprv (.mk 0 n s l) = true := by
  by_cases h : l.length = 2
  · obtain ⟨a, b, rfl⟩ := two_of_len h
    rw [exprv]; simp
  · match l, h with
    | [], _ => simp [exprv]
    | [a], _ => simp [exprv]
    | a :: b :: c :: r, _ => simp [exprv]

theorem exprv_no {k n : Int} {s : ByteArray} {l : List Tm} (h0 : k ≠ 0) (h : opTm (.mk k n s l) = false) : exprv (.mk k n s l) = false := by
  by_cases hl : l.length = 2
  · obtain ⟨a, b, rfl⟩ := two_of_len hl
    rw [exprv, if_neg h0, if_pos]
    simp [opTm] at h
    by_cases h2 : k = 2
    · exact .inr (h h2)
    · exact .inl h2
  · match l, hl with
    | [], _ => simp [exprv, h0]
    | [a], _ => simp [exprv, h0]
    | a :: b :: c :: r, _ => simp [exprv, h0]

def argOk (t : Tm) : Bool := decide (t.kind = 1) || exprv t

theorem exprv_yes {n : Int} {s : ByteArray} {l : List Tm} (h : opTm (.mk 2 n s l) = true) : exprv (.mk 2 n s l) = l.all argOk := by
  simp only [opTm, Bool.and_eq_true, decide_eq_true_eq] at h
  obtain ⟨a, b, rfl⟩ := two_of_len h.2.1
  rw [exprv, if_neg (by simp), if_neg (by simp [h.2.2])]
  simp [argOk]

set_option maxHeartbeats 1000000 in
theorem expr_any (t : Tm) : ∀ (c : List Value) (H : Hp) (w : World), H.le (Hp.of w) → RTm H c t →
    Calls Try.prog 33 #[.agg c.toArray] w fun e w' => e = .returned (.bool (exprv t)) ∧ Ext w w' := by
  induction t using Tm.ind_all with
  | h k n s l ih =>
  intro c H w hH ht
  have hop := fun w => operator_any (.mk k n s l) c H w ht
  obtain ⟨a, cap, rfl, ik, im, is, ic, hl⟩ := ht.inv
  have hle : l.length ≤ 9223372036854775807 := hl.le
  have Ih := Lib.hid ih
  have Hop := Lib.hid hop
  clear ih ht hop
  by_cases h0 : k = 0
  · subst h0
    have hv : exprv (.mk 0 n s l) = true := exprv_0
    have Hv := Lib.hid hv; clear hv
    go_enter Try.func33, Try.ntmps33
    go_wp2_with fail
    go_ret
    exact ⟨by rw [Hv.out]; rfl, (by repeat first | assumption | exact Ext.refl _ | refine Ext.alloc ?_ _ | refine Ext.drew ?_ | refine Ext.trans ?_ (by assumption))⟩
  have h0' : (k == 0) = false := by simpa using h0
  cases ho : opTm (.mk k n s l) with
  | false =>
    have hv := exprv_no h0 ho
    have Hv := Lib.hid hv
    have Ho := Lib.hid ho
    clear hv h0 ho
    go_enter Try.func33, Try.ntmps33
    go_wp2_with fail
    refine (Hop.out _).mono ?_
    rintro e w2 ⟨rfl, hx2⟩
    rw [Ho.out]
    go_wp2_with fail
    go_ret
    exact ⟨by rw [Hv.out]; rfl, (by repeat first | assumption | exact Ext.refl _ | refine Ext.alloc ?_ _ | refine Ext.drew ?_ | refine Ext.trans ?_ (by assumption))⟩
  | true =>
    have h2 : k = 2 := by simp only [opTm, Bool.and_eq_true, decide_eq_true_eq] at ho; exact ho.1
    subst h2
    have hv := exprv_yes ho
    have Hv := Lib.hid hv
    have Ho := Lib.hid ho
    clear hv h0 ho h0'
    go_enter Try.func33, Try.ntmps33
    go_wp2_with fail
    refine (Hop.out _).mono ?_
    rintro e w2 ⟨rfl, hx2⟩
    rw [Ho.out]
    have hx0 : Ext w w2 := (by repeat first | assumption | exact Ext.refl _ | refine Ext.alloc ?_ _ | refine Ext.drew ?_ | refine Ext.trans ?_ (by assumption))
    have hc := hx2.cell (p := ⟨w.heap.size, 3, none⟩) (v := .slice a l.length cap) (by simp)
    go_wp2_with fail
    go_loopw [14] (fun i wr => ∃ j : Nat, j ≤ l.length ∧ i = .int .i64 j ∧ (l.take j).all argOk = true ∧ Ext w2 wr) (fun i _ => l.length - (intOf i).toNat)
    case atStart => exact ⟨0, by omega, rfl, by simp, Ext.refl _⟩
    case round =>
      obtain ⟨j, hj, rfl, htk, hx3⟩ := hrel
      have Ht := Lib.hid htk; clear htk
      by_cases hlt : j < l.length
      · obtain ⟨b, o, rfl⟩ := hl.addr (by omega)
        obtain ⟨x0, x1, x2, x3, e0, e1, e2, e3, r1⟩ := hl.get4 (Hp.ext hH (hx0.trans hx3)) j hlt
        have hd : l.take (j + 1) = l.take j ++ [l[j]] := List.take_succ_eq_append_getElem hlt
        have Hd := Lib.hid hd; clear hd
        have hno : argOk l[j] = false → l.all argOk = false := fun h => by rw [List.all_eq_false]; exact ⟨_, List.getElem_mem hlt, by simp [h]⟩
        have Hno := Lib.hid hno
        have hih := Ih.out _ (List.getElem_mem hlt)
        have Hih := Lib.hid hih
        clear hno hih
        rcases hq : l[j] with ⟨k1, n1, s1, l1⟩
        rw [hq] at r1 Hd Hno Hih
        obtain ⟨p, cp, he, _⟩ := r1.inv
        simp only [List.cons.injEq, and_true] at he
        obtain ⟨rfl, rfl, rfl, rfl⟩ := he
        by_cases h1 : k1 = 1
        · have hk : (k1 != 1) = false := by simpa using h1
          have hv1 : argOk (.mk k1 n1 s1 l1) = true := by simp [argOk, Tm.kind, h1]
          have Hv1 := Lib.hid hv1
          clear hq r1 h1 hv1
          go_wp2_with fail
          go_roundw
          case rel => exact ⟨j + 1, by omega, by go_num, by rw [Hd.out, List.all_append, Ht.out]; simp [Hv1.out], (by repeat first | assumption | exact Ext.refl _ | refine Ext.alloc ?_ _ | refine Ext.drew ?_ | refine Ext.trans ?_ (by assumption))⟩
          case measure => simp [intOf]; omega
        · have hk : (k1 != 1) = true := by simpa using h1
          have hv1 : argOk (.mk k1 n1 s1 l1) = exprv (.mk k1 n1 s1 l1) := by simp [argOk, Tm.kind, h1]
          have Hv1 := Lib.hid hv1
          clear hq h1 hv1
          cases hx : exprv (.mk k1 n1 s1 l1) with
          | true =>
            have Hx := Lib.hid hx; clear hx
            go_wp2_with fail
            refine (Hih.out _ H _ (Hp.ext hH (hx0.trans (hx3.alloc _))) r1).mono ?_
            rintro e w4 ⟨rfl, hx4⟩
            rw [Hx.out]
            go_wp2_with fail
            go_roundw
            case rel => exact ⟨j + 1, by omega, by go_num, by rw [Hd.out, List.all_append, Ht.out]; simp [Hv1.out, Hx.out], (by repeat first | assumption | exact Ext.refl _ | refine Ext.alloc ?_ _ | refine Ext.drew ?_ | refine Ext.trans ?_ (by assumption))⟩
            case measure => simp [intOf]; omega
          | false =>
            have Hx := Lib.hid hx; clear hx
            go_wp2_with fail
            refine (Hih.out _ H _ (Hp.ext hH (hx0.trans (hx3.alloc _))) r1).mono ?_
            rintro e w4 ⟨rfl, hx4⟩
            rw [Hx.out]
            go_wp2_with fail
            go_ret
            exact ⟨by rw [Hv.out, Hno.out (by rw [Hv1.out, Hx.out])]; rfl, (by repeat first | assumption | exact Ext.refl _ | refine Ext.alloc ?_ _ | refine Ext.drew ?_ | refine Ext.trans ?_ (by assumption))⟩
      · go_wp2_with fail
        go_ret
        have h := Ht.out
        rw [List.take_of_length_le (by omega)] at h
        exact ⟨by rw [Hv.out, h]; rfl, hx0.trans hx3⟩

set_option maxHeartbeats 1000000 in
theorem expr_ref (t : Tm) : ∀ (c : List Value) (H : Hp) (w : World), H.le (Hp.of w) → RTm H c t →
    Calls Try.prog 34 #[.agg c.toArray] w fun e w' => e = .returned (.bool (exprv t)) ∧ Ext w w' := by
  induction t using Tm.ind_all with
  | h k n s l ih =>
  intro c H w hH ht
  obtain ⟨a, cap, rfl, ik, im, is, ic, hl⟩ := ht.inv
  have hle : l.length ≤ 9223372036854775807 := hl.le
  have Ih := Lib.hid ih
  clear ih ht
  by_cases h0 : k = 0
  · subst h0
    have hv : exprv (.mk 0 n s l) = true := exprv_0
    have Hv := Lib.hid hv; clear hv
    go_enter Try.func34, Try.ntmps34
    go_wp2_with fail
    go_ret
    exact ⟨by rw [Hv.out]; rfl, (by repeat first | assumption | exact Ext.refl _ | refine Ext.alloc ?_ _ | refine Ext.drew ?_ | refine Ext.trans ?_ (by assumption))⟩
  have h0' : (k == 0) = false := by simpa using h0
  by_cases h2 : k = 2
  case neg =>
    have hv : exprv (.mk k n s l) = false := exprv_no h0 (by simp [opTm, h2])
    have Hv := Lib.hid hv
    have h2' : (k != 2) = true := by simpa using h2
    clear hv h0 h2
    go_enter Try.func34, Try.ntmps34
    go_wp2_with fail
    go_ret
    exact ⟨by rw [Hv.out]; rfl, (by repeat first | assumption | exact Ext.refl _ | refine Ext.alloc ?_ _ | refine Ext.drew ?_ | refine Ext.trans ?_ (by assumption))⟩
  subst h2
  cases hos : isOp s with
  | false =>
    have hv : exprv (.mk 2 n s l) = false := exprv_no h0 (by simp [opTm, hos])
    have Hv := Lib.hid hv
    have Ho := Lib.hid hos
    clear hv h0 hos
    go_enter Try.func34, Try.ntmps34
    go_wp2_with fail
    refine (operator_ref _ _).mono ?_
    rintro e w2 ⟨rfl, rfl⟩
    rw [Ho.out]
    go_wp2_with fail
    go_ret
    exact ⟨by rw [Hv.out]; rfl, (by repeat first | assumption | exact Ext.refl _ | refine Ext.alloc ?_ _ | refine Ext.drew ?_ | refine Ext.trans ?_ (by assumption))⟩
  | true =>
  by_cases hl2 : l.length = 2
  case neg =>
    have hv : exprv (.mk 2 n s l) = false := exprv_no h0 (by simp [opTm, hl2])
    have Hv := Lib.hid hv
    have Ho := Lib.hid hos
    have hl' : ((l.length : Int) != 2) = true := by rw [bne_iff_ne]; omega
    clear hv h0 hos hl2
    go_enter Try.func34, Try.ntmps34
    go_wp2_with fail
    refine (operator_ref _ _).mono ?_
    rintro e w2 ⟨rfl, rfl⟩
    rw [Ho.out]
    go_wp2_with fail
    go_ret
    exact ⟨by rw [Hv.out]; rfl, (by repeat first | assumption | exact Ext.refl _ | refine Ext.alloc ?_ _ | refine Ext.drew ?_ | refine Ext.trans ?_ (by assumption))⟩
  have hv := exprv_yes (n := n) (s := s) (l := l) (by simp [opTm, hos, hl2])
  have Hv := Lib.hid hv
  have Ho := Lib.hid hos
  have hl' : ((l.length : Int) != 2) = false := by rw [bne_eq_false_iff_eq]; omega
  have hla : l.length ≤ 2 := by omega
  have hlb : 2 ≤ l.length := by omega
  obtain ⟨b, o, rfl⟩ := hl.addr (by omega)
  clear hv h0 hos h0' hl2
  go_enter Try.func34, Try.ntmps34
  go_wp2_with fail
  refine (operator_ref _ _).mono ?_
  rintro e w2 ⟨rfl, rfl⟩
  rw [Ho.out]
  obtain ⟨w2, hw2⟩ : ∃ w2, w.alloc (.cells #[.int .i64 2, .int .i64 n, .string s, .slice (some ⟨b, o, none⟩) l.length cap] 39) = w2 := ⟨_, rfl⟩
  have hx0 : Ext w w2 := by rw [← hw2]; exact (Ext.refl _).alloc _
  have hc : w2.cell? ⟨w.heap.size, 3, none⟩ = some (.slice (some ⟨b, o, none⟩) l.length cap) := by rw [← hw2]; simp
  rw [hw2]
  clear hw2
  go_wp2_with fail
  go_loopw [3] (fun i wr => ∃ j : Nat, j ≤ 2 ∧ i = .int .i64 j ∧ (l.take j).all argOk = true ∧ Ext w2 wr) (fun i _ => 2 - (intOf i).toNat)
  case atStart => exact ⟨0, by omega, rfl, by simp, Ext.refl _⟩
  case round =>
    obtain ⟨j, hj, rfl, htk, hx3⟩ := hrel
    have Ht := Lib.hid htk; clear htk
    by_cases hl2 : j < 2
    · have hlt : j < l.length := by omega
      obtain ⟨x0, x1, x2, x3, e0, e1, e2, e3, r1⟩ := hl.get4 (Hp.ext hH (hx0.trans hx3)) j hlt
      have hc3 := hx3.cell hc
      have hd : l.take (j + 1) = l.take j ++ [l[j]] := List.take_succ_eq_append_getElem hlt
      have Hd := Lib.hid hd; clear hd
      have hno : argOk l[j] = false → l.all argOk = false := fun h => by rw [List.all_eq_false]; exact ⟨_, List.getElem_mem hlt, by simp [h]⟩
      have Hno := Lib.hid hno
      have hih := Ih.out _ (List.getElem_mem hlt)
      have Hih := Lib.hid hih
      clear hno hih
      rcases hq : l[j] with ⟨k1, n1, s1, l1⟩
      rw [hq] at r1 Hd Hno Hih
      obtain ⟨p, cp, he, _⟩ := r1.inv
      simp only [List.cons.injEq, and_true] at he
      obtain ⟨rfl, rfl, rfl, rfl⟩ := he
      by_cases h1 : k1 = 1
      · have hk : (k1 != 1) = false := by simpa using h1
        have hv1 : argOk (.mk k1 n1 s1 l1) = true := by simp [argOk, Tm.kind, h1]
        have Hv1 := Lib.hid hv1
        clear hq r1 h1 hv1
        go_wp2_with fail
        go_roundw
        case rel => exact ⟨j + 1, by omega, by go_num, by rw [Hd.out, List.all_append, Ht.out]; simp [Hv1.out], (by repeat first | assumption | exact Ext.refl _ | refine Ext.alloc ?_ _ | refine Ext.drew ?_ | refine Ext.trans ?_ (by assumption))⟩
        case measure => simp [intOf]; omega
      · have hk : (k1 != 1) = true := by simpa using h1
        have hv1 : argOk (.mk k1 n1 s1 l1) = exprv (.mk k1 n1 s1 l1) := by simp [argOk, Tm.kind, h1]
        have Hv1 := Lib.hid hv1
        clear hq h1 hv1
        cases hx : exprv (.mk k1 n1 s1 l1) with
        | true =>
          have Hx := Lib.hid hx; clear hx
          go_wp2_with fail
          refine (Hih.out _ H _ (Hp.ext hH (hx0.trans hx3)) r1).mono ?_
          rintro e w4 ⟨rfl, hx4⟩
          rw [Hx.out]
          go_wp2_with fail
          go_roundw
          case rel => exact ⟨j + 1, by omega, by go_num, by rw [Hd.out, List.all_append, Ht.out]; simp [Hv1.out, Hx.out], (by repeat first | assumption | exact Ext.refl _ | refine Ext.alloc ?_ _ | refine Ext.drew ?_ | refine Ext.trans ?_ (by assumption))⟩
          case measure => simp [intOf]; omega
        | false =>
          have Hx := Lib.hid hx; clear hx
          go_wp2_with fail
          refine (Hih.out _ H _ (Hp.ext hH (hx0.trans hx3)) r1).mono ?_
          rintro e w4 ⟨rfl, hx4⟩
          rw [Hx.out]
          go_wp2_with fail
          go_ret
          exact ⟨by rw [Hv.out, Hno.out (by rw [Hv1.out, Hx.out])]; rfl, (by repeat first | assumption | exact Ext.refl _ | refine Ext.alloc ?_ _ | refine Ext.drew ?_ | refine Ext.trans ?_ (by assumption))⟩
    · go_wp2_with fail
      go_ret
      have h := Ht.out
      rw [List.take_of_length_le (by omega)] at h
      exact ⟨by rw [Hv.out, h]; rfl, hx0.trans hx3⟩

set_option maxHeartbeats 1000000 in
theorem variable_any (t : Tm) : ∀ (c : List Value) (H : Hp) (w : World), H.le (Hp.of w) → RTm H c t →
    Calls Try.prog 38 #[.agg c.toArray] w fun e w' => e = .returned (.bool (varv t)) ∧ Ext w w' := by
  induction t using Tm.ind_all with
  | h k n s l ih =>
  intro c H w hH ht
  obtain ⟨a, cap, rfl, ik, im, is, ic, hl⟩ := ht.inv
  have hle : l.length ≤ 9223372036854775807 := hl.le
  have Ih := Lib.hid ih
  clear ih ht
  by_cases h1 : k = 1
  · have hv : varv (.mk k n s l) = true := by simp [varv, h1]
    have Hv := Lib.hid hv
    have h1' : (k == 1) = true := by simpa using h1
    clear hv h1
    go_enter Try.func38, Try.ntmps38
    go_wp2_with fail
    go_ret
    exact ⟨by rw [Hv.out]; rfl, (by repeat first | assumption | exact Ext.refl _ | refine Ext.alloc ?_ _ | refine Ext.drew ?_ | refine Ext.trans ?_ (by assumption))⟩
  have h1' : (k == 1) = false := by simpa using h1
  have hv : varv (.mk k n s l) = l.any varv := by simp [varv, h1, varvs_any]
  have Hv := Lib.hid hv
  clear hv h1
  go_enter Try.func38, Try.ntmps38
  go_wp2_with fail
  go_loopw [10] (fun i wr => ∃ j : Nat, j ≤ l.length ∧ i = .int .i64 j ∧ (l.take j).any varv = false ∧ Ext w wr ∧ w.heap.size < wr.heap.size ∧ wr.cell? ⟨w.heap.size, 3, none⟩ = some (.slice a l.length cap)) (fun i _ => l.length - (intOf i).toNat)
  case atStart => exact ⟨0, by omega, rfl, by simp, (by repeat first | assumption | exact Ext.refl _ | refine Ext.alloc ?_ _ | refine Ext.drew ?_ | refine Ext.trans ?_ (by assumption)), by simp, by simp⟩
  case round =>
    obtain ⟨j, hj, rfl, htk, hx3, hsz, hc⟩ := hrel
    have Ht := Lib.hid htk; clear htk
    by_cases hlt : j < l.length
    · obtain ⟨b, o, rfl⟩ := hl.addr (by omega)
      obtain ⟨x0, x1, x2, x3, e0, e1, e2, e3, r1⟩ := hl.get4 (Hp.ext hH hx3) j hlt
      have hd : l.take (j + 1) = l.take j ++ [l[j]] := List.take_succ_eq_append_getElem hlt
      have Hd := Lib.hid hd; clear hd
      cases hx : varv l[j] with
      | true =>
        have Hx := Lib.hid hx; clear hx
        go_wp2_with fail
        refine (Ih.out _ (List.getElem_mem hlt) _ H _ (Hp.ext hH hx3) r1).mono ?_
        rintro e w4 ⟨rfl, hx4⟩
        rw [Hx.out]
        go_wp2_with fail
        go_ret
        refine ⟨?_, (by repeat first | assumption | exact Ext.refl _ | refine Ext.alloc ?_ _ | refine Ext.drew ?_ | refine Ext.trans ?_ (by assumption))⟩
        rw [Hv.out, show l.any varv = true from by rw [List.any_eq_true]; exact ⟨_, List.getElem_mem hlt, Hx.out⟩]; rfl
      | false =>
        have Hx := Lib.hid hx; clear hx
        go_wp2_with fail
        refine (Ih.out _ (List.getElem_mem hlt) _ H _ (Hp.ext hH hx3) r1).mono ?_
        rintro e w4 ⟨rfl, hx4⟩
        rw [Hx.out]
        go_wp2_with fail
        go_roundw
        case rel => exact ⟨j + 1, by omega, by go_num, by rw [Hd.out, List.any_append, Ht.out]; simp [Hx.out], hx3.trans hx4, by have := hx4.size; omega, hx4.cell hc⟩
        case measure => simp [intOf]; omega
    · go_wp2_with fail
      go_ret
      have h := Ht.out
      rw [List.take_of_length_le (by omega)] at h
      exact ⟨by rw [Hv.out, h]; rfl, hx3⟩
end Go.CK
