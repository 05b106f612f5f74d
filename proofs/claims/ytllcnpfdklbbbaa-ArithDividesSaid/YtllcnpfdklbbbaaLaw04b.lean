/-
  WALKS: further laws of the package arith. By an AI agent.
-/
import Derived.Test.YtllcnpfdklbbbaaLaw04
namespace Go.CK
open Go.RowKit Go.Proofs

set_option maxHeartbeats 1000000 in
theorem arithDivides_walk (a b : Int) (w : World) (ha : IntOk a) (hb : IntOk b) :
    Calls Try.prog 7 #[.int .i64 a, .int .i64 b] w fun e w' => e = .returned (.bool true) ∧ Ext w w' := by
  have Ha := Lib.hid ha
  have Hb := Lib.hid hb
  clear ha hb
  by_cases h : (apply cDiv a b).2 = 0 ∧ (apply cMod a b).2 = 0
  · obtain ⟨ia, ib, hz, hq, hr⟩ := divides a b h.1 h.2
    have hd := fdiv_rem a b hz
    have ia := inR_iff.1 ia
    have ib := inR_iff.1 ib
    have fb := fdiv_bound hz ia.1 ia.2
    have mb := mul_bound fb.1 fb.2 ib.1 ib.2
    obtain ⟨q, eq⟩ : ∃ q, a.fdiv b = q := ⟨_, rfl⟩
    obtain ⟨r, er⟩ : ∃ r, a - a.fdiv b * b = r := ⟨_, rfl⟩
    rw [er] at hd hr
    rw [eq] at hq er fb mb
    have HQ := Lib.hid (show apply cDiv a b = (q, 0) from Prod.ext hq h.1)
    have HR := Lib.hid (show apply cMod a b = (r, 0) from Prod.ext hr h.2)
    have t1 : (q * b + r == a) = true := by simp; omega
    have ia1 := ia.1
    have ia2 := ia.2
    have ib1 := ib.1
    have ib2 := ib.2
    have mb1 := mb.1
    have mb2 := mb.2
    clear h hq hr eq ia ib mb fb
    rcases hd with ⟨b1, r1, r2⟩ | ⟨b1, r1, r2⟩
    · by_cases r0 : r = 0
      · clear r1
        go_enter Try.func7, Try.ntmps7
        go_wp2_with fail
        refine (apply_any cDiv a b _ Ha.out Hb.out).mono ?_
        rintro e w1 ⟨rfl, hx1⟩
        rw [HQ.out]
        go_wp2_with fail
        refine (apply_any cMod a b _ Ha.out Hb.out).mono ?_
        rintro e w2 ⟨rfl, hx2⟩
        rw [HR.out]
        go_wp2_with fail
        refine (awake04 _).mono ?_
        rintro e w9 ⟨rfl, hx9⟩
        go_wp2_with fail
        go_ret
        exact ⟨rfl, (by repeat first | assumption | exact Ext.refl _ | refine Ext.alloc ?_ _ | refine Ext.drew ?_ | refine Ext.trans ?_ (by assumption))⟩
      · go_enter Try.func7, Try.ntmps7
        go_wp2_with fail
        refine (apply_any cDiv a b _ Ha.out Hb.out).mono ?_
        rintro e w1 ⟨rfl, hx1⟩
        rw [HQ.out]
        go_wp2_with fail
        refine (apply_any cMod a b _ Ha.out Hb.out).mono ?_
        rintro e w2 ⟨rfl, hx2⟩
        rw [HR.out]
        go_wp2_with fail
        refine (awake04 _).mono ?_
        rintro e w9 ⟨rfl, hx9⟩
        go_wp2_with fail
        go_ret
        exact ⟨rfl, (by repeat first | assumption | exact Ext.refl _ | refine Ext.alloc ?_ _ | refine Ext.drew ?_ | refine Ext.trans ?_ (by assumption))⟩
    · by_cases r0 : r = 0
      · clear r1
        go_enter Try.func7, Try.ntmps7
        go_wp2_with fail
        refine (apply_any cDiv a b _ Ha.out Hb.out).mono ?_
        rintro e w1 ⟨rfl, hx1⟩
        rw [HQ.out]
        go_wp2_with fail
        refine (apply_any cMod a b _ Ha.out Hb.out).mono ?_
        rintro e w2 ⟨rfl, hx2⟩
        rw [HR.out]
        go_wp2_with fail
        refine (awake04 _).mono ?_
        rintro e w9 ⟨rfl, hx9⟩
        go_wp2_with fail
        go_ret
        exact ⟨rfl, (by repeat first | assumption | exact Ext.refl _ | refine Ext.alloc ?_ _ | refine Ext.drew ?_ | refine Ext.trans ?_ (by assumption))⟩
      · go_enter Try.func7, Try.ntmps7
        go_wp2_with fail
        refine (apply_any cDiv a b _ Ha.out Hb.out).mono ?_
        rintro e w1 ⟨rfl, hx1⟩
        rw [HQ.out]
        go_wp2_with fail
        refine (apply_any cMod a b _ Ha.out Hb.out).mono ?_
        rintro e w2 ⟨rfl, hx2⟩
        rw [HR.out]
        go_wp2_with fail
        refine (awake04 _).mono ?_
        rintro e w9 ⟨rfl, hx9⟩
        go_wp2_with fail
        go_ret
        exact ⟨rfl, (by repeat first | assumption | exact Ext.refl _ | refine Ext.alloc ?_ _ | refine Ext.drew ?_ | refine Ext.trans ?_ (by assumption))⟩
  · obtain ⟨q, qe, eq⟩ : ∃ q qe, apply cDiv a b = (q, qe) := ⟨_, _, rfl⟩
    obtain ⟨r, re, er⟩ : ∃ r re, apply cMod a b = (r, re) := ⟨_, _, rfl⟩
    have fq : qe ≠ 0 → q = 0 := fun x => by have := apply_fst (s := cDiv) (a := a) (b := b) (by rw [eq]; exact x); rw [eq] at this; exact this
    have fr : re ≠ 0 → r = 0 := fun x => by have := apply_fst (s := cMod) (a := a) (b := b) (by rw [er]; exact x); rw [er] at this; exact this
    rw [eq, er] at h
    have HQ := Lib.hid eq
    have HR := Lib.hid er
    clear eq er
    by_cases hq : qe = 0
    · have hr : re ≠ 0 := fun x => h ⟨hq, x⟩
      have hr0 := fr hr
      subst hq; subst hr0
      have n1 : (re != 0) = true := by simpa using hr
      have n2 : (re == 0) = false := by simpa using hr
      clear h fq fr hr
      go_enter Try.func7, Try.ntmps7
      go_wp2_with fail
      refine (apply_any cDiv a b _ Ha.out Hb.out).mono ?_
      rintro e w1 ⟨rfl, hx1⟩
      rw [HQ.out]
      go_wp2_with fail
      refine (apply_any cMod a b _ Ha.out Hb.out).mono ?_
      rintro e w2 ⟨rfl, hx2⟩
      rw [HR.out]
      go_wp2_with fail
      all_goals (go_ret; exact ⟨rfl, (by repeat first | assumption | exact Ext.refl _ | refine Ext.alloc ?_ _ | refine Ext.drew ?_ | refine Ext.trans ?_ (by assumption))⟩)
    · have hq0 := fq hq
      subst hq0
      have n1 : (qe != 0) = true := by simpa using hq
      have n2 : (qe == 0) = false := by simpa using hq
      by_cases hr : re = 0
      · subst hr
        clear h fq fr hq
        go_enter Try.func7, Try.ntmps7
        go_wp2_with fail
        refine (apply_any cDiv a b _ Ha.out Hb.out).mono ?_
        rintro e w1 ⟨rfl, hx1⟩
        rw [HQ.out]
        go_wp2_with fail
        refine (apply_any cMod a b _ Ha.out Hb.out).mono ?_
        rintro e w2 ⟨rfl, hx2⟩
        rw [HR.out]
        go_wp2_with fail
        all_goals (go_ret; exact ⟨rfl, (by repeat first | assumption | exact Ext.refl _ | refine Ext.alloc ?_ _ | refine Ext.drew ?_ | refine Ext.trans ?_ (by assumption))⟩)
      · have hr0 := fr hr
        subst hr0
        have n3 : (re != 0) = true := by simpa using hr
        have n4 : (re == 0) = false := by simpa using hr
        clear h fq fr hq hr
        go_enter Try.func7, Try.ntmps7
        go_wp2_with fail
        refine (apply_any cDiv a b _ Ha.out Hb.out).mono ?_
        rintro e w1 ⟨rfl, hx1⟩
        rw [HQ.out]
        go_wp2_with fail
        refine (apply_any cMod a b _ Ha.out Hb.out).mono ?_
        rintro e w2 ⟨rfl, hx2⟩
        rw [HR.out]
        go_wp2_with fail
        all_goals (go_ret; exact ⟨rfl, (by repeat first | assumption | exact Ext.refl _ | refine Ext.alloc ?_ _ | refine Ext.drew ?_ | refine Ext.trans ?_ (by assumption))⟩)

set_option maxHeartbeats 1000000 in
theorem arithClosed_walk (t : Tm) (c : List Value) (H : Hp) (w : World) (hH : H.le (Hp.of w)) (ht : RTm H c t) :
    Calls Try.prog 11 #[.agg c.toArray] w fun e w' => e = .returned (.bool true) ∧ Ext w w' := by
  have ht0 := ht
  obtain ⟨pa, pc, rfl, _⟩ := ht.shape
  have Ht := Lib.hid ht0
  have Hc := Lib.hid (closed_all t)
  have Hf := Lib.hid (evalv_fst t)
  clear ht ht0
  cases hsm : small t with
  | false =>
    have Hs := Lib.hid hsm; clear hsm
    go_enter Try.func11, Try.ntmps11
    go_wp2_with fail
    refine (small_any t _ H _ (Hp.ext hH (by repeat first | assumption | exact Ext.refl _ | refine Ext.alloc ?_ _ | refine Ext.drew ?_ | refine Ext.trans ?_ (by assumption))) Ht.out).mono ?_
    rintro e w1 ⟨rfl, hx1⟩
    rw [Hs.out]
    go_wp2_with fail
    refine (awake04 _).mono ?_
    rintro e w9 ⟨rfl, hx9⟩
    go_wp2_with fail
    go_ret
    exact ⟨rfl, (by repeat first | assumption | exact Ext.refl _ | refine Ext.alloc ?_ _ | refine Ext.drew ?_ | refine Ext.trans ?_ (by assumption))⟩
  | true =>
    have Hs := Lib.hid hsm; clear hsm
    cases hex : exprv t with
    | false =>
      have He := Lib.hid hex; clear hex
      go_enter Try.func11, Try.ntmps11
      go_wp2_with fail
      refine Calls.gen fun wb hwb => ?_
      have hxb : Ext w wb := by rw [← hwb]; exact (by repeat first | assumption | exact Ext.refl _ | refine Ext.alloc ?_ _ | refine Ext.drew ?_ | refine Ext.trans ?_ (by assumption))
      have c0 : wb.cell? ⟨w.heap.size, 0, none⟩ = some (.int .i64 t.kind) := by rw [← hwb]; first | (simp; done) | (simp [cell_alloc]; done) | (simp [cell_alloc]; omega)
      have c1 : wb.cell? ⟨w.heap.size, 1, none⟩ = some (.int .i64 t.num) := by rw [← hwb]; first | (simp; done) | (simp [cell_alloc]; done) | (simp [cell_alloc]; omega)
      have c2 : wb.cell? ⟨w.heap.size, 2, none⟩ = some (.string t.name) := by rw [← hwb]; first | (simp; done) | (simp [cell_alloc]; done) | (simp [cell_alloc]; omega)
      have c3 : wb.cell? ⟨w.heap.size, 3, none⟩ = some (.slice pa t.args.length pc) := by rw [← hwb]; first | (simp; done) | (simp [cell_alloc]; done) | (simp [cell_alloc]; omega)
      clear hwb
      refine (small_any t _ H _ (Hp.ext hH hxb) Ht.out).mono ?_
      rintro e w1 ⟨rfl, hx1⟩
      rw [Hs.out]
      replace c0 := hx1.cell c0
      replace c1 := hx1.cell c1
      replace c2 := hx1.cell c2
      replace c3 := hx1.cell c3
      go_wp2_with fail
      refine (expr_any t _ H _ (Hp.ext hH (hxb.trans hx1)) Ht.out).mono ?_
      rintro e w2 ⟨rfl, hx2⟩
      rw [He.out]
      go_wp2_with fail
      refine (awake04 _).mono ?_
      rintro e w9 ⟨rfl, hx9⟩
      go_wp2_with fail
      go_ret
      exact ⟨rfl, (by repeat first | assumption | exact Ext.refl _ | refine Ext.alloc ?_ _ | refine Ext.drew ?_ | refine Ext.trans ?_ (by assumption))⟩
    | true =>
      have He := Lib.hid hex; clear hex
      obtain ⟨n, m, hev⟩ : ∃ n m, evalv t = (n, m) := ⟨_, _, rfl⟩
      have hok := (closed_all t).2 (.inr He.out)
      have hvar := (closed_all t).1
      have hfst := evalv_fst t
      rw [hev] at hok hvar hfst
      have Hev := Lib.hid hev
      clear hev Hc Hf
      by_cases h17 : m = 17
      · have hv := hvar h17
        have hn := hfst (by simp only; omega)
        simp only at hn
        subst h17; subst hn
        have Hv := Lib.hid hv
        clear hok hvar hfst hv
        go_enter Try.func11, Try.ntmps11
        go_wp2_with fail
        refine Calls.gen fun wb hwb => ?_
        have hxb : Ext w wb := by rw [← hwb]; exact (by repeat first | assumption | exact Ext.refl _ | refine Ext.alloc ?_ _ | refine Ext.drew ?_ | refine Ext.trans ?_ (by assumption))
        have c0 : wb.cell? ⟨w.heap.size, 0, none⟩ = some (.int .i64 t.kind) := by rw [← hwb]; first | (simp; done) | (simp [cell_alloc]; done) | (simp [cell_alloc]; omega)
        have c1 : wb.cell? ⟨w.heap.size, 1, none⟩ = some (.int .i64 t.num) := by rw [← hwb]; first | (simp; done) | (simp [cell_alloc]; done) | (simp [cell_alloc]; omega)
        have c2 : wb.cell? ⟨w.heap.size, 2, none⟩ = some (.string t.name) := by rw [← hwb]; first | (simp; done) | (simp [cell_alloc]; done) | (simp [cell_alloc]; omega)
        have c3 : wb.cell? ⟨w.heap.size, 3, none⟩ = some (.slice pa t.args.length pc) := by rw [← hwb]; first | (simp; done) | (simp [cell_alloc]; done) | (simp [cell_alloc]; omega)
        clear hwb
        refine (small_any t _ H _ (Hp.ext hH hxb) Ht.out).mono ?_
        rintro e w1 ⟨rfl, hx1⟩
        rw [Hs.out]
        replace c0 := hx1.cell c0
        replace c1 := hx1.cell c1
        replace c2 := hx1.cell c2
        replace c3 := hx1.cell c3
        go_wp2_with fail
        refine (expr_any t _ H _ (Hp.ext hH (hxb.trans hx1)) Ht.out).mono ?_
        rintro e w2 ⟨rfl, hx2⟩
        rw [He.out]
        replace c0 := hx2.cell c0
        replace c1 := hx2.cell c1
        replace c2 := hx2.cell c2
        replace c3 := hx2.cell c3
        go_wp2_with fail
        refine (eval_any t _ H _ (Hp.ext hH ((hxb.trans hx1).trans hx2)) Ht.out).mono ?_
        rintro e w3 ⟨rfl, hx3⟩
        rw [Hev.out]
        replace c0 := hx3.cell c0
        replace c1 := hx3.cell c1
        replace c2 := hx3.cell c2
        replace c3 := hx3.cell c3
        go_wp2_with fail
        refine (variable_any t _ H _ (Hp.ext hH (by repeat first | assumption | exact Ext.refl _ | refine Ext.alloc ?_ _ | refine Ext.drew ?_ | refine Ext.trans ?_ (by assumption))) Ht.out).mono ?_
        rintro e w4 ⟨rfl, hx4⟩
        rw [Hv.out]
        go_wp2_with fail
        refine (awake04 _).mono ?_
        rintro e w9 ⟨rfl, hx9⟩
        go_wp2_with fail
        go_ret
        exact ⟨rfl, (by repeat first | assumption | exact Ext.refl _ | refine Ext.alloc ?_ _ | refine Ext.drew ?_ | refine Ext.trans ?_ (by assumption))⟩
      · have hn : m = 0 ∨ ((m = 5 ∨ m = 12) ∧ n = 0) := by
          rcases hok with e | e | e | e
          · exact .inl e
          · exact .inr ⟨.inl e, hfst (by simp only at e ⊢; omega)⟩
          · exact .inr ⟨.inr e, hfst (by simp only at e ⊢; omega)⟩
          · exact absurd e h17
        clear hok hvar hfst h17
        rcases hn with rfl | ⟨rfl | rfl, rfl⟩
        all_goals
          go_enter Try.func11, Try.ntmps11
          go_wp2_with fail
          refine Calls.gen fun wb hwb => ?_
          have hxb : Ext w wb := by rw [← hwb]; exact (by repeat first | assumption | exact Ext.refl _ | refine Ext.alloc ?_ _ | refine Ext.drew ?_ | refine Ext.trans ?_ (by assumption))
          have c0 : wb.cell? ⟨w.heap.size, 0, none⟩ = some (.int .i64 t.kind) := by rw [← hwb]; first | (simp; done) | (simp [cell_alloc]; done) | (simp [cell_alloc]; omega)
          have c1 : wb.cell? ⟨w.heap.size, 1, none⟩ = some (.int .i64 t.num) := by rw [← hwb]; first | (simp; done) | (simp [cell_alloc]; done) | (simp [cell_alloc]; omega)
          have c2 : wb.cell? ⟨w.heap.size, 2, none⟩ = some (.string t.name) := by rw [← hwb]; first | (simp; done) | (simp [cell_alloc]; done) | (simp [cell_alloc]; omega)
          have c3 : wb.cell? ⟨w.heap.size, 3, none⟩ = some (.slice pa t.args.length pc) := by rw [← hwb]; first | (simp; done) | (simp [cell_alloc]; done) | (simp [cell_alloc]; omega)
          clear hwb
          refine (small_any t _ H _ (Hp.ext hH hxb) Ht.out).mono ?_
          rintro e w1 ⟨rfl, hx1⟩
          rw [Hs.out]
          replace c0 := hx1.cell c0
          replace c1 := hx1.cell c1
          replace c2 := hx1.cell c2
          replace c3 := hx1.cell c3
          go_wp2_with fail
          refine (expr_any t _ H _ (Hp.ext hH (hxb.trans hx1)) Ht.out).mono ?_
          rintro e w2 ⟨rfl, hx2⟩
          rw [He.out]
          replace c0 := hx2.cell c0
          replace c1 := hx2.cell c1
          replace c2 := hx2.cell c2
          replace c3 := hx2.cell c3
          go_wp2_with fail
          refine (eval_any t _ H _ (Hp.ext hH ((hxb.trans hx1).trans hx2)) Ht.out).mono ?_
          rintro e w3 ⟨rfl, hx3⟩
          rw [Hev.out]
          replace c0 := hx3.cell c0
          replace c1 := hx3.cell c1
          replace c2 := hx3.cell c2
          replace c3 := hx3.cell c3
          go_wp2_with fail
          refine (awake04 _).mono ?_
          rintro e w9 ⟨rfl, hx9⟩
          go_wp2_with fail
          go_ret
          exact ⟨rfl, (by repeat first | assumption | exact Ext.refl _ | refine Ext.alloc ?_ _ | refine Ext.drew ?_ | refine Ext.trans ?_ (by assumption))⟩

set_option maxHeartbeats 1000000 in
theorem arithValues_walk (t : Tm) (c : List Value) (H : Hp) (w : World) (hH : H.le (Hp.of w)) (ht : RTm H c t) :
    Calls Try.prog 10 #[.agg c.toArray] w fun e w' => e = .returned (.bool true) ∧ Ext w w' := by
  have ht := ht.mono hH
  clear hH
  have ht0 := ht
  obtain ⟨pa, pc, rfl, _⟩ := ht.shape
  have Ht := Lib.hid ht0
  clear ht ht0
  cases hsm : small t with
  | false =>
    have Hs := Lib.hid hsm; clear hsm
    go_enter Try.func10, Try.ntmps10
    go_wp2_with fail
    refine (small_any t _ _ _ (Hp.of_ext (by repeat first | assumption | exact Ext.refl _ | refine Ext.alloc ?_ _ | refine Ext.drew ?_ | refine Ext.trans ?_ (by assumption))) Ht.out).mono ?_
    rintro e w1 ⟨rfl, hx1⟩
    rw [Hs.out]
    go_wp2_with fail
    refine (awake04 _).mono ?_
    rintro e w9 ⟨rfl, hx9⟩
    go_wp2_with fail
    go_ret
    exact ⟨rfl, (by repeat first | assumption | exact Ext.refl _ | refine Ext.alloc ?_ _ | refine Ext.drew ?_ | refine Ext.trans ?_ (by assumption))⟩
  | true =>
    have Hs := Lib.hid hsm; clear hsm
    obtain ⟨n, m, hev⟩ : ∃ n m, evalv t = (n, m) := ⟨_, _, rfl⟩
    have e0 := (fold_all t).1
    rw [hev] at e0
    have Hev := Lib.hid hev
    have Hfv := Lib.hid e0
    have hin : m = 0 → inR n = true := fun h => by have := evalv_in t (by rw [hev]; exact h); rw [hev] at this; exact this
    have hfi : m = 0 → foldv t = tInt n := fun h => by have := (fold_all t).2.1 (by rw [hev]; exact h); rw [hev] at this; exact this
    have Hin := Lib.hid hin
    have Hfi := Lib.hid hfi
    have e1 : (m == m) = true := by simp
    have e2 : (n == n) = true := by simp
    clear e0 hev hin hfi
    by_cases hm : m = 0
    · subst hm
      clear e1
      go_enter Try.func10, Try.ntmps10
      go_wp2_with fail
      refine Calls.gen fun wb hwb => ?_
      have hxb : Ext w wb := by rw [← hwb]; exact (by repeat first | assumption | exact Ext.refl _ | refine Ext.alloc ?_ _ | refine Ext.drew ?_ | refine Ext.trans ?_ (by assumption))
      have c0 : wb.cell? ⟨w.heap.size, 0, none⟩ = some (.int .i64 t.kind) := by rw [← hwb]; first | (simp; done) | (simp [cell_alloc]; done) | (simp [cell_alloc]; omega)
      have c1 : wb.cell? ⟨w.heap.size, 1, none⟩ = some (.int .i64 t.num) := by rw [← hwb]; first | (simp; done) | (simp [cell_alloc]; done) | (simp [cell_alloc]; omega)
      have c2 : wb.cell? ⟨w.heap.size, 2, none⟩ = some (.string t.name) := by rw [← hwb]; first | (simp; done) | (simp [cell_alloc]; done) | (simp [cell_alloc]; omega)
      have c3 : wb.cell? ⟨w.heap.size, 3, none⟩ = some (.slice pa t.args.length pc) := by rw [← hwb]; first | (simp; done) | (simp [cell_alloc]; done) | (simp [cell_alloc]; omega)
      clear hwb
      refine (small_any t _ _ _ (Hp.of_ext hxb) Ht.out).mono ?_
      rintro e w1 ⟨rfl, hx1⟩
      rw [Hs.out]
      replace c0 := hx1.cell c0
      replace c1 := hx1.cell c1
      replace c2 := hx1.cell c2
      replace c3 := hx1.cell c3
      go_wp2_with fail
      refine (eval_any t _ _ _ (Hp.of_ext (hxb.trans hx1)) Ht.out).mono ?_
      rintro e w2 ⟨rfl, hx2⟩
      rw [Hev.out]
      replace c0 := hx2.cell c0
      replace c1 := hx2.cell c1
      replace c2 := hx2.cell c2
      replace c3 := hx2.cell c3
      go_wp2_with fail
      refine (fold_of t _ _ (Ht.out.mono (Hp.of_ext ((hxb.trans hx1).trans hx2))) (small_nodes Hs.out)).mono ?_
      rintro e w3 ⟨qa, qc, rfl, hr, hx3⟩
      go_wp2_with fail
      refine Calls.gen fun wd hwd => ?_
      have hxd : Ext w3 wd := by rw [← hwd]; exact (by repeat first | assumption | exact Ext.refl _ | refine Ext.alloc ?_ _ | refine Ext.drew ?_ | refine Ext.trans ?_ (by assumption))
      have f0 : wd.cell? ⟨w3.heap.size, 0, none⟩ = some (.int .i64 (foldv t).kind) := by rw [← hwd]; first | (simp; done) | (simp [cell_alloc]; done) | (simp [cell_alloc]; omega)
      have f1 : wd.cell? ⟨w3.heap.size, 1, none⟩ = some (.int .i64 (foldv t).num) := by rw [← hwd]; first | (simp; done) | (simp [cell_alloc]; done) | (simp [cell_alloc]; omega)
      have f2 : wd.cell? ⟨w3.heap.size, 2, none⟩ = some (.string (foldv t).name) := by rw [← hwd]; first | (simp; done) | (simp [cell_alloc]; done) | (simp [cell_alloc]; omega)
      have f3 : wd.cell? ⟨w3.heap.size, 3, none⟩ = some (.slice qa (foldv t).args.length qc) := by rw [← hwd]; first | (simp; done) | (simp [cell_alloc]; done) | (simp [cell_alloc]; omega)
      clear hwd
      have Hr := Lib.hid hr
      clear hr
      refine (eval_any _ _ _ _ (Hp.of_ext hxd) Hr.out).mono ?_
      rintro e w4 ⟨rfl, hx4⟩
      rw [Hfv.out]
      replace f0 := hx4.cell f0
      replace f1 := hx4.cell f1
      replace f2 := hx4.cell f2
      replace f3 := hx4.cell f3
      go_wp2_with fail
      have hin := inR_iff.1 (Hin.out trivial)
      have hn : IntOk n := by unfold IntOk; omega
      refine (same_any (foldv t) (tInt n) _ _ (Hp.of w4) _ (Hp.le_refl _) (Hr.out.mono (Hp.of_ext (hxd.trans hx4))) (RTm_tInt hn)).mono ?_
      rintro e w5 ⟨rfl, hx5⟩
      rw [decide_eq_true (Hfi.out trivial)]
      go_wp2_with fail
      refine (awake04 _).mono ?_
      rintro e w9 ⟨rfl, hx9⟩
      go_wp2_with fail
      go_ret
      exact ⟨rfl, (by repeat first | assumption | exact Ext.refl _ | refine Ext.alloc ?_ _ | refine Ext.drew ?_ | refine Ext.trans ?_ (by assumption))⟩
    · have n1 : (m != 0) = true := by simpa using hm
      have n2 : (m == 0) = false := by simpa using hm
      clear hm
      go_enter Try.func10, Try.ntmps10
      go_wp2_with fail
      refine Calls.gen fun wb hwb => ?_
      have hxb : Ext w wb := by rw [← hwb]; exact (by repeat first | assumption | exact Ext.refl _ | refine Ext.alloc ?_ _ | refine Ext.drew ?_ | refine Ext.trans ?_ (by assumption))
      have c0 : wb.cell? ⟨w.heap.size, 0, none⟩ = some (.int .i64 t.kind) := by rw [← hwb]; first | (simp; done) | (simp [cell_alloc]; done) | (simp [cell_alloc]; omega)
      have c1 : wb.cell? ⟨w.heap.size, 1, none⟩ = some (.int .i64 t.num) := by rw [← hwb]; first | (simp; done) | (simp [cell_alloc]; done) | (simp [cell_alloc]; omega)
      have c2 : wb.cell? ⟨w.heap.size, 2, none⟩ = some (.string t.name) := by rw [← hwb]; first | (simp; done) | (simp [cell_alloc]; done) | (simp [cell_alloc]; omega)
      have c3 : wb.cell? ⟨w.heap.size, 3, none⟩ = some (.slice pa t.args.length pc) := by rw [← hwb]; first | (simp; done) | (simp [cell_alloc]; done) | (simp [cell_alloc]; omega)
      clear hwb
      refine (small_any t _ _ _ (Hp.of_ext hxb) Ht.out).mono ?_
      rintro e w1 ⟨rfl, hx1⟩
      rw [Hs.out]
      replace c0 := hx1.cell c0
      replace c1 := hx1.cell c1
      replace c2 := hx1.cell c2
      replace c3 := hx1.cell c3
      go_wp2_with fail
      refine (eval_any t _ _ _ (Hp.of_ext (hxb.trans hx1)) Ht.out).mono ?_
      rintro e w2 ⟨rfl, hx2⟩
      rw [Hev.out]
      replace c0 := hx2.cell c0
      replace c1 := hx2.cell c1
      replace c2 := hx2.cell c2
      replace c3 := hx2.cell c3
      go_wp2_with fail
      refine (fold_of t _ _ (Ht.out.mono (Hp.of_ext ((hxb.trans hx1).trans hx2))) (small_nodes Hs.out)).mono ?_
      rintro e w3 ⟨qa, qc, rfl, hr, hx3⟩
      go_wp2_with fail
      refine Calls.gen fun wd hwd => ?_
      have hxd : Ext w3 wd := by rw [← hwd]; exact (by repeat first | assumption | exact Ext.refl _ | refine Ext.alloc ?_ _ | refine Ext.drew ?_ | refine Ext.trans ?_ (by assumption))
      have f0 : wd.cell? ⟨w3.heap.size, 0, none⟩ = some (.int .i64 (foldv t).kind) := by rw [← hwd]; first | (simp; done) | (simp [cell_alloc]; done) | (simp [cell_alloc]; omega)
      have f1 : wd.cell? ⟨w3.heap.size, 1, none⟩ = some (.int .i64 (foldv t).num) := by rw [← hwd]; first | (simp; done) | (simp [cell_alloc]; done) | (simp [cell_alloc]; omega)
      have f2 : wd.cell? ⟨w3.heap.size, 2, none⟩ = some (.string (foldv t).name) := by rw [← hwd]; first | (simp; done) | (simp [cell_alloc]; done) | (simp [cell_alloc]; omega)
      have f3 : wd.cell? ⟨w3.heap.size, 3, none⟩ = some (.slice qa (foldv t).args.length qc) := by rw [← hwd]; first | (simp; done) | (simp [cell_alloc]; done) | (simp [cell_alloc]; omega)
      clear hwd
      have Hr := Lib.hid hr
      clear hr
      refine (eval_any _ _ _ _ (Hp.of_ext hxd) Hr.out).mono ?_
      rintro e w4 ⟨rfl, hx4⟩
      rw [Hfv.out]
      replace f0 := hx4.cell f0
      replace f1 := hx4.cell f1
      replace f2 := hx4.cell f2
      replace f3 := hx4.cell f3
      go_wp2_with fail
      refine (awake04 _).mono ?_
      rintro e w9 ⟨rfl, hx9⟩
      go_wp2_with fail
      go_ret
      exact ⟨rfl, (by repeat first | assumption | exact Ext.refl _ | refine Ext.alloc ?_ _ | refine Ext.drew ?_ | refine Ext.trans ?_ (by assumption))⟩

structure Two (w : World) (B C : Nat) (t u : Tm) (pa qa : Option Addr) (pc qc : Nat) : Prop where
  x0 : w.cell? ⟨B, 0, none⟩ = some (.int .i64 t.kind)
  x1 : w.cell? ⟨B, 1, none⟩ = some (.int .i64 t.num)
  x2 : w.cell? ⟨B, 2, none⟩ = some (.string t.name)
  x3 : w.cell? ⟨B, 3, none⟩ = some (.slice pa t.args.length pc)
  y0 : w.cell? ⟨C, 0, none⟩ = some (.int .i64 u.kind)
  y1 : w.cell? ⟨C, 1, none⟩ = some (.int .i64 u.num)
  y2 : w.cell? ⟨C, 2, none⟩ = some (.string u.name)
  y3 : w.cell? ⟨C, 3, none⟩ = some (.slice qa u.args.length qc)
theorem Two.ext {w w' : World} {B C : Nat} {t u : Tm} {pa qa : Option Addr} {pc qc : Nat} (h : Two w B C t u pa qa pc qc) (hx : Ext w w') : Two w' B C t u pa qa pc qc :=
  ⟨hx.cell h.x0, hx.cell h.x1, hx.cell h.x2, hx.cell h.x3, hx.cell h.y0, hx.cell h.y1, hx.cell h.y2, hx.cell h.y3⟩

set_option maxHeartbeats 1000000 in
theorem arithFolds_walk (t : Tm) (c : List Value) (H : Hp) (w : World) (hH : H.le (Hp.of w)) (ht : RTm H c t) :
    Calls Try.prog 9 #[.agg c.toArray] w fun e w' => e = .returned (.bool true) ∧ Ext w w' := by
  have ht := ht.mono hH
  clear hH
  have ht0 := ht
  obtain ⟨pa, pc, rfl, _⟩ := ht.shape
  have Ht := Lib.hid ht0
  clear ht ht0
  cases hsm : small t with
  | false =>
    have Hs := Lib.hid hsm; clear hsm
    go_enter Try.func9, Try.ntmps9
    go_wp2_with fail
    refine (small_any t _ _ _ (Hp.of_ext (by repeat first | assumption | exact Ext.refl _ | refine Ext.alloc ?_ _ | refine Ext.drew ?_ | refine Ext.trans ?_ (by assumption))) Ht.out).mono ?_
    rintro e w1 ⟨rfl, hx1⟩
    rw [Hs.out]
    go_wp2_with fail
    refine (awake04 _).mono ?_
    rintro e w9 ⟨rfl, hx9⟩
    go_wp2_with fail
    go_ret
    exact ⟨rfl, (by repeat first | assumption | exact Ext.refl _ | refine Ext.alloc ?_ _ | refine Ext.drew ?_ | refine Ext.trans ?_ (by assumption))⟩
  | true =>
    have Hs := Lib.hid hsm; clear hsm
    have d1 : decide (foldv t = foldr t) = true := decide_eq_true (fold_all t).2.2.1.symm
    have d2 : decide (foldv (foldv t) = foldv t) = true := decide_eq_true (fold_all t).2.2.2
    have D1 := Lib.hid d1
    have D2 := Lib.hid d2
    clear d1 d2
    go_enter Try.func9, Try.ntmps9
    go_wp2_with fail
    refine Calls.gen fun wb hwb => ?_
    have hxb : Ext w wb := by rw [← hwb]; exact (by repeat first | assumption | exact Ext.refl _ | refine Ext.alloc ?_ _ | refine Ext.drew ?_ | refine Ext.trans ?_ (by assumption))
    have c0 : wb.cell? ⟨w.heap.size, 0, none⟩ = some (.int .i64 t.kind) := by rw [← hwb]; first | (simp; done) | (simp [cell_alloc]; done) | (simp [cell_alloc]; omega)
    have c1 : wb.cell? ⟨w.heap.size, 1, none⟩ = some (.int .i64 t.num) := by rw [← hwb]; first | (simp; done) | (simp [cell_alloc]; done) | (simp [cell_alloc]; omega)
    have c2 : wb.cell? ⟨w.heap.size, 2, none⟩ = some (.string t.name) := by rw [← hwb]; first | (simp; done) | (simp [cell_alloc]; done) | (simp [cell_alloc]; omega)
    have c3 : wb.cell? ⟨w.heap.size, 3, none⟩ = some (.slice pa t.args.length pc) := by rw [← hwb]; first | (simp; done) | (simp [cell_alloc]; done) | (simp [cell_alloc]; omega)
    clear hwb
    refine (small_any t _ _ _ (Hp.of_ext hxb) Ht.out).mono ?_
    rintro e w1 ⟨rfl, hx1⟩
    rw [Hs.out]
    replace c0 := hx1.cell c0
    replace c1 := hx1.cell c1
    replace c2 := hx1.cell c2
    replace c3 := hx1.cell c3
    go_wp2_with fail
    refine (fold_of t _ _ (Ht.out.mono (Hp.of_ext (hxb.trans hx1))) (small_nodes Hs.out)).mono ?_
    rintro e w3 ⟨qa, qc, rfl, hr, hx3⟩
    replace c0 := hx3.cell c0
    replace c1 := hx3.cell c1
    replace c2 := hx3.cell c2
    replace c3 := hx3.cell c3
    have Hr := Lib.hid hr
    clear hr
    go_wp2_with fail
    have hx13 : Ext w w3 := (hxb.trans hx1).trans hx3
    go_region_held3 (fun w' => w'.cell? ⟨w.heap.size, 0, none⟩ = some (.int .i64 t.kind) ∧ w'.cell? ⟨w.heap.size, 1, none⟩ = some (.int .i64 t.num) ∧ w'.cell? ⟨w.heap.size, 2, none⟩ = some (.string t.name) ∧ w'.cell? ⟨w.heap.size, 3, none⟩ = some (.slice pa t.args.length pc) ∧ w'.cell? ⟨w3.heap.size, 0, none⟩ = some (.int .i64 (foldv t).kind) ∧ w'.cell? ⟨w3.heap.size, 1, none⟩ = some (.int .i64 (foldv t).num) ∧ w'.cell? ⟨w3.heap.size, 2, none⟩ = some (.string (foldv t).name) ∧ w'.cell? ⟨w3.heap.size, 3, none⟩ = some (.slice qa (foldv t).args.length qc)) (first | exact ⟨T8.x0, T8.x1, T8.x2, T8.x3, T8.y0, T8.y1, T8.y2, T8.y3⟩ | exact ⟨T7.x0, T7.x1, T7.x2, T7.x3, T7.y0, T7.y1, T7.y2, T7.y3⟩ | exact ⟨T6.x0, T6.x1, T6.x2, T6.x3, T6.y0, T6.y1, T6.y2, T6.y3⟩ | exact ⟨T5.x0, T5.x1, T5.x2, T5.x3, T5.y0, T5.y1, T5.y2, T5.y3⟩ | exact ⟨T4.x0, T4.x1, T4.x2, T4.x3, T4.y0, T4.y1, T4.y2, T4.y3⟩ | go_keep) (first | (go_at_call 37; refine (foldr_of t _ _ (Ht.out.mono (Hp.of_ext (hx13.trans (by repeat first | assumption | exact Ext.refl _ | refine Ext.alloc ?_ _ | refine Ext.drew ?_ | refine Ext.trans ?_ (by assumption))))) (small_nodes Hs.out)).mono ?_; rintro e w4 ⟨sa, sc, rfl, hr4, hx4⟩; have hx34 : Ext w3 w4 := Ext.trans (by repeat first | assumption | exact Ext.refl _ | refine Ext.alloc ?_ _ | refine Ext.drew ?_ | refine Ext.trans ?_ (by assumption)) hx4; have T4 : Two w4 w.heap.size w3.heap.size t (foldv t) pa qa pc qc := ⟨hx34.cell c0, hx34.cell c1, hx34.cell c2, hx34.cell c3, hx4.cell (by first | (simp; done) | (simp [cell_alloc]; done) | (simp [cell_alloc]; omega)), hx4.cell (by first | (simp; done) | (simp [cell_alloc]; done) | (simp [cell_alloc]; omega)), hx4.cell (by first | (simp; done) | (simp [cell_alloc]; done) | (simp [cell_alloc]; omega)), hx4.cell (by first | (simp; done) | (simp [cell_alloc]; done) | (simp [cell_alloc]; omega))⟩) | (go_at_call 36; (with_reducible refine (same_any (foldv t) (foldr t) _ _ (Hp.of w4) _ (Hp.le_refl _) (Hr.out.mono (Hp.of_ext hx34)) hr4).mono ?_); rintro e w5 ⟨rfl, hx5⟩; rw [D1.out]; have T5 := T4.ext hx5) | (go_at_call 35; refine (fold_of (foldv t) _ _ (Hr.out.mono (Hp.of_ext (hx34.trans hx5))) (Nat.le_trans (foldv_nodes t) (small_nodes Hs.out))).mono ?_; rintro e w6 ⟨ua, uc, rfl, hr6, hx6⟩; have T6 := T5.ext hx6) | (go_at_call 36; (with_reducible refine (same_any (foldv (foldv t)) (foldv t) _ _ (Hp.of w6) _ (Hp.le_refl _) hr6 (Hr.out.mono (Hp.of_ext ((hx34.trans hx5).trans hx6)))).mono ?_); rintro e w7 ⟨rfl, hx7⟩; rw [D2.out]; have T7 := T6.ext hx7) | (go_at_call 28; refine (awake04 _).mono ?_; rintro e w8 ⟨rfl, hx8⟩; have T8 := T7.ext hx8))
    go_wp2_with fail
    go_ret
    exact ⟨rfl, (by repeat first | assumption | exact Ext.refl _ | refine Ext.alloc ?_ _ | refine Ext.drew ?_ | refine Ext.trans ?_ (by assumption))⟩
end Go.CK
