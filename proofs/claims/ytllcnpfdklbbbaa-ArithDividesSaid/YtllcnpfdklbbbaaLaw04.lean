/-
  WALKS: the six laws of the package arith. By an AI agent.
-/
import Derived.Test.YtllcnpfdklbbbaaAwake04
namespace Go.CK
open Go.RowKit Go.Proofs

set_option maxHeartbeats 1000000 in
theorem arithApplies_walk (s : ByteArray) (a b : Int) (w : World) (hs : s.size ≤ lim) (ha : IntOk a) (hb : IntOk b) :
    Calls Try.prog 6 #[.string s, .int .i64 a, .int .i64 b] w fun e w' => e = .returned (.bool true) ∧ Ext w w' := by
  by_cases h1 : 100 < s.size
  · go_enter Try.func6, Try.ntmps6
    go_wp2_with fail
    refine (awake04 _).mono ?_
    rintro e w9 ⟨rfl, hx9⟩
    go_wp2_with fail
    go_ret
    exact ⟨rfl, (by repeat first | assumption | exact Ext.refl _ | refine Ext.alloc ?_ _ | refine Ext.drew ?_ | refine Ext.trans ?_ (by assumption))⟩
  · go_enter Try.func6, Try.ntmps6
    go_wp2_with fail
    refine (apply_any s a b _ ha hb).mono ?_
    rintro e w1 ⟨rfl, hx1⟩
    go_wp2_with fail
    refine (apply_ref s a b _).mono ?_
    rintro e w2 ⟨rfl, rfl⟩
    have e1 : ((apply s a b).1 == (apply s a b).1) = true := by simp
    have e2 : ((apply s a b).2 == (apply s a b).2) = true := by simp
    go_wp2_with fail
    refine (awake04 _).mono ?_
    rintro e w9 ⟨rfl, hx9⟩
    go_wp2_with fail
    go_ret
    exact ⟨rfl, (by repeat first | assumption | exact Ext.refl _ | refine Ext.alloc ?_ _ | refine Ext.drew ?_ | refine Ext.trans ?_ (by assumption))⟩

set_option maxHeartbeats 1000000 in
theorem arithEvals_walk (t : Tm) (c : List Value) (H : Hp) (w : World) (hH : H.le (Hp.of w)) (ht : RTm H c t) :
    Calls Try.prog 8 #[.agg c.toArray] w fun e w' => e = .returned (.bool true) ∧ Ext w w' := by
  have ht0 := ht
  obtain ⟨pa, pc, rfl, _⟩ := ht.shape
  have Ht := Lib.hid ht0
  clear ht ht0
  cases hsm : small t with
  | false =>
    have Hs := Lib.hid hsm; clear hsm
    go_enter Try.func8, Try.ntmps8
    go_wp2_with fail
    refine (small_any t _ H _ (Hp.ext hH (by repeat first | assumption | exact Ext.refl _ | refine Ext.alloc ?_ _ | refine Ext.drew ?_ | refine Ext.trans ?_ (by assumption))) Ht.out).mono ?_
    rintro e w1 ⟨rfl, hx1⟩
    rw [Hs.out]
    go_wp2_with fail
    refine (awake04 _).mono ?_
    rintro e w9 ⟨rfl, hx9⟩
    go_wp2_with fail
    go_ret
    exact ⟨rfl, (by repeat first | assumption | exact Ext.refl _ | refine Ext.alloc ?_ _ | refine Ext.drew ?_ | refine Ext.trans ?_ (by assumption))⟩
  | true =>
    have Hs := Lib.hid hsm; clear hsm
    go_enter Try.func8, Try.ntmps8
    go_wp2_with fail
    refine Calls.gen fun wb hwb => ?_
    have hxb : Ext w wb := by rw [← hwb]; exact (by repeat first | assumption | exact Ext.refl _ | refine Ext.alloc ?_ _ | refine Ext.drew ?_ | refine Ext.trans ?_ (by assumption))
    have c0 : wb.cell? ⟨w.heap.size, 0, none⟩ = some (.int .i64 t.kind) := by rw [← hwb]; first | (simp; done) | (simp [cell_alloc]; done) | (simp [cell_alloc]; omega)
    have c1 : wb.cell? ⟨w.heap.size, 1, none⟩ = some (.int .i64 t.num) := by rw [← hwb]; first | (simp; done) | (simp [cell_alloc]; done) | (simp [cell_alloc]; omega)
    have c2 : wb.cell? ⟨w.heap.size, 2, none⟩ = some (.string t.name) := by rw [← hwb]; first | (simp; done) | (simp [cell_alloc]; done) | (simp [cell_alloc]; omega)
    have c3 : wb.cell? ⟨w.heap.size, 3, none⟩ = some (.slice pa t.args.length pc) := by rw [← hwb]; first | (simp; done) | (simp [cell_alloc]; done) | (simp [cell_alloc]; omega)
    clear hwb
    refine (small_any t _ H _ (Hp.ext hH hxb) Ht.out).mono ?_
    rintro e w1 ⟨rfl, hx1⟩
    rw [Hs.out]
    replace c0 := hx1.cell c0
    replace c1 := hx1.cell c1
    replace c2 := hx1.cell c2
    replace c3 := hx1.cell c3
    go_wp2_with fail
    refine (eval_any t _ H _ (Hp.ext hH (hxb.trans hx1)) Ht.out).mono ?_
    rintro e w2 ⟨rfl, hx2⟩
    replace c0 := hx2.cell c0
    replace c1 := hx2.cell c1
    replace c2 := hx2.cell c2
    replace c3 := hx2.cell c3
    go_wp2_with fail
    refine (eval_ref t _ H _ (Hp.ext hH ((hxb.trans hx1).trans hx2)) Ht.out).mono ?_
    rintro e w3 ⟨rfl, hx3⟩
    replace c0 := hx3.cell c0
    replace c1 := hx3.cell c1
    replace c2 := hx3.cell c2
    replace c3 := hx3.cell c3
    have hx03 : Ext w w3 := (by repeat first | assumption | exact Ext.refl _ | refine Ext.alloc ?_ _ | refine Ext.drew ?_ | refine Ext.trans ?_ (by assumption))
    have e1 : ((evalv t).1 == (evalv t).1) = true := by simp
    have e2 : ((evalv t).2 == (evalv t).2) = true := by simp
    have e3 : (exprv t == exprv t) = true := by simp
    go_wp2_with fail
    go_region_held3 (fun w' => w'.cell? ⟨w.heap.size, 0, none⟩ = some (.int .i64 t.kind) ∧ w'.cell? ⟨w.heap.size, 1, none⟩ = some (.int .i64 t.num) ∧ w'.cell? ⟨w.heap.size, 2, none⟩ = some (.string t.name) ∧ w'.cell? ⟨w.heap.size, 3, none⟩ = some (.slice pa t.args.length pc)) (first | exact ⟨hx6.cell (hx5.cell (hx4.cell c0)), hx6.cell (hx5.cell (hx4.cell c1)), hx6.cell (hx5.cell (hx4.cell c2)), hx6.cell (hx5.cell (hx4.cell c3))⟩ | exact ⟨hx5.cell (hx4.cell c0), hx5.cell (hx4.cell c1), hx5.cell (hx4.cell c2), hx5.cell (hx4.cell c3)⟩ | exact ⟨hx4.cell c0, hx4.cell c1, hx4.cell c2, hx4.cell c3⟩ | go_keep) (first | (go_at_call 33; refine (expr_any t _ H _ (Hp.ext hH (hx03.drew)) Ht.out).mono ?_; rintro e w4 ⟨rfl, hx4⟩) | (go_at_call 34; refine (expr_ref t _ H _ (Hp.ext hH ((hx03.drew).trans hx4)) Ht.out).mono ?_; rintro e w5 ⟨rfl, hx5⟩) | (go_at_call 28; refine (awake04 _).mono ?_; rintro e w6 ⟨rfl, hx6⟩))
    go_wp2_with fail
    go_ret
    exact ⟨rfl, (by repeat first | assumption | exact Ext.refl _ | refine Ext.alloc ?_ _ | refine Ext.drew ?_ | refine Ext.trans ?_ (by assumption))⟩
end Go.CK
