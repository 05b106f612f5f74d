/-
  WALKS: constraintlaw04.awake. By an AI agent.
-/
import Derived.Test.YtllcnpfdklbbbaaTwoW
import Derived.Test.YtllcnpfdklbbbaaTermW
namespace Go.CK
open Go.RowKit Go.Proofs

/-- the three terms of awake lie in three blocks -/
structure Three (w : World) (B : Nat) : Prop where
  x0 : w.cell? ⟨B, 0, none⟩ = some (.int .i64 0)
  x1 : w.cell? ⟨B, 1, none⟩ = some (.int .i64 (-7))
  x2 : w.cell? ⟨B, 2, none⟩ = some (.string ⟨#[]⟩)
  x3 : w.cell? ⟨B, 3, none⟩ = some (.slice none 0 0)
  y0 : w.cell? ⟨B + 1, 0, none⟩ = some (.int .i64 0)
  y1 : w.cell? ⟨B + 1, 1, none⟩ = some (.int .i64 2)
  y2 : w.cell? ⟨B + 1, 2, none⟩ = some (.string ⟨#[]⟩)
  y3 : w.cell? ⟨B + 1, 3, none⟩ = some (.slice none 0 0)
  v0 : w.cell? ⟨B + 1 + 1, 0, none⟩ = some (.int .i64 1)
  v1 : w.cell? ⟨B + 1 + 1, 1, none⟩ = some (.int .i64 0)
  v2 : w.cell? ⟨B + 1 + 1, 2, none⟩ = some (.string ⟨#[]⟩)
  v3 : w.cell? ⟨B + 1 + 1, 3, none⟩ = some (.slice none 0 0)

theorem Three.ext {w w' : World} {B : Nat} (h : Three w B) (hx : Ext w w') : Three w' B :=
  ⟨hx.cell h.x0, hx.cell h.x1, hx.cell h.x2, hx.cell h.x3, hx.cell h.y0, hx.cell h.y1, hx.cell h.y2, hx.cell h.y3, hx.cell h.v0, hx.cell h.v1, hx.cell h.v2, hx.cell h.v3⟩

theorem szE (b : UInt8) : (⟨#[b]⟩ : ByteArray).size ≤ lim := by simp [lim, ByteArray.size]

set_option maxHeartbeats 4000000 in
theorem awake04 (w : World) : Calls Try.prog 28 #[] w fun e w' => e = .returned (.bool true) ∧ Ext w w' := by
  go_enter Try.func28, Try.ntmps28
  go_wp2_with fail
  refine Calls.gen fun w1 hw1 => ?_
  have hx1 : Ext w w1 := by rw [← hw1]; exact (by repeat first | assumption | exact Ext.refl _ | refine Ext.alloc ?_ _ | refine Ext.drew ?_ | refine Ext.trans ?_ (by assumption))
  have T1 : Three w1 w.heap.size := by
    rw [← hw1]
    exact ⟨by first | (simp; done) | (simp [cell_alloc]; done) | (simp [cell_alloc]; omega), by first | (simp; done) | (simp [cell_alloc]; done) | (simp [cell_alloc]; omega), by first | (simp; done) | (simp [cell_alloc]; done) | (simp [cell_alloc]; omega), by first | (simp; done) | (simp [cell_alloc]; done) | (simp [cell_alloc]; omega), by first | (simp; done) | (simp [cell_alloc]; done) | (simp [cell_alloc]; omega), by first | (simp; done) | (simp [cell_alloc]; done) | (simp [cell_alloc]; omega), by first | (simp; done) | (simp [cell_alloc]; done) | (simp [cell_alloc]; omega), by first | (simp; done) | (simp [cell_alloc]; done) | (simp [cell_alloc]; omega), by first | (simp; done) | (simp [cell_alloc]; done) | (simp [cell_alloc]; omega), by first | (simp; done) | (simp [cell_alloc]; done) | (simp [cell_alloc]; omega), by first | (simp; done) | (simp [cell_alloc]; done) | (simp [cell_alloc]; omega), by first | (simp; done) | (simp [cell_alloc]; done) | (simp [cell_alloc]; omega)⟩
  clear hw1
  have x0 := (T1).x0
  have x1 := (T1).x1
  have x2 := (T1).x2
  have x3 := (T1).x3
  have y0 := (T1).y0
  have y1 := (T1).y1
  have y2 := (T1).y2
  have y3 := (T1).y3
  have v0 := (T1).v0
  have v1 := (T1).v1
  have v2 := (T1).v2
  have v3 := (T1).v3
  refine (two_of _ kX kY _ _ _ (szE _) rX rY).mono ?_
  rintro e w2 ⟨pa, pc, rfl, hr, hx2⟩
  go_wp2_with fail
  refine (eval_any _ _ _ _ (Hp.le_refl _) hr).mono ?_
  rintro e w3 ⟨rfl, hx3⟩
  rw [ev1]
  have T3 := T1.ext (hx2.trans hx3)
  clear x0 x1 x2 x3 y0 y1 y2 y3 v0 v1 v2 v3 hr
  have x0 := (T3).x0
  have x1 := (T3).x1
  have x2 := (T3).x2
  have x3 := (T3).x3
  have y0 := (T3).y0
  have y1 := (T3).y1
  have y2 := (T3).y2
  have y3 := (T3).y3
  have v0 := (T3).v0
  have v1 := (T3).v1
  have v2 := (T3).v2
  have v3 := (T3).v3
  go_wp2_with fail
  refine (two_of _ kX kY _ _ _ (szE _) rX rY).mono ?_
  rintro e w4 ⟨qa, qc, rfl, hr, hx4⟩
  go_wp2_with fail
  refine (eval_any _ _ _ _ (Hp.le_refl _) hr).mono ?_
  rintro e w5 ⟨rfl, hx5⟩
  rw [ev2]
  have T5 := T3.ext (hx4.trans hx5)
  clear x0 x1 x2 x3 y0 y1 y2 y3 v0 v1 v2 v3 hr
  have x0 := (T5).x0
  have x1 := (T5).x1
  have x2 := (T5).x2
  have x3 := (T5).x3
  have y0 := (T5).y0
  have y1 := (T5).y1
  have y2 := (T5).y2
  have y3 := (T5).y3
  have v0 := (T5).v0
  have v1 := (T5).v1
  have v2 := (T5).v2
  have v3 := (T5).v3
  have s47 := szE 47
  have s43 := szE 43
  have s42 := szE 42
  have s45 := szE 45
  go_wp2_with fail
  go_region_held3 (fun w' => w'.cell? ⟨w.heap.size + 1, 0, none⟩ = some (.int .i64 0) ∧ w'.cell? ⟨w.heap.size + 1, 1, none⟩ = some (.int .i64 2) ∧ w'.cell? ⟨w.heap.size + 1, 2, none⟩ = some (.string ⟨#[]⟩) ∧ w'.cell? ⟨w.heap.size + 1, 3, none⟩ = some (.slice none 0 0) ∧ w'.cell? ⟨w.heap.size + 1 + 1, 0, none⟩ = some (.int .i64 1) ∧ w'.cell? ⟨w.heap.size + 1 + 1, 1, none⟩ = some (.int .i64 0) ∧ w'.cell? ⟨w.heap.size + 1 + 1, 2, none⟩ = some (.string ⟨#[]⟩) ∧ w'.cell? ⟨w.heap.size + 1 + 1, 3, none⟩ = some (.slice none 0 0)) (first | exact ⟨T8.y0, T8.y1, T8.y2, T8.y3, T8.v0, T8.v1, T8.v2, T8.v3⟩ | exact ⟨T7.y0, T7.y1, T7.y2, T7.y3, T7.v0, T7.v1, T7.v2, T7.v3⟩ | exact ⟨T6.y0, T6.y1, T6.y2, T6.y3, T6.v0, T6.v1, T6.v2, T6.v3⟩ | go_keep) (first | (go_at_call 42; (with_reducible refine (two_of ⟨#[47]⟩ kY kZ _ _ _ s47 rY rZ).mono ?_); rintro e w6 ⟨ra, rc, rfl, hr6, hx6⟩; have T6 := T5.ext (((Ext.refl w5).drew).trans hx6)) | (go_at_call 42; (with_reducible refine (two_of ⟨#[43]⟩ (tTwo ⟨#[47]⟩ kY kZ) kV _ _ _ s43 hr6 rV).mono ?_); rintro e w7 ⟨sa, sc, rfl, hr7, hx7⟩; have T7 := T6.ext hx7) | (go_at_call 31; refine (eval_any _ _ _ _ (Hp.le_refl _) hr7).mono ?_; rintro e w8 ⟨rfl, hx8⟩; rw [ev3]; have T8 := T7.ext hx8))
  clear x0 x1 x2 x3 y0 y1 y2 y3 v0 v1 v2 v3
  have x0 := (T8).x0
  have x1 := (T8).x1
  have x2 := (T8).x2
  have x3 := (T8).x3
  have y0 := (T8).y0
  have y1 := (T8).y1
  have y2 := (T8).y2
  have y3 := (T8).y3
  have v0 := (T8).v0
  have v1 := (T8).v1
  have v2 := (T8).v2
  have v3 := (T8).v3
  go_wp2_with fail
  go_region_held3 (fun w' => w'.cell? ⟨w.heap.size + 1, 0, none⟩ = some (.int .i64 0) ∧ w'.cell? ⟨w.heap.size + 1, 1, none⟩ = some (.int .i64 2) ∧ w'.cell? ⟨w.heap.size + 1, 2, none⟩ = some (.string ⟨#[]⟩) ∧ w'.cell? ⟨w.heap.size + 1, 3, none⟩ = some (.slice none 0 0) ∧ w'.cell? ⟨w.heap.size + 1 + 1, 0, none⟩ = some (.int .i64 1) ∧ w'.cell? ⟨w.heap.size + 1 + 1, 1, none⟩ = some (.int .i64 0) ∧ w'.cell? ⟨w.heap.size + 1 + 1, 2, none⟩ = some (.string ⟨#[]⟩) ∧ w'.cell? ⟨w.heap.size + 1 + 1, 3, none⟩ = some (.slice none 0 0)) (first | exact ⟨T11.y0, T11.y1, T11.y2, T11.y3, T11.v0, T11.v1, T11.v2, T11.v3⟩ | exact ⟨T10.y0, T10.y1, T10.y2, T10.y3, T10.v0, T10.v1, T10.v2, T10.v3⟩ | exact ⟨T9.y0, T9.y1, T9.y2, T9.y3, T9.v0, T9.v1, T9.v2, T9.v3⟩ | go_keep) (first | (go_at_call 42; (with_reducible refine (two_of ⟨#[47]⟩ kY kZ _ _ _ s47 rY rZ).mono ?_); rintro e w9 ⟨ua, uc, rfl, hr9, hx9⟩; have T9 := T8.ext (((Ext.refl w8).drew).trans hx9)) | (go_at_call 42; (with_reducible refine (two_of ⟨#[43]⟩ kV (tTwo ⟨#[47]⟩ kY kZ) _ _ _ s43 rV hr9).mono ?_); rintro e w10 ⟨va, vc, rfl, hr10, hx10⟩; have T10 := T9.ext hx10) | (go_at_call 31; refine (eval_any _ _ _ _ (Hp.le_refl _) hr10).mono ?_; rintro e w11 ⟨rfl, hx11⟩; rw [ev4]; have T11 := T10.ext hx11))
  clear x0 x1 x2 x3 y0 y1 y2 y3 v0 v1 v2 v3
  have x0 := (T11).x0
  have x1 := (T11).x1
  have x2 := (T11).x2
  have x3 := (T11).x3
  have y0 := (T11).y0
  have y1 := (T11).y1
  have y2 := (T11).y2
  have y3 := (T11).y3
  have v0 := (T11).v0
  have v1 := (T11).v1
  have v2 := (T11).v2
  have v3 := (T11).v3
  have r9 : ∀ H : Hp, RTm H [.int .i64 0, .int .i64 9, .string ⟨#[]⟩, .slice none 0 0] (.mk 0 9 ⟨#[]⟩ []) := fun H => RTm_leaf (by unfold IntOk; omega) (by unfold IntOk; omega)
  have R9 := Lib.hid r9
  clear r9
  go_wp2_with fail
  go_region_held3 (fun w' => w'.cell? ⟨w.heap.size, 0, none⟩ = some (.int .i64 0) ∧ w'.cell? ⟨w.heap.size, 1, none⟩ = some (.int .i64 (-7)) ∧ w'.cell? ⟨w.heap.size, 2, none⟩ = some (.string ⟨#[]⟩) ∧ w'.cell? ⟨w.heap.size, 3, none⟩ = some (.slice none 0 0) ∧ w'.cell? ⟨w.heap.size + 1, 0, none⟩ = some (.int .i64 0) ∧ w'.cell? ⟨w.heap.size + 1, 1, none⟩ = some (.int .i64 2) ∧ w'.cell? ⟨w.heap.size + 1, 2, none⟩ = some (.string ⟨#[]⟩) ∧ w'.cell? ⟨w.heap.size + 1, 3, none⟩ = some (.slice none 0 0) ∧ w'.cell? ⟨w.heap.size + 1 + 1, 0, none⟩ = some (.int .i64 1) ∧ w'.cell? ⟨w.heap.size + 1 + 1, 1, none⟩ = some (.int .i64 0) ∧ w'.cell? ⟨w.heap.size + 1 + 1, 2, none⟩ = some (.string ⟨#[]⟩) ∧ w'.cell? ⟨w.heap.size + 1 + 1, 3, none⟩ = some (.slice none 0 0)) (first | exact ⟨T19.x0, T19.x1, T19.x2, T19.x3, T19.y0, T19.y1, T19.y2, T19.y3, T19.v0, T19.v1, T19.v2, T19.v3⟩ | exact ⟨T18.x0, T18.x1, T18.x2, T18.x3, T18.y0, T18.y1, T18.y2, T18.y3, T18.v0, T18.v1, T18.v2, T18.v3⟩ | exact ⟨T17.x0, T17.x1, T17.x2, T17.x3, T17.y0, T17.y1, T17.y2, T17.y3, T17.v0, T17.v1, T17.v2, T17.v3⟩ | exact ⟨T16.x0, T16.x1, T16.x2, T16.x3, T16.y0, T16.y1, T16.y2, T16.y3, T16.v0, T16.v1, T16.v2, T16.v3⟩ | exact ⟨T15.x0, T15.x1, T15.x2, T15.x3, T15.y0, T15.y1, T15.y2, T15.y3, T15.v0, T15.v1, T15.v2, T15.v3⟩ | exact ⟨T14.x0, T14.x1, T14.x2, T14.x3, T14.y0, T14.y1, T14.y2, T14.y3, T14.v0, T14.v1, T14.v2, T14.v3⟩ | exact ⟨T13.x0, T13.x1, T13.x2, T13.x3, T13.y0, T13.y1, T13.y2, T13.y3, T13.v0, T13.v1, T13.v2, T13.v3⟩ | exact ⟨T12.x0, T12.x1, T12.x2, T12.x3, T12.y0, T12.y1, T12.y2, T12.y3, T12.v0, T12.v1, T12.v2, T12.v3⟩ | go_keep) (first | (go_at_call 42; (with_reducible refine (two_of ⟨#[45]⟩ kY kX _ _ _ s45 rY rX).mono ?_); rintro e w12 ⟨ga, gc, rfl, hr12, hx12⟩; have T12 := T11.ext (((Ext.refl w11).drew).trans hx12)) | (go_at_call 42; (with_reducible refine (two_of ⟨#[42]⟩ (tTwo ⟨#[45]⟩ kY kX) kV _ _ _ s42 hr12 rV).mono ?_); rintro e w13 ⟨ha, hc, rfl, hr13, hx13⟩; have T13 := T12.ext hx13) | (go_at_call 35; refine (fold_of _ _ _ hr13 (by simp [tTwo, kV, kX, kY, Tm.nodes, Tm.nodess])).mono ?_; rintro e w14 ⟨ia, ic, rfl, hr14, hx14⟩; have T14 := T13.ext hx14) | (go_at_call 42; (with_reducible refine (two_of ⟨#[42]⟩ (.mk 0 9 ⟨#[]⟩ []) kV _ _ _ s42 (R9.out _) rV).mono ?_); rintro e w15 ⟨ja, jc, rfl, hr15, hx15⟩; have T15 := T14.ext hx15; have hr14b := RTm.mono (Hp.of_ext hx15) hr14) | (go_at_call 36; refine (same_any _ _ _ _ _ _ (Hp.le_refl _) hr14b hr15).mono ?_; rintro e w16 ⟨rfl, hx16⟩; rw [ev5, decide_eq_true rfl]; have T16 := T15.ext hx16) | (go_at_call 42; (with_reducible refine (two_of ⟨#[43]⟩ kV kY _ _ _ s43 rV rY).mono ?_); rintro e w17 ⟨la, lc, rfl, hr17, hx17⟩; have T17 := T16.ext hx17) | (go_at_call 33; (with_reducible refine (expr_any (tTwo ⟨#[43]⟩ kV kY) _ _ _ (Hp.le_refl _) hr17).mono ?_); rintro e w18 ⟨rfl, hx18⟩; rw [ev6]; have T18 := T17.ext hx18) | (go_at_call 33; (with_reducible refine (expr_any kV _ _ _ (Hp.le_refl _) rV).mono ?_); rintro e w19 ⟨rfl, hx19⟩; rw [ev7]; have T19 := T18.ext hx19))
  clear x0 x1 x2 x3 y0 y1 y2 y3 v0 v1 v2 v3
  go_wp2_with fail
  go_ret
  exact ⟨rfl, (by repeat first | assumption | exact Ext.refl _ | refine Ext.alloc ?_ _ | refine Ext.drew ?_ | refine Ext.trans ?_ (by assumption))⟩
end Go.CK
