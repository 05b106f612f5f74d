/-
  WALKS: constraintlaw04.two. By an AI agent.
-/
import Derived.Test.YtllcnpfdklbbbaaFoldR
namespace Go.CK
open Go.RowKit Go.Proofs

theorem bp_gen {P : Program} {fn : Func} {R : Ending → World → Prop} {x : Exit} {a : Act} {w : World} (h : ∀ wb, w = wb → bodyPost P fn R x a wb) : bodyPost P fn R x a w := h w rfl

def tTwo (op : ByteArray) (a b : Tm) : Tm := .mk 2 0 op [a, b]

theorem two_sl {H : Hp} {g : Nat} {ca cb : List Value} {a b : Tm} (hc : ∀ j v, (ca ++ cb)[j]? = some v → H g j = some v) (ra : RTm H ca a) (rb : RTm H cb b) : RTms H (some ⟨g, 0, none⟩) [a, b] := by
  have la : ca.length = 4 := by obtain ⟨c0, c1, c2, c3, rfl⟩ := ra.four; rfl
  have lb : cb.length = 4 := by obtain ⟨c0, c1, c2, c3, rfl⟩ := rb.four; rfl
  refine ⟨by simp [lim], fun i hi => ?_⟩
  match i, hi with
  | 0, _ => exact ⟨g, 0, ca, rfl, la, fun j x hx => by
      have hj : j < ca.length := (List.getElem?_eq_some_iff.1 hx).1
      have := hc j x (by rw [List.getElem?_append_left hj]; exact hx)
      simpa using this, ra⟩
  | 1, _ => exact ⟨g, 0, cb, rfl, lb, fun j x hx => by
      have := hc (4 + j) x (by rw [List.getElem?_append_right (by omega), la]; simpa using hx)
      simpa using this, rb⟩

set_option maxHeartbeats 1000000 in
theorem two_any (op : ByteArray) (a b : Tm) (ca cb : List Value) (H : Hp) (w : World) (hH : H.le (Hp.of w)) (hs : op.size ≤ lim) (ha : RTm H ca a) (hb : RTm H cb b) :
    Calls Try.prog 42 #[.string op, .agg ca.toArray, .agg cb.toArray] w (RetTm H w (tTwo op a b)) := by
  obtain ⟨pa, pc, hea, _⟩ := ha.shape
  obtain ⟨qa, qc, heb, _⟩ := hb.shape
  subst hea
  subst heb
  have Ha := Lib.hid ha
  have Hb := Lib.hid hb
  clear ha hb
  go_enter Try.func42, Try.ntmps42
  go_wp2_with fail
  refine bp_gen fun wb hwb => ?_
  have hx : Ext w wb := by rw [← hwb]; exact (by repeat first | assumption | exact Ext.refl _ | refine Ext.alloc ?_ _ | refine Ext.drew ?_ | refine Ext.trans ?_ (by assumption))
  have h8 : ∀ j v, ([.int .i64 a.kind, .int .i64 a.num, .string a.name, .slice pa a.args.length pc] ++ [.int .i64 b.kind, .int .i64 b.num, .string b.name, .slice qa b.args.length qc])[j]? = some v → (H.plus w wb) (w.heap.size + 1 + 1 + 1) j = some v := fun j v h => by
    simp only [Hp.plus]
    rw [if_pos (by omega), ← hwb, cell_alloc, if_pos (by simp)]
    simpa using h
  have hr : RTm (H.plus w wb) [.int .i64 2, .int .i64 0, .string op, .slice (some ⟨w.heap.size + 1 + 1 + 1, 0, none⟩) 2 2] (tTwo op a b) :=
    RTm.intro (l := [a, b]) (cap := 2) (by unfold IntOk; omega) (by unfold IntOk; omega) hs (by simp) (two_sl h8 (RTm.mono (Hp.le_plus hH) Ha.out) (RTm.mono (Hp.le_plus hH) Hb.out))
  exact ret_tm' (g := w.heap.size + 1 + 1) rfl rfl rfl hx (cells4 (by rw [← hwb]; first | (simp; done) | (simp [cell_alloc]; done) | (simp [cell_alloc]; omega)) (by rw [← hwb]; first | (simp; done) | (simp [cell_alloc]; done) | (simp [cell_alloc]; omega)) (by rw [← hwb]; first | (simp; done) | (simp [cell_alloc]; done) | (simp [cell_alloc]; omega)) (by rw [← hwb]; first | (simp; done) | (simp [cell_alloc]; done) | (simp [cell_alloc]; omega))) hr

/-- the same, told of the whole memory -/
def RetOf (w : World) (t : Tm) (e : Ending) (w' : World) : Prop := ∃ pa pc, e = .returned (.agg #[.int .i64 t.kind, .int .i64 t.num, .string t.name, .slice pa t.args.length pc]) ∧ RTm (Hp.of w') [.int .i64 t.kind, .int .i64 t.num, .string t.name, .slice pa t.args.length pc] t ∧ Ext w w'
theorem RetTm.of {w : World} {t : Tm} {e : Ending} {w' : World} (h : RetTm (Hp.of w) w t e w') : RetOf w t e w' := by
  obtain ⟨cs, he, hr, hx⟩ := h
  obtain ⟨pa, pc, rfl, _⟩ := hr.shape
  exact ⟨pa, pc, he, RTm.mono (Hp.plus_le (Hp.le_refl _) hx) hr, hx⟩

theorem two_of (op : ByteArray) (a b : Tm) (ca cb : List Value) (w : World) (hs : op.size ≤ lim) (ha : RTm (Hp.of w) ca a) (hb : RTm (Hp.of w) cb b) :
    Calls Try.prog 42 #[.string op, .agg ca.toArray, .agg cb.toArray] w (RetOf w (tTwo op a b)) := (two_any op a b ca cb _ w (Hp.le_refl _) hs ha hb).mono fun _ _ h => h.of
theorem fold_of (t : Tm) (c : List Value) (w : World) (ht : RTm (Hp.of w) c t) (hn : t.nodes ≤ 1000) : Calls Try.prog 35 #[.agg c.toArray] w (RetOf w (foldv t)) := (fold_any t hn c _ w (Hp.le_refl _) ht).mono fun _ _ h => h.of
theorem foldr_of (t : Tm) (c : List Value) (w : World) (ht : RTm (Hp.of w) c t) (hn : t.nodes ≤ 1000) : Calls Try.prog 37 #[.agg c.toArray] w (RetOf w (foldr t)) := (fold_ref t hn c _ w (Hp.le_refl _) ht).mono fun _ _ h => h.of

def kX : Tm := .mk 0 (-7) ⟨#[]⟩ []
def kY : Tm := .mk 0 2 ⟨#[]⟩ []
def kV : Tm := .mk 1 0 ⟨#[]⟩ []
def kZ : Tm := .mk 0 0 ⟨#[]⟩ []
theorem RTm_leaf {H : Hp} {k n : Int} (hk : IntOk k) (hn : IntOk n) : RTm H [.int .i64 k, .int .i64 n, .string ⟨#[]⟩, .slice none 0 0] (.mk k n ⟨#[]⟩ []) := RTm.intro (l := []) hk hn (by simp [lim, ByteArray.size]) (by simp) Sl.nil
theorem rX {H : Hp} : RTm H [.int .i64 0, .int .i64 (-7), .string ⟨#[]⟩, .slice none 0 0] kX := RTm_leaf (by unfold IntOk; omega) (by unfold IntOk; omega)
theorem rY {H : Hp} : RTm H [.int .i64 0, .int .i64 2, .string ⟨#[]⟩, .slice none 0 0] kY := RTm_leaf (by unfold IntOk; omega) (by unfold IntOk; omega)
theorem rV {H : Hp} : RTm H [.int .i64 1, .int .i64 0, .string ⟨#[]⟩, .slice none 0 0] kV := RTm_leaf (by unfold IntOk; omega) (by unfold IntOk; omega)
theorem rZ {H : Hp} : RTm H [.int .i64 0, .int .i64 0, .string ⟨#[]⟩, .slice none 0 0] kZ := RTm_leaf (by unfold IntOk; omega) (by unfold IntOk; omega)

theorem ev1 : evalv (tTwo ⟨#[47]⟩ kX kY) = (-4, 0) := by decide +kernel
theorem ev2 : evalv (tTwo ⟨#[37]⟩ kX kY) = (1, 0) := by decide +kernel
theorem ev3 : evalv (tTwo ⟨#[43]⟩ (tTwo ⟨#[47]⟩ kY kZ) kV) = (0, 12) := by decide +kernel
theorem ev4 : evalv (tTwo ⟨#[43]⟩ kV (tTwo ⟨#[47]⟩ kY kZ)) = (0, 17) := by decide +kernel
theorem ev5 : foldv (tTwo ⟨#[42]⟩ (tTwo ⟨#[45]⟩ kY kX) kV) = tTwo ⟨#[42]⟩ (.mk 0 9 ⟨#[]⟩ []) kV := by decide +kernel
theorem ev6 : exprv (tTwo ⟨#[43]⟩ kV kY) = true := by decide +kernel
theorem ev7 : exprv kV = false := by decide +kernel
end Go.CK
