/-
  WALKS: arith.Fold and its reference, term.Int. By an AI agent.
-/
import Derived.Test.YtllcnpfdklbbbaaExprW
import Derived.Laws.ResultCell
import Derived.Deep.RegionHeld3
namespace Go.CK
open Go.RowKit Go.Proofs

/-- a term is handed back -/
def RetTm (H : Hp) (w : World) (t : Tm) (e : Ending) (w' : World) : Prop := ∃ cs, e = .returned (.agg cs.toArray) ∧ RTm (H.plus w w') cs t ∧ Ext w w'

theorem Hp.plus_setCs {H : Hp} {w wb w2 : World} {g o : Nat} {cs : List Value} (hH : H.le (Hp.of w)) (h1 : Ext w wb) (hg : g < wb.heap.size) : (H.plus wb w2).le (H.plus w (setCs w2 g o cs)) := fun b p u x => by
  have := h1.size
  simp only [Hp.plus] at x ⊢
  split at x
  · rw [if_pos (by omega), setCs_out cs o w2 b p (by omega)]; exact x
  · have := Hp.lt hH x
    rw [if_neg (by omega)]; exact x

/-- a term that a function hands back out of its result's cells -/
theorem ret_tm {fn : Func} {p : Tmp} (h : fn.results = #[.cell p 39]) {a : Act} (hd : a.defers = []) {H : Hp} {w wb w2 : World} {g : Nat} {cs : List Value} {t : Tm} (hp : a.tmps.getD p undef = .pointer (some ⟨g, 0, none⟩))
    (hH : H.le (Hp.of w)) (h1 : Ext w wb) (hx : Ext wb w2) (hg0 : w.heap.size ≤ g) (hg : g < wb.heap.size) (hs : ∀ j, j < 4 → (wb.cell? ⟨g, j, none⟩).isSome = true) (hr : RTm (H.plus wb w2) cs t) :
    bodyPost Try.prog fn (RetTm H w t) .ret a (setCs w2 g 0 cs) := by
  have hl : cs.length = 4 := by obtain ⟨c0, c1, c2, c3, rfl⟩ := hr.four; rfl
  have hs2 : ∀ j, j < cs.length → (w2.cell? ⟨g, 0 + j, none⟩).isSome = true := fun j hj => by
    have := hs j (by omega)
    rw [Nat.zero_add]
    obtain ⟨u, hu⟩ := Option.isSome_iff_exists.1 this
    rw [hx.cell hu]; rfl
  refine bodyPost_ret (v := .agg cs.toArray) (results_cells h a.tmps _ g cs _ hp (fun j v hv => by have := setCs_in cs 0 w2 hs2 j v hv; rwa [Nat.zero_add] at this) Try.underlying39 rfl (by rw [hl]; kernel_rfl)) hd ⟨cs, rfl, RTm.mono (Hp.plus_setCs hH h1 hg) hr, setCs_ext hg0 cs 0 w2 (h1.trans hx)⟩

theorem Own.gen {α : Type} {H : Hp} {w0 w : World} {e : TypeId} {sz : Nat} {R : Hp → List Value → α → Prop} {v : Value} {l : List α} (h : Own H w0 w e sz R v l) : ∃ wb, w0 = wb ∧ Own H wb w e sz R v l := ⟨_, rfl, h⟩

theorem fill_set {α : Type} {l m : List α} {z x : α} {j n : Nat} (hl : l.length = j) (hj : j < n) (hm : m = l ++ [x]) : (l ++ List.replicate (n - j) z).set j x = m ++ List.replicate (n - (j + 1)) z := by
  subst hl
  subst hm
  rw [List.set_append_right _ _ (Nat.le_refl _), Nat.sub_self, show n - l.length = (n - (l.length + 1)) + 1 from by omega, List.replicate_succ, List.set_cons_zero]
  simp

def tZero : Tm := .mk 0 0 ⟨#[]⟩ []
theorem RTm_zero (H : Hp) : RTm H [.int .i64 0, .int .i64 0, .string ⟨#[]⟩, .slice none 0 0] tZero :=
  RTm.intro (l := []) (by unfold IntOk; omega) (by unfold IntOk; omega) (by simp [lim, ByteArray.size]) (by simp) Sl.nil

theorem RTm_tInt {H : Hp} {n : Int} (hn : IntOk n) : RTm H [.int .i64 0, .int .i64 n, .string ⟨#[]⟩, .slice none 0 0] (tInt n) :=
  RTm.intro (l := []) (by unfold IntOk; omega) hn (by simp [lim, ByteArray.size]) (by simp) Sl.nil

set_option maxHeartbeats 400000 in
theorem tInt_any (n : Int) (H : Hp) (w : World) (hn : IntOk n) :
    Calls Try.prog 49 #[.int .i64 n] w (RetTm H w (tInt n)) := by
  go_enter Try.func49, Try.ntmps49
  go_wp2_with fail
  refine bodyPost_ret (v := .agg #[.int .i64 0, .int .i64 n, .string ⟨#[]⟩, .slice none 0 0]) (by simp [results, Try.results49, go_sem]) rfl ⟨_, rfl, RTm_tInt hn, ?_⟩
  exact ((Ext.refl _).alloc _)


theorem cells4 {w : World} {g : Nat} {c0 c1 c2 c3 : Value} (h0 : w.cell? ⟨g, 0, none⟩ = some c0) (h1 : w.cell? ⟨g, 1, none⟩ = some c1) (h2 : w.cell? ⟨g, 2, none⟩ = some c2) (h3 : w.cell? ⟨g, 3, none⟩ = some c3) :
    ∀ j v, [c0, c1, c2, c3][j]? = some v → w.cell? ⟨g, j, none⟩ = some v := by
  intro j v hv
  match j, hv with
  | 0, hv => simp at hv; subst hv; exact h0
  | 1, hv => simp at hv; subst hv; exact h1
  | 2, hv => simp at hv; subst hv; exact h2
  | 3, hv => simp at hv; subst hv; exact h3

theorem ret_tm' {fn : Func} {p : Tmp} (h : fn.results = #[.cell p 39]) {a : Act} (hd : a.defers = []) {H : Hp} {w w2 : World} {g : Nat} {cs : List Value} {t : Tm} (hp : a.tmps.getD p undef = .pointer (some ⟨g, 0, none⟩))
    (hx : Ext w w2) (hc : ∀ j v, cs[j]? = some v → w2.cell? ⟨g, j, none⟩ = some v) (hr : RTm (H.plus w w2) cs t) :
    bodyPost Try.prog fn (RetTm H w t) .ret a w2 := by
  have hl : cs.length = 4 := by obtain ⟨c0, c1, c2, c3, rfl⟩ := hr.four; rfl
  exact bodyPost_ret (v := .agg cs.toArray) (results_cells h a.tmps _ g cs _ hp hc Try.underlying39 rfl (by rw [hl]; kernel_rfl)) hd ⟨cs, rfl, hr, hx⟩

theorem Hp.none {H : Hp} {w : World} (hH : H.le (Hp.of w)) {g : Nat} (hg : w.heap.size ≤ g) (o : Nat) : H g o = none := by
  cases hq : H g o with
  | none => rfl
  | some v => exact absurd (Hp.lt hH hq) (by omega)

/-- the same, what is handed back being known apart from the result's own cells -/
theorem ret_tmG {fn : Func} {p : Tmp} (h : fn.results = #[.cell p 39]) {a : Act} (hd : a.defers = []) {H Hr : Hp} {w w2 : World} {g : Nat} {cs : List Value} {t : Tm} (hp : a.tmps.getD p undef = .pointer (some ⟨g, 0, none⟩))
    (hx : Ext w w2) (hg0 : w.heap.size ≤ g) (hs : ∀ j, j < 4 → (w2.cell? ⟨g, j, none⟩).isSome = true) (hr : RTm Hr cs t) (hle : Hr.le (H.plus w w2)) (hno : ∀ o, Hr g o = Option.none) :
    bodyPost Try.prog fn (RetTm H w t) .ret a (setCs w2 g 0 cs) := by
  have hl : cs.length = 4 := by obtain ⟨c0, c1, c2, c3, rfl⟩ := hr.four; rfl
  have hs2 : ∀ j, j < cs.length → (w2.cell? ⟨g, 0 + j, none⟩).isSome = true := fun j hj => by rw [Nat.zero_add]; exact hs j (by omega)
  refine bodyPost_ret (v := .agg cs.toArray) (results_cells h a.tmps _ g cs _ hp (fun j v hv => by have := setCs_in cs 0 w2 hs2 j v hv; rwa [Nat.zero_add] at this) Try.underlying39 rfl (by rw [hl]; kernel_rfl)) hd ⟨cs, rfl, RTm.mono (fun b o u x => ?_) hr, setCs_ext hg0 cs 0 w2 hx⟩
  have h1 := hle _ _ _ x
  simp only [Hp.plus] at h1 ⊢
  split at h1
  · rename_i hb
    rw [if_pos hb, setCs_out cs 0 w2 b o (.inl (fun e => by subst e; rw [hno] at x; cases x))]; exact h1
  · rename_i hb; rw [if_neg hb]; exact h1

/-- a store into a block that was there before wb -/
theorem Hp.plus_set {H : Hp} {wb w : World} {b : Nat} (hb : b < wb.heap.size) (o : Nat) (v : Value) : (H.plus wb w).le (H.plus wb (w.setCell ⟨b, o, Option.none⟩ v)) := fun b' o' u x => by
  simp only [Hp.plus] at x ⊢
  split at x
  · rename_i h; rw [if_pos h, cell_set, if_neg (by rintro ⟨rfl, _⟩; omega)]; exact x
  · rename_i h; rw [if_neg h]; exact x

theorem Hp.plus_base {H : Hp} {w wb w3 : World} (hH : H.le (Hp.of w)) (h : Ext w wb) : (H.plus wb w3).le (H.plus w w3) := fun b o u x => by
  have := h.size
  simp only [Hp.plus] at x ⊢
  split at x
  · rw [if_pos (by omega)]; exact x
  · have := Hp.lt hH x
    rw [if_neg (by omega)]; exact x

/-- what a callee has handed back, seen from further out -/
theorem plus_step {H K : Hp} {w w3 w6 w8 : World} (h : H.le (K.plus w w3)) (h3 : Ext w w3) (h6 : Ext w3 w6) (h8 : Ext w6 w8) : (H.plus w6 w8).le (K.plus w w8) := fun b o u x => by
  have := h3.size; have := h6.size
  simp only [Hp.plus] at x
  split at x
  · simp only [Hp.plus]; rw [if_pos (by omega)]; exact x
  · exact Hp.plus_mono (h6.trans h8) _ _ _ (h _ _ _ x)

theorem isSome4 {w : World} {g : Nat} {c0 c1 c2 c3 : Value} (h0 : w.cell? ⟨g, 0, Option.none⟩ = some c0) (h1 : w.cell? ⟨g, 1, Option.none⟩ = some c1) (h2 : w.cell? ⟨g, 2, Option.none⟩ = some c2) (h3 : w.cell? ⟨g, 3, Option.none⟩ = some c3) :
    ∀ j, j < 4 → (w.cell? ⟨g, j, Option.none⟩).isSome = true := fun j hj => by
  match j, hj with
  | 0, _ => rw [h0]; rfl
  | 1, _ => rw [h1]; rfl
  | 2, _ => rw [h2]; rfl
  | 3, _ => rw [h3]; rfl

theorem foldTop_no {n : Int} {s : ByteArray} {l : List Tm} (h : opTm (.mk 2 n s l) = false) : foldTop n s l = .mk 2 n s l := by
  by_cases hl : l.length = 2
  · obtain ⟨a, b, rfl⟩ := two_of_len hl
    rw [foldTop, if_neg]
    rintro ⟨h1, _⟩
    simp [opTm, h1] at h
  · exact foldTop_len hl

theorem infoTm : (Try.prog.info? 39).map (fun i => (i.zero, i.size, i.bytes)) = some (some (.agg #[.int .i64 0, .int .i64 0, .string ⟨#[]⟩, .slice none 0 0]), 4, 56) := by kernel_rfl

theorem foldv_kind {k n : Int} {s : ByteArray} {l : List Tm} (h2 : k ≠ 2) (h : ¬ (k = 0 ∧ inR n = true)) : foldv (.mk k n s l) = .mk k n s l := by
  rw [foldv, if_neg h, if_pos h2]

mutual
theorem foldv_nodes : ∀ t : Tm, (foldv t).nodes ≤ t.nodes
  | .mk k n s l => by
    have h := foldvs_nodes l
    rw [foldv]
    split
    · simp [tInt, Tm.nodes, Tm.nodess]
    · split
      · exact Nat.le_refl _
      · unfold foldTop
        split
        · split
          · simp [tInt, Tm.nodes, Tm.nodess]
          · rename_i e _; rw [← e]; simp only [Tm.nodes]; omega
        · simp only [Tm.nodes]; omega
theorem foldvs_nodes : ∀ l : List Tm, Tm.nodess (foldvs l) ≤ Tm.nodess l
  | [] => by simp [foldvs]
  | a :: l => by
    have h1 := foldv_nodes a
    have h2 := foldvs_nodes l
    simp only [foldvs, Tm.nodess]; omega
end

set_option maxHeartbeats 2000000 in
theorem fold_any (t : Tm) : t.nodes ≤ 1000 → ∀ (c : List Value) (H : Hp) (w : World), H.le (Hp.of w) → RTm H c t →
    Calls Try.prog 35 #[.agg c.toArray] w (RetTm H w (foldv t)) := by
  induction t using Tm.ind_all with
  | h k n s l ih =>
  intro hnd c H w hH ht
  have Hlg : Hid (l.length ≤ glim) := Lib.hid (by have := Tm.nodess_len l; simp only [Tm.nodes] at hnd; unfold glim; omega)
  replace ih := fun x (hx : x ∈ l) => ih x hx (by have := Tm.nodes_mem hx; simp only [Tm.nodes] at hnd; omega)
  clear hnd
  have ht0 := ht
  obtain ⟨a, cap, rfl, ik, im, is, ic, hl⟩ := ht.inv
  have hle : l.length ≤ 9223372036854775807 := hl.le
  have Ih := Lib.hid ih
  have Ht0 := Lib.hid ht0
  clear ih ht ht0
  by_cases h0 : k = 0
  · subst h0
    cases hin : inR n with
    | true =>
      have hv : foldv (.mk 0 n s l) = tInt n := by rw [foldv, if_pos ⟨rfl, hin⟩]
      have Hin := Lib.hid hin
      rw [hv]
      clear hv hin
      go_enter Try.func35, Try.ntmps35
      go_wp2_with fail
      refine Calls.gen fun wb hwb => ?_
      have hx1 : Ext w wb := by rw [← hwb]; exact (by repeat first | assumption | exact Ext.refl _ | refine Ext.alloc ?_ _ | refine Ext.drew ?_ | refine Ext.trans ?_ (by assumption))
      have hz1 : w.heap.size + 2 < wb.heap.size := by rw [← hwb]; simp
      have k1 : wb.cell? ⟨w.heap.size, 1, none⟩ = some (.int .i64 n) := by rw [← hwb]; first | (simp; done) | (simp [cell_alloc]; done) | (simp [cell_alloc]; omega)
      have k2 : wb.cell? ⟨w.heap.size + 1 + 1, 0, none⟩ = some (.int .i64 n) := by rw [← hwb]; first | (simp; done) | (simp [cell_alloc]; done) | (simp [cell_alloc]; omega)
      have q0 : wb.cell? ⟨w.heap.size + 1, 0, none⟩ = some (.int .i64 0) := by rw [← hwb]; first | (simp; done) | (simp [cell_alloc]; done) | (simp [cell_alloc]; omega)
      have q1 : wb.cell? ⟨w.heap.size + 1, 1, none⟩ = some (.int .i64 0) := by rw [← hwb]; first | (simp; done) | (simp [cell_alloc]; done) | (simp [cell_alloc]; omega)
      have q2 : wb.cell? ⟨w.heap.size + 1, 2, none⟩ = some (.string ⟨#[]⟩) := by rw [← hwb]; first | (simp; done) | (simp [cell_alloc]; done) | (simp [cell_alloc]; omega)
      have q3 : wb.cell? ⟨w.heap.size + 1, 3, none⟩ = some (.slice none 0 0) := by rw [← hwb]; first | (simp; done) | (simp [cell_alloc]; done) | (simp [cell_alloc]; omega)
      have g0 : ∀ j, wb.frozen? ⟨w.heap.size + 1, j, none⟩ = false := by intro j; rw [← hwb]; first | (simp; done) | (simp [frozen_alloc]; done) | (simp [frozen_alloc]; omega)
      have hs4 : ∀ j, j < 4 → (wb.cell? ⟨w.heap.size + 1, j, none⟩).isSome = true := fun j hj => by
        match j, hj with
        | 0, _ => rw [q0]; rfl
        | 1, _ => rw [q1]; rfl
        | 2, _ => rw [q2]; rfl
        | 3, _ => rw [q3]; rfl
      have Hs4 := Lib.hid hs4
      clear hs4
      clear hwb
      refine (inRange_any [n] _ 1 (Hp.of _) _ (Hp.le_refl _) (ints_one im k2)).mono ?_
      rintro e w2 ⟨rfl, rfl⟩
      rw [show [n].all inR = true from by simp [Hin.out]]
      go_wp2_with fail
      refine (tInt_any n H _ im).mono ?_
      rintro e w2 ⟨cs, rfl, hr, hx2⟩
      obtain ⟨pa, pc, rfl, _⟩ := hr.shape
      replace q0 := hx2.cell q0
      replace q1 := hx2.cell q1
      replace q2 := hx2.cell q2
      replace q3 := hx2.cell q3
      have g1 : ∀ j, w2.frozen? ⟨w.heap.size + 1, j, none⟩ = false := fun j => by rw [hx2.frozen (by simp; omega)]; exact g0 j
      go_wp2_with fail
      exact ret_tm (g := w.heap.size + 1) (wb := wb) (w2 := w2) (cs := [_, _, _, _]) rfl rfl rfl hH hx1 hx2 (by omega) (by omega) Hs4.out hr
    | false =>
      have hv : foldv (.mk 0 n s l) = .mk 0 n s l := foldv_kind (by simp) (by simp [hin])
      have Hin := Lib.hid hin
      rw [hv]
      clear hv hin
      go_enter Try.func35, Try.ntmps35
      go_wp2_with fail
      refine Calls.gen fun wb hwb => ?_
      have hx1 : Ext w wb := by rw [← hwb]; exact (by repeat first | assumption | exact Ext.refl _ | refine Ext.alloc ?_ _ | refine Ext.drew ?_ | refine Ext.trans ?_ (by assumption))
      have hz1 : w.heap.size + 2 < wb.heap.size := by rw [← hwb]; simp
      have b0 : wb.cell? ⟨w.heap.size, 0, none⟩ = some (.int .i64 0) := by rw [← hwb]; first | (simp; done) | (simp [cell_alloc]; done) | (simp [cell_alloc]; omega)
      have b1 : wb.cell? ⟨w.heap.size, 1, none⟩ = some (.int .i64 n) := by rw [← hwb]; first | (simp; done) | (simp [cell_alloc]; done) | (simp [cell_alloc]; omega)
      have b2 : wb.cell? ⟨w.heap.size, 2, none⟩ = some (.string s) := by rw [← hwb]; first | (simp; done) | (simp [cell_alloc]; done) | (simp [cell_alloc]; omega)
      have b3 : wb.cell? ⟨w.heap.size, 3, none⟩ = some (.slice a l.length cap) := by rw [← hwb]; first | (simp; done) | (simp [cell_alloc]; done) | (simp [cell_alloc]; omega)
      have k2 : wb.cell? ⟨w.heap.size + 1 + 1, 0, none⟩ = some (.int .i64 n) := by rw [← hwb]; first | (simp; done) | (simp [cell_alloc]; done) | (simp [cell_alloc]; omega)
      have q0 : wb.cell? ⟨w.heap.size + 1, 0, none⟩ = some (.int .i64 0) := by rw [← hwb]; first | (simp; done) | (simp [cell_alloc]; done) | (simp [cell_alloc]; omega)
      have q1 : wb.cell? ⟨w.heap.size + 1, 1, none⟩ = some (.int .i64 0) := by rw [← hwb]; first | (simp; done) | (simp [cell_alloc]; done) | (simp [cell_alloc]; omega)
      have q2 : wb.cell? ⟨w.heap.size + 1, 2, none⟩ = some (.string ⟨#[]⟩) := by rw [← hwb]; first | (simp; done) | (simp [cell_alloc]; done) | (simp [cell_alloc]; omega)
      have q3 : wb.cell? ⟨w.heap.size + 1, 3, none⟩ = some (.slice none 0 0) := by rw [← hwb]; first | (simp; done) | (simp [cell_alloc]; done) | (simp [cell_alloc]; omega)
      have g0 : ∀ j, wb.frozen? ⟨w.heap.size + 1, j, none⟩ = false := by intro j; rw [← hwb]; first | (simp; done) | (simp [frozen_alloc]; done) | (simp [frozen_alloc]; omega)
      have hs4 : ∀ j, j < 4 → (wb.cell? ⟨w.heap.size + 1, j, none⟩).isSome = true := fun j hj => by
        match j, hj with
        | 0, _ => rw [q0]; rfl
        | 1, _ => rw [q1]; rfl
        | 2, _ => rw [q2]; rfl
        | 3, _ => rw [q3]; rfl
      have Hs4 := Lib.hid hs4
      clear hs4
      clear hwb
      refine (inRange_any [n] _ 1 (Hp.of _) _ (Hp.le_refl _) (ints_one im k2)).mono ?_
      rintro e w2 ⟨rfl, rfl⟩
      rw [show [n].all inR = false from by simp [Hin.out]]
      go_wp2_with fail
      exact ret_tm (g := w.heap.size + 1) (wb := wb) (w2 := wb) (cs := [_, _, _, _]) rfl rfl rfl hH hx1 (Ext.refl _) (by omega) (by omega) Hs4.out (RTm.mono (Hp.le_plus (Hp.ext hH hx1)) Ht0.out)
  have h0' : (k == 0) = false := by simpa using h0
  by_cases h2 : k = 2
  case neg =>
    have hv : foldv (.mk k n s l) = .mk k n s l := foldv_kind h2 (fun e => h0 e.1)
    have h2' : (k != 2) = true := by simpa using h2
    rw [hv]
    clear hv h2 h0
    go_enter Try.func35, Try.ntmps35
    go_wp2_with fail
    exact ret_tm' (g := w.heap.size + 1) rfl rfl rfl (by repeat first | assumption | exact Ext.refl _ | refine Ext.alloc ?_ _ | refine Ext.drew ?_ | refine Ext.trans ?_ (by assumption)) (cells4 (by first | (simp; done) | (simp [cell_alloc]; done) | (simp [cell_alloc]; omega)) (by first | (simp; done) | (simp [cell_alloc]; done) | (simp [cell_alloc]; omega)) (by first | (simp; done) | (simp [cell_alloc]; done) | (simp [cell_alloc]; omega)) (by first | (simp; done) | (simp [cell_alloc]; done) | (simp [cell_alloc]; omega))) (RTm.mono (Hp.le_plus hH) Ht0.out)
  subst h2
  have hv : foldv (.mk 2 n s l) = foldTop n s (l.map foldv) := by rw [foldv, if_neg (by simp), if_neg (by simp), foldvs_map]
  rw [hv]
  clear hv h0 h0'
  obtain ⟨i0, hi, hz0, hz1, hz2⟩ := info_parts infoTm
  have hbytes : i0.bytes ≤ 4096 := by omega
  have Hi := Lib.hid hi
  have Hz0 := Lib.hid hz0
  have Hz1 := Lib.hid hz1
  have Hb := Lib.hid hbytes
  clear hi hz0 hz1 hz2 hbytes
  go_enter Try.func35, Try.ntmps35
  go_wp2_with (refine wpList_make (R := RTm) (H := H) (sz := 4) rfl _ _ 34 rfl i0 _ [.int .i64 0, .int .i64 0, .string ⟨#[]⟩, .slice none 0 0] Try.underlying34 Hi.out Hz0.out Hz1.out rfl rfl Hb.out _ _ _ _ l.length rfl rfl rfl rfl Hlg.out (Hp.ext hH (by repeat first | assumption | exact Ext.refl _ | refine Ext.alloc ?_ _ | refine Ext.drew ?_ | refine Ext.trans ?_ (by assumption))) tZero RTm_zero ?_; intro wm hown _; have m3 := hown.ext.cell (p := ⟨w.heap.size, 3, none⟩) (v := .slice a l.length cap) (by first | (simp; done) | (simp [cell_alloc]; done) | (simp [cell_alloc]; omega)))
  obtain ⟨wb, hwb, hown⟩ := hown.gen
  have hx1 : Ext w wb := by rw [← hwb]; exact (by repeat first | assumption | exact Ext.refl _ | refine Ext.alloc ?_ _ | refine Ext.drew ?_ | refine Ext.trans ?_ (by assumption))
  have hz1 : wb.heap.size = w.heap.size + 1 + 1 := by rw [← hwb]; simp
  have b2 : wb.cell? ⟨w.heap.size, 2, none⟩ = some (.string s) := by rw [← hwb]; first | (simp; done) | (simp [cell_alloc]; done) | (simp [cell_alloc]; omega)
  have b3 : wb.cell? ⟨w.heap.size, 3, none⟩ = some (.slice a l.length cap) := by rw [← hwb]; first | (simp; done) | (simp [cell_alloc]; done) | (simp [cell_alloc]; omega)
  have b0 : wb.cell? ⟨w.heap.size, 0, none⟩ = some (.int .i64 2) := by rw [← hwb]; first | (simp; done) | (simp [cell_alloc]; done) | (simp [cell_alloc]; omega)
  have b1 : wb.cell? ⟨w.heap.size, 1, none⟩ = some (.int .i64 n) := by rw [← hwb]; first | (simp; done) | (simp [cell_alloc]; done) | (simp [cell_alloc]; omega)
  have bf : wb.frozen? ⟨w.heap.size, 3, none⟩ = false := by rw [← hwb]; first | (simp; done) | (simp [frozen_alloc]; done) | (simp [frozen_alloc]; omega)
  have q0 : wb.cell? ⟨w.heap.size + 1, 0, none⟩ = some (.int .i64 0) := by rw [← hwb]; first | (simp; done) | (simp [cell_alloc]; done) | (simp [cell_alloc]; omega)
  have q1 : wb.cell? ⟨w.heap.size + 1, 1, none⟩ = some (.int .i64 0) := by rw [← hwb]; first | (simp; done) | (simp [cell_alloc]; done) | (simp [cell_alloc]; omega)
  have q2 : wb.cell? ⟨w.heap.size + 1, 2, none⟩ = some (.string ⟨#[]⟩) := by rw [← hwb]; first | (simp; done) | (simp [cell_alloc]; done) | (simp [cell_alloc]; omega)
  have q3 : wb.cell? ⟨w.heap.size + 1, 3, none⟩ = some (.slice none 0 0) := by rw [← hwb]; first | (simp; done) | (simp [cell_alloc]; done) | (simp [cell_alloc]; omega)
  have g0 : ∀ j, wb.frozen? ⟨w.heap.size + 1, j, none⟩ = false := by intro j; rw [← hwb]; first | (simp; done) | (simp [frozen_alloc]; done) | (simp [frozen_alloc]; omega)
  rw [hwb, hz1] at hown
  have Hw2 := hown.ext
  clear hwb m3
  go_loopw [33] (fun i wr => ∃ j : Nat, j ≤ l.length ∧ i = .int .i64 j ∧ Own H wb wr 39 4 RTm (.slice (some ⟨w.heap.size + 1 + 1, 0, none⟩) l.length l.length) ((l.take j).map foldv ++ List.replicate (l.length - j) tZero)) (fun i _ => l.length - (intOf i).toNat)
  case atStart => exact ⟨0, by omega, rfl, by simpa using hown⟩
  case round =>
    obtain ⟨j, hj, rfl, ho⟩ := hrel
    by_cases hlt : j < l.length
    · obtain ⟨b, o, rfl⟩ := hl.addr (by omega)
      have hx2 := hx1.trans ho.ext
      obtain ⟨x0, x1, x2, x3, e0, e1, e2, e3, r1⟩ := hl.get4 (Hp.ext hH hx2) j hlt
      obtain ⟨pa, pc, he, _⟩ := r1.shape
      simp only [List.cons.injEq, and_true] at he
      obtain ⟨rfl, rfl, rfl, rfl⟩ := he
      have hlen : ((l.take j).map foldv ++ List.replicate (l.length - j) tZero).length = l.length := by simp; omega
      have Hlen := Lib.hid hlen
      have htk : (l.take (j + 1)).map foldv = (l.take j).map foldv ++ [foldv l[j]] := by rw [List.take_succ_eq_append_getElem hlt, List.map_append]; rfl
      have Htk := Lib.hid htk
      clear hlen htk
      go_wp2_with fail
      refine Calls.gen fun w1 hw1 => ?_
      have hx3 : Ext wr w1 := by rw [← hw1]; exact (Ext.refl _).alloc _
      refine (Ih.out _ (List.getElem_mem hlt) _ (H.row wb wr (.slice (some ⟨w.heap.size + 1 + 1, 0, none⟩) l.length l.length)) _ (Hp.ext ho.row_le hx3) (RTm.mono ho.le_row r1)).mono ?_
      rintro e w2 ⟨cs, rfl, hr, hx4⟩
      have hr2 := RTm.mono (Hp.row_up ho.ext hx3 hx4 ho.block) hr
      obtain ⟨qa, qc, rfl, _⟩ := hr.shape
      have ho2 := ho.move up_RTm (hx3.trans hx4)
      have Ho2 := Lib.hid ho2
      obtain ⟨⟨u0, s0⟩, z0⟩ := ho2.slot Hlen.out.symm (j * 4) (by rw [Hlen.out]; omega)
      obtain ⟨⟨u1, s1⟩, z1⟩ := ho2.slot Hlen.out.symm (j * 4 + 1) (by rw [Hlen.out]; omega)
      obtain ⟨⟨u2, s2⟩, z2⟩ := ho2.slot Hlen.out.symm (j * 4 + 2) (by rw [Hlen.out]; omega)
      obtain ⟨⟨u3, s3⟩, z3⟩ := ho2.slot Hlen.out.symm (j * 4 + 3) (by rw [Hlen.out]; omega)
      clear hw1
      go_wp2_with fail
      go_roundw
      case rel =>
        refine ⟨j + 1, by omega, by go_num, ?_⟩
        have h := Ho2.out.set up_RTm Hlen.out.symm j (by rw [Hlen.out]; exact hlt) _ rfl _ hr2
        rw [fill_set (by simp; omega) hlt Htk.out] at h
        exact h
      case measure => simp [intOf]; omega
    · have hjl : j = l.length := by omega
      subst hjl
      have hrd := ho.read up_RTm (by simp; exact hl.le)
      obtain ⟨ra, rc, hre, _, hsl⟩ := hrd
      simp only [List.take_length, Nat.sub_self, List.replicate_zero, List.append_nil, List.length_map, Value.slice.injEq, true_and] at hre hsl
      obtain ⟨rfl, rfl⟩ := hre
      have hrt : RTm (H.plus wb wr) [.int .i64 2, .int .i64 n, .string s, .slice (some ⟨w.heap.size + 1 + 1, 0, none⟩) l.length l.length] (.mk 2 n s (l.map foldv)) := by
        have h := RTm.intro (k := 2) (cap := l.length) ik im is (by simp) hsl
        simpa using h
      have Hrt := Lib.hid hrt
      have Hsl := Lib.hid hsl
      have hx2 := ho.ext
      replace b0 := hx2.cell b0
      replace b1 := hx2.cell b1
      replace b2 := hx2.cell b2
      replace b3 := hx2.cell b3
      have bf2 : wr.frozen? ⟨w.heap.size, 3, none⟩ = false := by rw [hx2.frozen (by simp; omega)]; exact bf
      clear hrt hsl hlt
      go_wp2_with fail
      refine Calls.gen fun w3 hw3 => ?_
      have hx3 : Ext w w3 := by rw [← hw3]; exact (hx1.trans hx2).setCell (by simp) _
      have hz3 : w3.heap.size = wr.heap.size := by rw [← hw3]; simp
      have hR3 : (H.plus wb wr).le (H.plus w w3) := by rw [← hw3]; exact Hp.le_trans (Hp.plus_set (by omega) _ _) (Hp.plus_base hH hx1)
      have hRo : (H.plus wb wr).le (Hp.of w3) := Hp.le_trans hR3 (Hp.plus_le hH hx3)
      have hno : ∀ o, H.plus wb wr (w.heap.size + 1) o = Option.none := fun o => by simp only [Hp.plus]; rw [if_neg (by omega)]; exact Hp.none hH (by omega) o
      have hz4 := hx2.size
      have c0 : w3.cell? ⟨w.heap.size, 0, none⟩ = some (.int .i64 2) := by rw [← hw3, cell_set, if_neg (by simp)]; exact b0
      have c1 : w3.cell? ⟨w.heap.size, 1, none⟩ = some (.int .i64 n) := by rw [← hw3, cell_set, if_neg (by simp)]; exact b1
      have c2 : w3.cell? ⟨w.heap.size, 2, none⟩ = some (.string s) := by rw [← hw3, cell_set, if_neg (by simp)]; exact b2
      have c3 : w3.cell? ⟨w.heap.size, 3, none⟩ = some (.slice (some ⟨w.heap.size + 1 + 1, 0, none⟩) l.length l.length) := by rw [← hw3, cell_set, if_pos ⟨rfl, rfl⟩, b3]; rfl
      have p0 : w3.cell? ⟨w.heap.size + 1, 0, none⟩ = some (.int .i64 0) := by rw [← hw3, cell_set, if_neg (by simp)]; exact hx2.cell q0
      have p1 : w3.cell? ⟨w.heap.size + 1, 1, none⟩ = some (.int .i64 0) := by rw [← hw3, cell_set, if_neg (by simp)]; exact hx2.cell q1
      have p2 : w3.cell? ⟨w.heap.size + 1, 2, none⟩ = some (.string ⟨#[]⟩) := by rw [← hw3, cell_set, if_neg (by simp)]; exact hx2.cell q2
      have p3 : w3.cell? ⟨w.heap.size + 1, 3, none⟩ = some (.slice none 0 0) := by rw [← hw3, cell_set, if_neg (by simp)]; exact hx2.cell q3
      have pf : ∀ j, w3.frozen? ⟨w.heap.size + 1, j, none⟩ = false := fun j => by rw [← hw3, frozen_set, hx2.frozen (by simp; omega)]; exact g0 j
      have HR3 := Lib.hid hR3
      have HRo := Lib.hid hRo
      have Hno := Lib.hid hno
      clear b0 b1 b2 b3 bf bf2 q0 q1 q2 q3 g0 hw3 hR3 hRo hno
      cases hop : opTm (.mk 2 n s (l.map foldv)) with
      | false =>
        have Hrt2 : Hid (RTm (H.plus wb wr) [.int .i64 2, .int .i64 n, .string s, .slice (some ⟨w.heap.size + 1 + 1, 0, none⟩) l.length l.length] (foldTop n s (l.map foldv))) := Lib.hid (by rw [foldTop_no hop]; exact Hrt.out)
        have Hop := Lib.hid hop
        clear hop
        refine (operator_any (.mk 2 n s (l.map foldv)) _ (H.plus wb wr) _ Hrt.out).mono ?_
        rintro e w4 ⟨rfl, hx4⟩
        rw [Hop.out]
        replace c0 := hx4.cell c0
        replace c1 := hx4.cell c1
        replace c2 := hx4.cell c2
        replace c3 := hx4.cell c3
        replace p0 := hx4.cell p0
        replace p1 := hx4.cell p1
        replace p2 := hx4.cell p2
        replace p3 := hx4.cell p3
        replace pf : ∀ j, World.frozen? w4 ⟨w.heap.size + 1, j, none⟩ = false := fun j => by rw [hx4.frozen (by simp; omega)]; exact pf j
        go_wp2_with fail
        exact ret_tmG (g := w.heap.size + 1) (cs := [_, _, _, _]) rfl rfl rfl (hx3.trans hx4) (by omega) (isSome4 p0 p1 p2 p3) Hrt2.out (Hp.le_trans HR3.out (Hp.plus_mono hx4)) Hno.out
      | true =>
        have hop2 := hop
        simp only [opTm, Bool.and_eq_true, decide_eq_true_eq, List.length_map, true_and] at hop2
        obtain ⟨hl2, hos⟩ := hop2
        obtain ⟨x, y, rfl⟩ := two_of_len hl2
        have Hop := Lib.hid hop
        clear hop hl2
        refine (operator_any (.mk 2 n s ([x, y].map foldv)) _ (H.plus wb wr) _ Hrt.out).mono ?_
        rintro e w4 ⟨rfl, hx4⟩
        rw [Hop.out]
        obtain ⟨x0, x1, x2, x3, e0, e1, e2, e3, r1⟩ := Hsl.out.get4 (Hp.ext HRo.out hx4) 0 (by simp)
        obtain ⟨y0, y1, y2, y3, f0, f1, f2, f3, r2⟩ := Hsl.out.get4 (Hp.ext HRo.out hx4) 1 (by simp)
        simp only [List.map_cons, List.map_nil, List.getElem_cons_zero, List.getElem_cons_succ, Nat.zero_mul, Nat.add_zero, Nat.zero_add, Nat.one_mul] at r1 r2 e0 e1 e2 e3 f0 f1 f2 f3
        have Hno2 : Hid (¬ (isOp s = true ∧ (foldv x).kind = 0 ∧ (foldv y).kind = 0 ∧ (apply s (foldv x).num (foldv y).num).2 = 0) → RTm (H.plus wb wr) [.int .i64 2, .int .i64 n, .string s, .slice (some ⟨w.heap.size + 1 + 1, 0, none⟩) 2 2] (foldTop n s ([x, y].map foldv))) := Lib.hid (fun h => by
          simp only [List.map_cons, List.map_nil]
          rw [foldTop, if_neg h]; exact Hrt.out)
        have Hyes : Hid (isOp s = true ∧ (foldv x).kind = 0 ∧ (foldv y).kind = 0 ∧ (apply s (foldv x).num (foldv y).num).2 = 0 → foldTop n s ([x, y].map foldv) = tInt (apply s (foldv x).num (foldv y).num).1) := Lib.hid (fun h => by
          simp only [List.map_cons, List.map_nil]
          rw [foldTop, if_pos h])
        generalize foldv x = fx at *
        generalize foldv y = fy at *
        obtain ⟨k1, n1, s1, l1⟩ := fx
        obtain ⟨k2, n2, s2, l2⟩ := fy
        obtain ⟨xa, xc, hex, ix1, ix2, _⟩ := r1.inv
        obtain ⟨ya, yc, hey, iy1, iy2, _⟩ := r2.inv
        simp only [List.cons.injEq, and_true] at hex hey
        obtain ⟨rfl, rfl, rfl, rfl⟩ := hex
        obtain ⟨rfl, rfl, rfl, rfl⟩ := hey
        simp only [Tm.kind, Tm.num] at Hno2 Hyes
        replace c0 := hx4.cell c0
        replace c1 := hx4.cell c1
        replace c2 := hx4.cell c2
        replace c3 := hx4.cell c3
        replace p0 := hx4.cell p0
        replace p1 := hx4.cell p1
        replace p2 := hx4.cell p2
        replace p3 := hx4.cell p3
        replace pf : ∀ j, World.frozen? w4 ⟨w.heap.size + 1, j, none⟩ = false := fun j => by rw [hx4.frozen (by simp; omega)]; exact pf j
        clear r1 r2
        by_cases hk1 : k1 = 0
        case neg =>
          have hk1' : (k1 == 0) = false := by simpa using hk1
          have Hr := Lib.hid (Hno2.out (fun h => hk1 h.2.1))
          clear hk1 Hno2 Hyes
          go_wp2_with fail
          exact ret_tmG (g := w.heap.size + 1) (cs := [_, _, _, _]) rfl rfl rfl (hx3.trans hx4) (by omega) (isSome4 p0 p1 p2 p3) Hr.out (Hp.le_trans HR3.out (Hp.plus_mono hx4)) Hno.out
        by_cases hk2 : k2 = 0
        case neg =>
          have hk1' : (k1 == 0) = true := by simpa using hk1
          have hk2' : (k2 == 0) = false := by simpa using hk2
          have Hr := Lib.hid (Hno2.out (fun h => hk2 h.2.2.1))
          clear hk1 hk2 Hno2 Hyes
          go_wp2_with fail
          exact ret_tmG (g := w.heap.size + 1) (cs := [_, _, _, _]) rfl rfl rfl (hx3.trans hx4) (by omega) (isSome4 p0 p1 p2 p3) Hr.out (Hp.le_trans HR3.out (Hp.plus_mono hx4)) Hno.out
        subst hk1
        subst hk2
        have hz5 := hx4.size
        go_wp2_with fail
        go_region_held3 (fun w' => w'.cell? ⟨w.heap.size, 2, none⟩ = some (.string s) ∧ w'.cell? ⟨w.heap.size + 1 + 1, 1, none⟩ = some (.int .i64 n1) ∧ w'.cell? ⟨w.heap.size + 1 + 1, 5, none⟩ = some (.int .i64 n2)) (first | exact ⟨hx6.cell c2, hx6.cell e1, hx6.cell f1⟩ | go_keep) (first | (go_at_call 29; refine (apply_any s _ _ _ ix2 iy2).mono ?_; rintro e w6 ⟨rfl, hx6⟩))
        have hxe : Ext w4 w6 := ((Ext.refl w4).drew).trans hx6
        replace c0 := hxe.cell c0
        replace c1 := hxe.cell c1
        replace c2 := hxe.cell c2
        replace c3 := hxe.cell c3
        replace p0 := hxe.cell p0
        replace p1 := hxe.cell p1
        replace p2 := hxe.cell p2
        replace p3 := hxe.cell p3
        replace pf : ∀ j, World.frozen? w6 ⟨w.heap.size + 1, j, none⟩ = false := fun j => by rw [hxe.frozen (by simp; omega)]; exact pf j
        have hx7 := hx4.trans hxe
        have hz7 := hxe.size
        by_cases hap : (apply s n1 n2).2 = 0
        case neg =>
          have hap' : ((apply s n1 n2).2 == 0) = false := by simpa using hap
          have Hr := Lib.hid (Hno2.out (fun h => hap h.2.2.2))
          clear hap Hno2 Hyes
          go_wp2_with fail
          exact ret_tmG (g := w.heap.size + 1) (cs := [_, _, _, _]) rfl rfl rfl (hx3.trans hx7) (by omega) (isSome4 p0 p1 p2 p3) Hr.out (Hp.le_trans HR3.out (Hp.plus_mono hx7)) Hno.out
        have hap' : ((apply s n1 n2).2 == 0) = true := by simpa using hap
        have Hy := Lib.hid (Hyes.out (by simp [hos, hap]))
        have hin := inR_iff.1 (apply_in hap).1
        have hok : IntOk (apply s n1 n2).1 := by unfold IntOk; omega
        clear hap hin
        go_wp2_with fail
        refine (tInt_any _ (H.plus wb wr) _ hok).mono ?_
        rintro e w8 ⟨cs, rfl, hr, hx8⟩
        obtain ⟨ta, tc, rfl, _⟩ := hr.shape
        replace c0 := hx8.cell c0
        replace c1 := hx8.cell c1
        replace c2 := hx8.cell c2
        replace c3 := hx8.cell c3
        replace p0 := hx8.cell p0
        replace p1 := hx8.cell p1
        replace p2 := hx8.cell p2
        replace p3 := hx8.cell p3
        replace pf : ∀ j, World.frozen? w8 ⟨w.heap.size + 1, j, none⟩ = false := fun j => by rw [hx8.frozen (by simp; omega)]; exact pf j
        have Hr := Lib.hid hr
        clear hr
        go_wp2_with fail
        have Hr2 : RTm ((H.plus wb wr).plus w6 w8) [.int .i64 (tInt (apply s n1 n2).1).kind, .int .i64 (tInt (apply s n1 n2).1).num, .string (tInt (apply s n1 n2).1).name, .slice ta (tInt (apply s n1 n2).1).args.length tc] (foldTop n s ([x, y].map foldv)) := by
          rw [Hy.out]; exact Hr.out
        exact ret_tmG (g := w.heap.size + 1) (cs := [_, _, _, _]) rfl rfl rfl (hx3.trans (hx7.trans hx8)) (by omega) (isSome4 p0 p1 p2 p3) Hr2 (plus_step HR3.out hx3 hx7 hx8) (fun o => by simp only [Hp.plus]; rw [if_neg (by omega)]; exact Hno.out o)
end Go.CK
