/-
  WALKS: the reference of arith.Fold. By an AI agent.
-/
import Derived.Test.YtllcnpfdklbbbaaFoldW
import Derived.Test.YtllcnpfdklbbbaaOwn
import Derived.Deep.RegionLaw
import Derived.Deep.AppendLies
namespace Go.CK
open Go.RowKit Go.Proofs

/-- the call's own boxes, below base, hold what they held, but for one cell -/
structure Boxes (base : Nat) (pb po : Nat) (wb wr : World) : Prop where
  cell : ∀ b o, b < base → ¬ (b = pb ∧ o = po) → wr.cell? ⟨b, o, none⟩ = wb.cell? ⟨b, o, none⟩
  fr : ∀ b o, b < base → wr.frozen? ⟨b, o, none⟩ = wb.frozen? ⟨b, o, none⟩

theorem Boxes.refl (base pb po : Nat) (w : World) : Boxes base pb po w w := ⟨fun _ _ _ _ => rfl, fun _ _ _ => rfl⟩
theorem Boxes.ext {base pb po : Nat} {wb wr w : World} (h : Boxes base pb po wb wr) (hx : Ext wr w) (hb : base ≤ wr.heap.size) : Boxes base pb po wb w :=
  ⟨fun b o h1 h2 => by rw [(hx.cells).1 b o (by omega)]; exact h.cell b o h1 h2, fun b o h1 => by rw [(hx.cells).2 b o (by omega)]; exact h.fr b o h1⟩
theorem Boxes.grown {base pb po : Nat} {wb wr w : World} {row : Option Nat} (h : Boxes base pb po wb wr) (hg : wr.grownBy w row) (hb : base ≤ wr.heap.size) (hr : ∀ k, row = some k → base ≤ k) : Boxes base pb po wb w :=
  ⟨fun b o h1 h2 => by
    rw [World.cell?_of_block (w := wr) (hg.block b (by omega) (fun e => by have := hr b e.symm; omega))]; exact h.cell b o h1 h2,
   fun b o h1 => by
    rw [World.frozen?_of_block (w := wr) (hg.block b (by omega) (fun e => by have := hr b e.symm; omega))]; exact h.fr b o h1⟩
theorem Boxes.set {base pb po : Nat} {wb wr : World} (h : Boxes base pb po wb wr) (v : Value) : Boxes base pb po wb (wr.setCell ⟨pb, po, none⟩ v) :=
  ⟨fun b o h1 h2 => by rw [cell_set, if_neg (fun e => h2 ⟨e.1.symm, e.2.symm⟩)]; exact h.cell b o h1 h2, fun b o h1 => by rw [frozen_set]; exact h.fr b o h1⟩

theorem Ow.alloc' {α : Type} {H : Hp} {w0 w : World} {base : Nat} {e : TypeId} {sz : Nat} {R : Hp → List Value → α → Prop} {v : Value} {l : List α} (h : Ow H w0 base w e sz R v l) (hu : Up R) (o : Obj) : Ow H w0 base (w.alloc o) e sz R v l := h.move hu ((Ext.refl w).alloc o)
theorem Ow.le_alloc {α : Type} {H : Hp} {w0 w : World} {base : Nat} {e : TypeId} {sz : Nat} {R : Hp → List Value → α → Prop} {v : Value} {l : List α} (_h : Ow H w0 base w e sz R v l) (o : Obj) : (H.rowF base w v).le (H.rowF base (w.alloc o) v) := fun b p u x => by
  simp only [Hp.rowF] at x ⊢
  split at x
  · cases x
  · rename_i h1; rw [if_neg h1]
    split at x
    · rename_i h2; rw [if_pos h2]; exact ((Ext.refl w).alloc o).cell x
    · rename_i h2; rw [if_neg h2]; exact x

/-- the cells of a new block -/
theorem news_of (w : World) (cs : List Value) (e : TypeId) (fr : Nat × Nat) : ∀ j u, cs[j]? = some u → (w.alloc (.cells cs.toArray e fr)).cell? ⟨w.heap.size, j, Option.none⟩ = some u := fun j u h => by
  rw [cell_alloc, if_pos rfl]; simpa using h

theorem infTm : Inf Try.prog 34 39 4 := Inf.mk' Try.underlying34 infoTm rfl (by decide)

set_option maxHeartbeats 4000000 in
theorem fold_ref (t : Tm) : t.nodes ≤ 1000 → ∀ (c : List Value) (H : Hp) (w : World), H.le (Hp.of w) → RTm H c t →
    Calls Try.prog 37 #[.agg c.toArray] w (RetTm H w (foldr t)) := by
  induction t using Tm.ind_all with
  | h k n s l ih =>
  intro hnd c H w hH ht
  have Hlg : Hid (l.length ≤ 1000) := Lib.hid (by have := Tm.nodess_len l; simp only [Tm.nodes] at hnd; omega)
  replace ih := fun x (hx : x ∈ l) => ih x hx (by have := Tm.nodes_mem hx; simp only [Tm.nodes] at hnd; omega)
  clear hnd
  have ht0 := ht
  obtain ⟨a, cap, rfl, ik, im, is, ic, hl⟩ := ht.inv
  have hle : l.length ≤ 9223372036854775807 := hl.le
  have Ih := Lib.hid ih
  have Ht0 := Lib.hid ht0
  clear ih ht ht0
  by_cases h2 : k = 2
  case neg =>
    have hv : foldr (.mk k n s l) = foldDone (.mk k n s l) := by rw [foldr, if_neg h2]
    rw [hv]
    have h2' : (k == 2) = false := by simpa using h2
    clear hv h2
    go_enter Try.func37, Try.ntmps37
    go_wp2_with fail
    refine wp_loop_rounds 1 ?_
    rw [rounds_succ]
    go_wp2_with fail
    refine Calls.gen fun wr hwr => ?_
    have hx2 : Ext w wr := by rw [← hwr]; exact (by repeat first | assumption | exact Ext.refl _ | refine Ext.alloc ?_ _ | refine Ext.drew ?_ | refine Ext.trans ?_ (by assumption))
    have hz2 : w.heap.size + 1 + 1 < wr.heap.size := by rw [← hwr]; simp
    have d0 : wr.cell? ⟨w.heap.size + 1 + 1, 0, none⟩ = some (.int .i64 k) := by rw [← hwr]; first | (simp; done) | (simp [cell_alloc]; done) | (simp [cell_alloc]; omega)
    have d1 : wr.cell? ⟨w.heap.size + 1 + 1, 1, none⟩ = some (.int .i64 n) := by rw [← hwr]; first | (simp; done) | (simp [cell_alloc]; done) | (simp [cell_alloc]; omega)
    have d2 : wr.cell? ⟨w.heap.size + 1 + 1, 2, none⟩ = some (.string s) := by rw [← hwr]; first | (simp; done) | (simp [cell_alloc]; done) | (simp [cell_alloc]; omega)
    have hv : wr.cell? ⟨w.heap.size + 1 + 1, 3, none⟩ = some (.slice a l.length cap) := by rw [← hwr]; first | (simp; done) | (simp [cell_alloc]; done) | (simp [cell_alloc]; omega)
    have p0 : wr.cell? ⟨w.heap.size + 1, 0, none⟩ = some (.int .i64 0) := by rw [← hwr]; first | (simp; done) | (simp [cell_alloc]; done) | (simp [cell_alloc]; omega)
    have p1 : wr.cell? ⟨w.heap.size + 1, 1, none⟩ = some (.int .i64 0) := by rw [← hwr]; first | (simp; done) | (simp [cell_alloc]; done) | (simp [cell_alloc]; omega)
    have p2 : wr.cell? ⟨w.heap.size + 1, 2, none⟩ = some (.string ⟨#[]⟩) := by rw [← hwr]; first | (simp; done) | (simp [cell_alloc]; done) | (simp [cell_alloc]; omega)
    have p3 : wr.cell? ⟨w.heap.size + 1, 3, none⟩ = some (.slice none 0 0) := by rw [← hwr]; first | (simp; done) | (simp [cell_alloc]; done) | (simp [cell_alloc]; omega)
    have pf : ∀ j, wr.frozen? ⟨w.heap.size + 1, j, none⟩ = false := by intro j; rw [← hwr]; first | (simp; done) | (simp [frozen_alloc]; done) | (simp [frozen_alloc]; omega)
    clear hwr
    refine (eval_ref _ _ _ _ (Hp.ext hH hx2) Ht0.out).mono ?_
    rintro e w4 ⟨rfl, hx4⟩
    replace d0 := hx4.cell d0
    replace d1 := hx4.cell d1
    replace d2 := hx4.cell d2
    replace hv := hx4.cell hv
    replace p0 := hx4.cell p0
    replace p1 := hx4.cell p1
    replace p2 := hx4.cell p2
    replace p3 := hx4.cell p3
    replace pf : ∀ j, w4.frozen? ⟨w.heap.size + 1, j, Option.none⟩ = false := fun j => by rw [hx4.frozen (by simp; omega)]; exact pf j
    have hno : ∀ o, H (w.heap.size + 1) o = Option.none := Hp.none hH (by omega)
    have Hno := Lib.hid hno
    clear hno
    by_cases he : (evalv (.mk k n s l)).2 = 0
    · have he' : ((evalv (.mk k n s l)).2 == 0) = true := by simpa using he
      have hin := inR_iff.1 (evalv_in _ he)
      have hok : IntOk (evalv (.mk k n s l)).1 := by unfold IntOk; omega
      have Hd := Lib.hid (foldDone_ok he)
      clear he hin
      go_wp2_with fail
      have hr := RTm_tInt (H := H) hok
      rw [← Hd.out] at hr
      exact ret_tmG (g := w.heap.size + 1) (cs := [_, _, _, _]) rfl rfl rfl (hx2.trans hx4) (by omega) (isSome4 p0 p1 p2 p3) hr (Hp.le_plus hH) Hno.out
    · have he' : ((evalv (.mk k n s l)).2 == 0) = false := by simpa using he
      have Hr : Hid (RTm H [.int .i64 k, .int .i64 n, .string s, .slice a l.length cap] (foldDone (.mk k n s l))) := Lib.hid (by rw [foldDone_no he]; exact Ht0.out)
      clear he
      go_wp2_with fail
      exact ret_tmG (g := w.heap.size + 1) (cs := [_, _, _, _]) rfl rfl rfl (hx2.trans hx4) (by omega) (isSome4 p0 p1 p2 p3) Hr.out (Hp.le_plus hH) Hno.out
  subst h2
  have hv : foldr (.mk 2 n s l) = foldDone (.mk 2 n s (l.map foldr)) := by rw [foldr, if_pos rfl, foldrs_map]
  rw [hv]
  clear hv
  go_enter Try.func37, Try.ntmps37
  go_wp2_with fail
  refine wp_gen fun wb hwb => ?_
  have hx1 : Ext w wb := by rw [← hwb]; exact (by repeat first | assumption | exact Ext.refl _ | refine Ext.alloc ?_ _ | refine Ext.drew ?_ | refine Ext.trans ?_ (by assumption))
  have hz1 : wb.heap.size = w.heap.size + 1 + 1 + 1 := by rw [← hwb]; simp
  have hbx := Boxes.refl (w.heap.size + 1 + 1 + 1) (w.heap.size + 1 + 1) 3 wb
  have b0 : wb.cell? ⟨w.heap.size, 0, none⟩ = some (.int .i64 2) := by rw [← hwb]; first | (simp; done) | (simp [cell_alloc]; done) | (simp [cell_alloc]; omega)
  have b3 : wb.cell? ⟨w.heap.size, 3, none⟩ = some (.slice a l.length cap) := by rw [← hwb]; first | (simp; done) | (simp [cell_alloc]; done) | (simp [cell_alloc]; omega)
  have o0 : wb.cell? ⟨w.heap.size + 1 + 1, 0, none⟩ = some (.int .i64 2) := by rw [← hwb]; first | (simp; done) | (simp [cell_alloc]; done) | (simp [cell_alloc]; omega)
  have o1 : wb.cell? ⟨w.heap.size + 1 + 1, 1, none⟩ = some (.int .i64 n) := by rw [← hwb]; first | (simp; done) | (simp [cell_alloc]; done) | (simp [cell_alloc]; omega)
  have o2 : wb.cell? ⟨w.heap.size + 1 + 1, 2, none⟩ = some (.string s) := by rw [← hwb]; first | (simp; done) | (simp [cell_alloc]; done) | (simp [cell_alloc]; omega)
  have o3 : wb.cell? ⟨w.heap.size + 1 + 1, 3, none⟩ = some (.slice none 0 0) := by rw [← hwb]; first | (simp; done) | (simp [cell_alloc]; done) | (simp [cell_alloc]; omega)
  have of3 : wb.frozen? ⟨w.heap.size + 1 + 1, 3, none⟩ = false := by rw [← hwb]; first | (simp; done) | (simp [frozen_alloc]; done) | (simp [frozen_alloc]; omega)
  have q0 : wb.cell? ⟨w.heap.size + 1, 0, none⟩ = some (.int .i64 0) := by rw [← hwb]; first | (simp; done) | (simp [cell_alloc]; done) | (simp [cell_alloc]; omega)
  have q1 : wb.cell? ⟨w.heap.size + 1, 1, none⟩ = some (.int .i64 0) := by rw [← hwb]; first | (simp; done) | (simp [cell_alloc]; done) | (simp [cell_alloc]; omega)
  have q2 : wb.cell? ⟨w.heap.size + 1, 2, none⟩ = some (.string ⟨#[]⟩) := by rw [← hwb]; first | (simp; done) | (simp [cell_alloc]; done) | (simp [cell_alloc]; omega)
  have q3 : wb.cell? ⟨w.heap.size + 1, 3, none⟩ = some (.slice none 0 0) := by rw [← hwb]; first | (simp; done) | (simp [cell_alloc]; done) | (simp [cell_alloc]; omega)
  have g0 : ∀ j, wb.frozen? ⟨w.heap.size + 1, j, none⟩ = false := by intro j; rw [← hwb]; first | (simp; done) | (simp [frozen_alloc]; done) | (simp [frozen_alloc]; omega)
  clear hwb
  go_loopw [4] (fun i wr => ∃ j : Nat, j ≤ l.length ∧ i = .int .i64 j ∧ Boxes (w.heap.size + 1 + 1 + 1) (w.heap.size + 1 + 1) 3 wb wr ∧ ∃ v, Ow H w (w.heap.size + 1 + 1 + 1) wr 39 4 RTm v ((l.take j).map foldr) ∧ wr.cell? ⟨w.heap.size + 1 + 1, 3, none⟩ = some v) (fun i _ => l.length - (intOf i).toNat)
  case atStart => exact ⟨0, by omega, rfl, hbx, _, Ow.nil hH hx1 (by omega) (by omega), o3⟩
  case round =>
    obtain ⟨j, hj, rfl, hb2, v, ho, hv⟩ := hrel
    by_cases hlt : j < l.length
    · obtain ⟨b, o, rfl⟩ := hl.addr (by omega)
      have hx2 := ho.ext
      have hz2 := ho.hi
      obtain ⟨x0, x1, x2, x3, e0, e1, e2, e3, r1⟩ := hl.get4 (Hp.ext hH hx2) j hlt
      obtain ⟨pa, pc, he, _⟩ := r1.shape
      simp only [List.cons.injEq, and_true] at he
      obtain ⟨rfl, rfl, rfl, rfl⟩ := he
      have htk : (l.take (j + 1)).map foldr = (l.take j).map foldr ++ [foldr l[j]] := by rw [List.take_succ_eq_append_getElem hlt, List.map_append]; rfl
      have Htk := Lib.hid htk
      have c0 := (hb2.cell w.heap.size 0 (by omega) (by omega)).trans b0
      have c3 := (hb2.cell w.heap.size 3 (by omega) (by omega)).trans b3
      have cf := (hb2.fr (w.heap.size + 1 + 1) 3 (by omega)).trans of3
      obtain ⟨va, vc, hve⟩ := ho.shape
      rw [List.length_map, List.length_take, Nat.min_eq_left hj] at hve
      subst hve
      have hlen : ((l.take j).map foldr).length + 1 ≤ glim := by have := Hlg.out; simp [glim]; omega
      have Hlen := Lib.hid hlen
      clear htk hlen
      go_wp2_with fail
      go_region_law (first | (refine step_append1 rfl infTm _ _ rfl up_RTm rfl (ho2.alloc' up_RTm _) (foldr l[j]) _ 1 _ rfl rfl (news_of _ [_, _, _, _] _ _) (by simp [Value.oneCell']) (RTm.mono (ho2.le_alloc _) hr2) Hlen.out ?_; intro v' w3 ho3 hg3; have hv3 := hg3.cell (((Ext.refl w2).alloc _).cell hv2) (fun e => by have := (ho2.block _ e.symm).1; simp only at this; omega); have hb3 := (hb2.ext (((Ext.refl wr).drew.trans hx4).alloc _) hz2).grown hg3 (Nat.le_trans ho2.hi (by simp)) (fun k hk => (ho2.block k hk).1); have hf3 := (hb3.fr (w.heap.size + 1 + 1) 3 (by omega)).trans of3; obtain ⟨va2, vc2, hve2⟩ := ho3.shape; rw [List.length_append, List.length_map, List.length_take, Nat.min_eq_left hj, List.length_singleton] at hve2; subst hve2) | (go_simp; go_at_call 37; refine (Ih.out _ (List.getElem_mem hlt) _ _ _ (Hp.ext ho.row_le ((Ext.refl wr).drew)) (RTm.mono ho.le_row r1)).mono ?_; rintro e w2 ⟨cs, rfl, hr, hx4⟩; have hr2 := RTm.mono (ho.up ((Ext.refl wr).drew) hx4) hr; obtain ⟨qa, qc, rfl, _⟩ := hr.shape; have ho2 := ho.move up_RTm (((Ext.refl wr).drew).trans hx4); have hv2 := (((Ext.refl wr).drew).trans hx4).cell hv; have hne2 : w.heap.size + 1 + 1 < w2.heap.size := (by have := ho2.hi; omega); clear hr))
      all_goals
        go_wp2_with fail
        go_roundw
        case rel =>
          refine ⟨j + 1, by omega, by go_num, hb3.set _, _, ?_, by rw [cell_set, if_pos ⟨rfl, rfl⟩, hv3]; rfl⟩
          rw [Htk.out]
          exact ho3.setBox (p := ⟨w.heap.size + 1 + 1, 3, Option.none⟩) up_RTm (show w.heap.size ≤ w.heap.size + 1 + 1 by omega) (show w.heap.size + 1 + 1 < w.heap.size + 1 + 1 + 1 by omega) _
        case measure => simp [intOf]; omega
    · have hjl : j = l.length := by omega
      subst hjl
      rw [List.take_length] at ho
      have hx2 := ho.ext
      have hz2 := ho.hi
      have hrd := ho.read up_RTm (by simp; exact hl.le)
      obtain ⟨ra, rc, hre, hrc, hsl⟩ := hrd
      rw [List.length_map] at hre hrc
      subst hre
      have hrt : RTm (H.frm (w.heap.size + 1 + 1 + 1) wr) [.int .i64 2, .int .i64 n, .string s, .slice ra l.length rc] (.mk 2 n s (l.map foldr)) := by
        have h := RTm.intro (k := 2) (cap := rc) ik im is (by simpa using hrc) hsl
        simpa using h
      have hle2 := Hp.frm_le_plus (w := wr) hH (show w.heap.size ≤ w.heap.size + 1 + 1 + 1 by omega)
      have Hle2 := Lib.hid hle2
      have Hle3 := Lib.hid (Hp.frm_le (w := wr) (base := w.heap.size + 1 + 1 + 1) hH hx2)
      have Hno := Lib.hid (Hp.frm_none (w := wr) (g := w.heap.size + 1) hH (by omega) (show w.heap.size + 1 < w.heap.size + 1 + 1 + 1 by omega))
      have Hrt := Lib.hid hrt
      have c0 := (hb2.cell w.heap.size 0 (by omega) (by omega)).trans b0
      have c3 := (hb2.cell w.heap.size 3 (by omega) (by omega)).trans b3
      have d0 := (hb2.cell (w.heap.size + 1 + 1) 0 (by omega) (by omega)).trans o0
      have d1 := (hb2.cell (w.heap.size + 1 + 1) 1 (by omega) (by omega)).trans o1
      have d2 := (hb2.cell (w.heap.size + 1 + 1) 2 (by omega) (by omega)).trans o2
      have p0 := (hb2.cell (w.heap.size + 1) 0 (by omega) (by omega)).trans q0
      have p1 := (hb2.cell (w.heap.size + 1) 1 (by omega) (by omega)).trans q1
      have p2 := (hb2.cell (w.heap.size + 1) 2 (by omega) (by omega)).trans q2
      have p3 := (hb2.cell (w.heap.size + 1) 3 (by omega) (by omega)).trans q3
      have pf : ∀ j, wr.frozen? ⟨w.heap.size + 1, j, Option.none⟩ = false := fun j => (hb2.fr (w.heap.size + 1) j (by omega)).trans (g0 j)
      clear hrt hle2 hsl b0 b3 o0 o1 o2 o3 of3 q0 q1 q2 q3 g0 hlt
      go_wp2_with fail
      refine (eval_ref _ _ _ _ Hle3.out Hrt.out).mono ?_
      rintro e w4 ⟨rfl, hx4⟩
      replace d0 := hx4.cell d0
      replace d1 := hx4.cell d1
      replace d2 := hx4.cell d2
      replace hv := hx4.cell hv
      replace p0 := hx4.cell p0
      replace p1 := hx4.cell p1
      replace p2 := hx4.cell p2
      replace p3 := hx4.cell p3
      replace pf : ∀ j, w4.frozen? ⟨w.heap.size + 1, j, Option.none⟩ = false := fun j => by rw [hx4.frozen (by simp; omega)]; exact pf j
      by_cases he : (evalv (.mk 2 n s (l.map foldr))).2 = 0
      · have he' : ((evalv (.mk 2 n s (l.map foldr))).2 == 0) = true := by simpa using he
        have hin := inR_iff.1 (evalv_in _ he)
        have hok : IntOk (evalv (.mk 2 n s (l.map foldr))).1 := by unfold IntOk; omega
        have Hd := Lib.hid (foldDone_ok he)
        clear he hin
        go_wp2_with fail
        have hr := RTm_tInt (H := H.frm (w.heap.size + 1 + 1 + 1) wr) hok
        rw [← Hd.out] at hr
        exact ret_tmG (g := w.heap.size + 1) (cs := [_, _, _, _]) rfl rfl rfl (hx2.trans hx4) (by omega) (isSome4 p0 p1 p2 p3) hr (Hp.le_trans Hle2.out (Hp.plus_mono hx4)) Hno.out
      · have he' : ((evalv (.mk 2 n s (l.map foldr))).2 == 0) = false := by simpa using he
        have Hr : Hid (RTm (H.frm (w.heap.size + 1 + 1 + 1) wr) [.int .i64 2, .int .i64 n, .string s, .slice ra l.length rc] (foldDone (.mk 2 n s (l.map foldr)))) := Lib.hid (by rw [foldDone_no he]; exact Hrt.out)
        clear he
        go_wp2_with fail
        exact ret_tmG (g := w.heap.size + 1) (cs := [_, _, _, _]) rfl rfl rfl (hx2.trans hx4) (by omega) (isSome4 p0 p1 p2 p3) Hr.out (Hp.le_trans Hle2.out (Hp.plus_mono hx4)) Hno.out
end Go.CK
