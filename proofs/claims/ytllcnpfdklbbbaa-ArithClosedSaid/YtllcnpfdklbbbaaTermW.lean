/-
  WALKS: the size of a term, the equality of terms. By an AI agent.
-/
import Derived.Test.YtllcnpfdklbbbaaProg
import Derived.Test.YtllcnpfdklbbbaaTerm
import Derived.BigQuiet
import Derived.StillTailTactics
import Derived.Deep.RegionHeld3
namespace Go.CK
open Go.RowKit Go.Proofs

mutual
def left : Tm → Int → Int → Int
  | .mk _ _ _ args, n, d => if d < 1 ∨ n - 1 < 0 then -1 else lefts args (n - 1) (d - 1)
def lefts : List Tm → Int → Int → Int
  | [], n, _ => n
  | t :: r, n, d => if left t n d < 0 then -1 else lefts r (left t n d) d
end

theorem take_snoc {α : Type} {l m : List α} {j : Nat} (h1 : j < l.length) (h2 : j < m.length) (h : l.take j = m.take j) (e : l[j] = m[j]) : l.take (j + 1) = m.take (j + 1) := by
  rw [List.take_succ_eq_append_getElem h1, List.take_succ_eq_append_getElem h2, h, e]

set_option maxHeartbeats 1000000 in
theorem same_any (a : Tm) : ∀ (b : Tm) (ca cb : List Value) (H : Hp) (w : World), H.le (Hp.of w) → RTm H ca a → RTm H cb b →
    Calls Try.prog 36 #[.agg ca.toArray, .agg cb.toArray] w fun e w' => e = .returned (.bool (decide (a = b))) ∧ Ext w w' := by
  induction a using Tm.ind_all with
  | h k1 n1 s1 l1 ih =>
  intro b ca cb H w hH ha hb
  obtain ⟨k2, n2, s2, l2⟩ := b
  obtain ⟨a1, cap1, rfl, ik1, in1, is1, ic1, h1⟩ := ha.inv
  obtain ⟨a2, cap2, rfl, ik2, in2, is2, ic2, h2⟩ := hb.inv
  have hl1 : l1.length ≤ 9223372036854775807 := h1.le
  have hl2 : l2.length ≤ 9223372036854775807 := h2.le
  have hfin : ∀ q : Bool, (q = true ↔ Tm.mk k1 n1 s1 l1 = Tm.mk k2 n2 s2 l2) → q = decide (Tm.mk k1 n1 s1 l1 = Tm.mk k2 n2 s2 l2) := fun q hq => by rw [Bool.eq_iff_iff, hq]; simp
  have Hfin := Lib.hid hfin; clear hfin ha hb
  by_cases ek : k1 = k2
  case neg =>
    have ek' : (k1 == k2) = false := by simpa using ek
    go_enter Try.func36, Try.ntmps36
    go_wp2_with fail
    go_ret
    exact ⟨by rw [← Hfin.out false (by simp [ek])]; rfl, by repeat first | exact Ext.refl _ | refine Ext.alloc ?_ _⟩
  subst ek
  by_cases en : n1 = n2
  case neg =>
    go_enter Try.func36, Try.ntmps36
    go_wp2_with fail
    go_ret
    exact ⟨by rw [← Hfin.out false (by simp [en])]; rfl, by repeat first | exact Ext.refl _ | refine Ext.alloc ?_ _⟩
  subst en
  by_cases es : s1 = s2
  case neg =>
    have es' : ¬ s1.toList = s2.toList := fun h => es (toList_inj.1 h)
    go_enter Try.func36, Try.ntmps36
    go_wp2_with fail
    go_ret
    exact ⟨by rw [← Hfin.out false (by simp [es])]; rfl, by repeat first | exact Ext.refl _ | refine Ext.alloc ?_ _⟩
  subst es
  by_cases el : l1.length = l2.length
  case neg =>
    go_enter Try.func36, Try.ntmps36
    go_wp2_with fail
    go_ret
    exact ⟨by rw [← Hfin.out false (by simp; intro e; exact el (by rw [e]))]; rfl, by repeat first | exact Ext.refl _ | refine Ext.alloc ?_ _⟩
  have el' : ((l1.length : Int) != (l2.length : Int)) = false := by rw [el]; simp
  have el1 : l1.length ≤ l2.length := by omega
  have el2 : l2.length ≤ l1.length := by omega
  clear el
  go_enter Try.func36, Try.ntmps36
  go_wp2_with fail
  go_loopw [37] (fun i wr => ∃ j : Nat, j ≤ l1.length ∧ i = .int .i64 j ∧ l1.take j = l2.take j ∧ Ext w wr ∧ w.heap.size + 1 < wr.heap.size ∧ wr.cell? ⟨w.heap.size, 3, none⟩ = some (.slice a1 l1.length cap1) ∧ wr.cell? ⟨w.heap.size + 1, 3, none⟩ = some (.slice a2 l2.length cap2)) (fun i _ => l1.length - (intOf i).toNat)
  case atStart =>
    exact ⟨0, by omega, rfl, by simp, by repeat first | exact Ext.refl _ | refine Ext.alloc ?_ _, by simp, by simp, by simp⟩
  case round =>
    obtain ⟨j, hj, rfl, ht, hx, hsz, c1, c2⟩ := hrel
    have Ht := Lib.hid ht; clear ht
    by_cases hlt : j < l1.length
    · obtain ⟨b1, o1, rfl⟩ := h1.addr (by omega)
      obtain ⟨b2, o2, rfl⟩ := h2.addr (by omega)
      obtain ⟨x0, x1, x2, x3, e0, e1, e2, e3, r1⟩ := h1.get4 (Hp.ext hH hx) j hlt
      obtain ⟨y0, y1, y2, y3, f0, f1, f2, f3, r2⟩ := h2.get4 (Hp.ext hH hx) j (by omega)
      have hlt2 : j < l2.length := by omega
      by_cases hq : l1[j] = l2[j]
      · have hc := fun ca cb w' => ih _ (List.getElem_mem hlt) l2[j] ca cb H w'
        rw [decide_eq_true hq] at hc
        have Hc := Lib.hid hc; clear hc
        have Hq := Lib.hid hq; clear hq
        go_wp2_with fail
        go_still_tail 10, (by kernel_rfl)
        change wpList _ _ _ _ _ wr.drew
        have hx1 : Ext wr wr.drew := (Ext.refl wr).drew
        generalize wr.drew = w2 at *
        have Hx := hx.trans hx1
        go_wp2_with fail
        refine (Hc.out _ _ _ (Hp.ext hH Hx) r1 r2).mono ?_
        rintro e w3 ⟨rfl, hx3⟩
        go_wp2_with fail
        go_roundw
        case rel => exact ⟨j + 1, by omega, by go_num, take_snoc hlt hlt2 Ht.out Hq.out, Hx.trans hx3, by have := hx1.size; have := hx3.size; omega, (hx1.trans hx3).cell c1, (hx1.trans hx3).cell c2⟩
        case measure => simp [intOf]; omega
      · have hc := fun ca cb w' => ih _ (List.getElem_mem hlt) l2[j] ca cb H w'
        rw [decide_eq_false hq] at hc
        have Hc := Lib.hid hc; clear hc
        have Hq := Lib.hid hq; clear hq
        go_wp2_with fail
        go_still_tail 10, (by kernel_rfl)
        change wpList _ _ _ _ _ wr.drew
        have hx1 : Ext wr wr.drew := (Ext.refl wr).drew
        generalize wr.drew = w2 at *
        have Hx := hx.trans hx1
        go_wp2_with fail
        refine (Hc.out _ _ _ (Hp.ext hH Hx) r1 r2).mono ?_
        rintro e w3 ⟨rfl, hx3⟩
        go_wp2_with fail
        go_ret
        exact ⟨by rw [← Hfin.out false (by simp; intro e; exact Hq.out (by subst e; rfl))]; rfl, Hx.trans hx3⟩
    · go_wp2_with fail
      go_ret
      refine ⟨by rw [← Hfin.out true (by simp; have := Ht.out; rwa [List.take_of_length_le (by omega), List.take_of_length_le (by omega)] at this)]; rfl, hx⟩

theorem left_le : ∀ (t : Tm) (n d : Int), left t n d ≤ n ∨ left t n d = -1
  | .mk k n0 s l, n, d => by
    unfold left
    split
    · exact .inr rfl
    · rcases lefts_le l (n - 1) (d - 1) with h | h
      · left; omega
      · exact .inr h
where lefts_le : ∀ (l : List Tm) (n d : Int), lefts l n d ≤ n ∨ lefts l n d = -1
  | [], n, d => by simp [lefts]
  | t :: r, n, d => by
    unfold lefts
    split
    · exact .inr rfl
    · rcases lefts_le r (left t n d) d with h | h
      · rcases left_le t n d with h2 | h2
        · left; omega
        · omega
      · exact .inr h

set_option maxHeartbeats 1000000 in
theorem left_any (t : Tm) : ∀ (c : List Value) (H : Hp) (n d : Int) (w : World), H.le (Hp.of w) → RTm H c t → 0 ≤ d → d ≤ 1000 → 0 ≤ n → n ≤ 1000000 →
    Calls Try.prog 40 #[.agg c.toArray, .int .i64 n, .int .i64 d] w fun e w' => e = .returned (.int .i64 (left t n d)) ∧ Ext w w' := by
  induction t using Tm.ind_all with
  | h k n0 s l ih =>
  intro c H n d w hH ht d1 d2 n1 n2
  obtain ⟨a, cap, rfl, ik, im, is, ic, hl⟩ := ht.inv
  have hle : l.length ≤ 9223372036854775807 := hl.le
  have Ih := Lib.hid ih; clear ih ht
  by_cases c1 : d < 1
  · have hv : left (.mk k n0 s l) n d = -1 := by simp [left, c1]
    have Hv := Lib.hid hv; clear hv
    go_enter Try.func40, Try.ntmps40
    go_wp2_with fail
    go_ret
    exact ⟨by rw [Hv.out]; rfl, by repeat first | exact Ext.refl _ | refine Ext.alloc ?_ _⟩
  by_cases c2 : n - 1 < 0
  · have hv : left (.mk k n0 s l) n d = -1 := by simp [left, c2]
    have Hv := Lib.hid hv; clear hv
    go_enter Try.func40, Try.ntmps40
    go_wp2_with fail
    go_ret
    exact ⟨by rw [Hv.out]; rfl, by repeat first | exact Ext.refl _ | refine Ext.alloc ?_ _⟩
  have hv : left (.mk k n0 s l) n d = lefts l (n - 1) (d - 1) := by simp only [left]; rw [if_neg (by omega)]
  have Hv := Lib.hid hv; clear hv
  go_enter Try.func40, Try.ntmps40
  go_wp2_with fail
  go_loopw [1, 19] (fun m i wr => ∃ j : Nat, j ≤ l.length ∧ i = .int .i64 j ∧ ∃ q : Int, 0 ≤ q ∧ q ≤ 1000000 ∧ m = .int .i64 q ∧ lefts l (n - 1) (d - 1) = lefts (l.drop j) q (d - 1) ∧ Ext w wr ∧ w.heap.size < wr.heap.size ∧ wr.cell? ⟨w.heap.size, 3, none⟩ = some (.slice a l.length cap)) (fun _ i _ => l.length - (intOf i).toNat)
  case atStart =>
    exact ⟨0, by omega, rfl, n - 1, by omega, by omega, rfl, rfl, by repeat first | exact Ext.refl _ | refine Ext.alloc ?_ _, by simp, by simp⟩
  case round =>
    obtain ⟨j, hj, rfl, q, q1, q2, rfl, he, hx, hz, hc⟩ := hrel
    have He := Lib.hid he; clear he
    by_cases hlt : j < l.length
    · obtain ⟨b, o, rfl⟩ := hl.addr (by omega)
      obtain ⟨x0, x1, x2, x3, e0, e1, e2, e3, r1⟩ := hl.get4 (Hp.ext hH hx) j hlt
      have hd : l.drop j = l[j] :: l.drop (j + 1) := List.drop_eq_getElem_cons hlt
      have Hd := Lib.hid hd; clear hd
      have hle2 := left_le l[j] q (d - 1)
      by_cases hn : left l[j] q (d - 1) < 0
      · go_wp2_with fail
        refine (Ih.out _ (List.getElem_mem hlt) _ _ _ _ _ (Hp.ext hH hx) r1 (by omega) (by omega) (by omega) (by omega)).mono ?_
        rintro e w3 ⟨rfl, hx3⟩
        go_wp2_with fail
        go_ret
        exact ⟨by rw [Hv.out, He.out, Hd.out, lefts, if_pos hn]; rfl, hx.trans hx3⟩
      · go_wp2_with fail
        refine (Ih.out _ (List.getElem_mem hlt) _ _ _ _ _ (Hp.ext hH hx) r1 (by omega) (by omega) (by omega) (by omega)).mono ?_
        rintro e w3 ⟨rfl, hx3⟩
        go_wp2_with fail
        go_roundw
        case rel => exact ⟨j + 1, by omega, by go_num, _, by omega, by omega, rfl, by rw [He.out, Hd.out, lefts, if_neg (by omega)], hx.trans hx3, by have := hx3.size; omega, hx3.cell hc⟩
        case measure => simp [intOf]; omega
    · go_wp2_with fail
      go_ret
      exact ⟨by rw [Hv.out, He.out, List.drop_of_length_le (by omega)]; rfl, hx⟩

/-- at most 1000 nodes, nested at most 100 deep -/
def small (t : Tm) : Bool := decide (0 ≤ left t 1000 100)

mutual
theorem left_nodes : ∀ (t : Tm) (n d : Int), 0 ≤ left t n d → left t n d = n - t.nodes
  | .mk _ _ _ l, n, d, h => by
    simp only [left] at h ⊢
    split at h
    · omega
    · rename_i hc
      rw [if_neg hc, lefts_nodes l _ _ h]
      simp only [Tm.nodes]; omega
theorem lefts_nodes : ∀ (l : List Tm) (n d : Int), 0 ≤ lefts l n d → lefts l n d = n - Tm.nodess l
  | [], n, d, h => by simp [lefts, Tm.nodess]
  | t :: r, n, d, h => by
    simp only [lefts] at h ⊢
    split at h
    · omega
    · rename_i hc
      rw [if_neg hc, lefts_nodes r _ _ h, left_nodes t n d (by omega)]
      simp only [Tm.nodess]; omega
end
theorem small_nodes {t : Tm} (h : small t = true) : t.nodes ≤ 1000 := by
  have h := of_decide_eq_true h
  have := left_nodes t 1000 100 h
  omega

theorem small_any (t : Tm) (c : List Value) (H : Hp) (w : World) (hH : H.le (Hp.of w)) (ht : RTm H c t) :
    Calls Try.prog 18 #[.agg c.toArray] w fun e w' => e = .returned (.bool (small t)) ∧ Ext w w' := by
  obtain ⟨c0, c1, c2, c3, rfl⟩ := ht.four
  go_enter Try.func18, Try.ntmps18
  go_wp2_with fail
  refine (left_any t _ H 1000 100 _ (Hp.ext hH (by repeat first | exact Ext.refl _ | refine Ext.alloc ?_ _)) ht (by omega) (by omega) (by omega) (by omega)).mono ?_
  rintro e w3 ⟨rfl, hx3⟩
  go_wp2_with fail
  go_ret
  exact ⟨rfl, by repeat first | assumption | exact Ext.refl _ | refine Ext.alloc ?_ _ | refine Ext.trans ?_ (by assumption)⟩
end Go.CK
