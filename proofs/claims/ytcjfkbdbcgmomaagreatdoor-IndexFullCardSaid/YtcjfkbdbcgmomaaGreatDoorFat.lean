/-
  Texts of this claim joined (wip/gen/bundle.py), those declarations only that are needed: UnV IxR IxB RcChk IxC IxD IxE IxF RcIxa IxG IxH LayT. By an AI agent.
-/
import Derived.Test.YtcjfkbdbcgmomaaGreatDoorFas
import Derived.Test.YtcjfkbdbcgmomaaGreatDoorProg
import Derived.Test.YtcjfkbdbcgmomaaGreatDoorFap
import Derived.Test.YtcjfkbdbcgmomaaGreatDoorFaq
import Derived.Ground.NamesProg
import Derived.Ground.Names2Prog
import Derived.Ground.SlgfProg
import Derived.Shelf.SlicesE.DeleteFunc
import Derived.Shelf.Slices.SearchI
import Derived.Shelf.Slices.Clone
set_option linter.unusedSimpArgs false
set_option linter.unusedVariables false
namespace Go.CK
open Go.AM Go.Proofs
mutual
def Tm.form : Tm -> Bool
 | .mk k n s l => if k = 0 then decide (-2147483648 ≤ n ∧ n ≤ 2147483648 ∧ s = ⟨⟨[]⟩⟩ ∧ l.length = 0)
  else if k = 1 then decide (0 ≤ n ∧ n ≤ 1048576 ∧ s = ⟨⟨[]⟩⟩ ∧ l.length = 0)
  else if k = 2 then decide (n = 0 ∧ l.length ≤ 6) && ((nameR s || (operB s && decide (l.length = 2))) && Tm.forms l)
  else false
def Tm.forms : List Tm -> Bool
 | [] => true
 | t :: r => t.form && Tm.forms r
end
mutual
def Tm.sz : Tm -> Nat
 | .mk k _ _ l => 1 + (if k = 2 then Tm.szs l else 0)
def Tm.szs : List Tm -> Nat
 | [] => 0
 | t :: r => t.sz + Tm.szs r
end
mutual
def Tm.dep : Tm -> Nat
 | .mk k _ _ l => (if k = 2 then Tm.deps l else 0) + 1
def Tm.deps : List Tm -> Nat
 | [] => 0
 | t :: r => max t.dep (Tm.deps r)
end
def vB (n d : Int) (t : Tm) : Bool := t.form && decide ((t.sz : Int) ≤ n ∧ (t.dep : Int) ≤ d)
def vLB (n d : Int) (l : List Tm) : Bool := Tm.forms l && decide ((Tm.szs l : Int) ≤ n ∧ (Tm.deps l : Int) ≤ d)
theorem szs_snoc : ∀ (l : List Tm) (x : Tm), Tm.szs (l ++ [x]) = Tm.szs l + x.sz
 | [], x => by simp [Tm.szs]
 | y :: l, x => by simp only [List.cons_append, Tm.szs, szs_snoc l x]; omega
theorem forms_snoc : ∀ (l : List Tm) (x : Tm), Tm.forms (l ++ [x]) = (Tm.forms l && x.form)
 | [], x => by simp [Tm.forms]
 | y :: l, x => by simp only [List.cons_append, Tm.forms, forms_snoc l x, Bool.and_assoc]
theorem deps_snoc : ∀ (l : List Tm) (x : Tm), Tm.deps (l ++ [x]) = max (Tm.deps l) x.dep
 | [], x => by simp [Tm.deps]
 | y :: l, x => by simp only [List.cons_append, Tm.deps, deps_snoc l x]; omega
theorem szs_take : ∀ (l : List Tm) {j : Nat} {x : Tm}, l[j]? = some x -> Tm.szs (l.take j) + x.sz ≤ Tm.szs l
 | y :: l, 0, x, h => by simp at h; subst h; simp only [List.take_zero, Tm.szs]; omega
 | y :: l, j + 1, x, h => by
  have := szs_take l (j := j) (x := x) (by simpa using h)
  simp only [List.take_succ_cons, Tm.szs]; omega
 | [], j, x, h => by simp at h
theorem forms_mem : ∀ {l : List Tm} {x : Tm}, Tm.forms l = true -> x ∈ l -> x.form = true
 | y :: l, x, h, hm => by
  simp only [Tm.forms, Bool.and_eq_true] at h; rcases List.mem_cons.1 hm with rfl | hm
  ·exact h.1
  ·exact forms_mem h.2 hm
theorem deps_mem : ∀ {l : List Tm} {x : Tm}, x ∈ l -> x.dep ≤ Tm.deps l
 | y :: l, x, hm => by
  simp only [Tm.deps]; rcases List.mem_cons.1 hm with rfl | hm
  ·omega
  ·have := deps_mem hm; omega
theorem vLB_false {n d : Int} {l : List Tm} {j : Nat} {x : Tm} (hx : l[j]? = some x) (h : vB (n - Tm.szs (l.take j)) d x = false) : vLB n d l = false := by
 rw [Bool.eq_false_iff]; intro hv; unfold vLB at hv; rw [Bool.and_eq_true, decide_eq_true_eq] at hv; obtain ⟨h1, h2, h3⟩ := hv; have hm := List.mem_of_getElem? hx; have h4 := szs_take l hx; have h5 := deps_mem hm; unfold vB at h; rw [forms_mem h1 hm, Bool.true_and, decide_eq_false_iff_not] at h; apply h; omega
theorem vB_true {n d : Int} {t : Tm} (h : vB n d t = true) : t.form = true ∧ (t.sz : Int) ≤ n ∧ (t.dep : Int) ≤ d := by
 unfold vB at h; rw [Bool.and_eq_true, decide_eq_true_eq] at h; exact h
theorem sz_leaf {t : Tm} (h : ¬ t.kind = 2) : t.sz = 1 := by
 obtain ⟨k, i, s, l⟩ := t; simp only [Tm.kind] at h; rw [Tm.sz, if_neg h]
theorem dep_leaf {t : Tm} (h : ¬ t.kind = 2) : t.dep = 1 := by
 obtain ⟨k, i, s, l⟩ := t; simp only [Tm.kind] at h; rw [Tm.dep, if_neg h]
theorem sz_fun {t : Tm} (h : t.kind = 2) : t.sz = 1 + Tm.szs t.args := by
 obtain ⟨k, i, s, l⟩ := t; simp only [Tm.kind] at h; rw [Tm.sz, if_pos h]; rfl
theorem dep_fun {t : Tm} (h : t.kind = 2) : t.dep = Tm.deps t.args + 1 := by
 obtain ⟨k, i, s, l⟩ := t; simp only [Tm.kind] at h; rw [Tm.dep, if_pos h]; rfl
theorem form_0 {t : Tm} (h : t.kind = 0) : t.form = decide (-2147483648 ≤ t.num ∧ t.num ≤ 2147483648 ∧ t.name = ⟨⟨[]⟩⟩ ∧ t.args.length = 0) := by
 obtain ⟨k, i, s, l⟩ := t; simp only [Tm.kind] at h; rw [Tm.form, if_pos h]; rfl
theorem form_1 {t : Tm} (h : t.kind = 1) : t.form = decide (0 ≤ t.num ∧ t.num ≤ 1048576 ∧ t.name = ⟨⟨[]⟩⟩ ∧ t.args.length = 0) := by
 obtain ⟨k, i, s, l⟩ := t; simp only [Tm.kind] at h; rw [Tm.form, if_neg (by omega), if_pos h]; rfl
theorem form_2 {t : Tm} (h : t.kind = 2) : t.form = (decide (t.num = 0 ∧ t.args.length ≤ 6) && ((nameR t.name || (operB t.name && decide (t.args.length = 2))) && Tm.forms t.args)) := by
 obtain ⟨k, i, s, l⟩ := t; simp only [Tm.kind] at h; rw [Tm.form, if_neg (by omega), if_neg (by omega), if_pos h]; rfl
theorem form_3 {t : Tm} (h0 : ¬ t.kind = 0) (h1 : ¬ t.kind = 1) (h2 : ¬ t.kind = 2) : t.form = false := by
 obtain ⟨k, i, s, l⟩ := t; simp only [Tm.kind] at h0 h1 h2; rw [Tm.form, if_neg h0, if_neg h1, if_neg h2]
theorem sz_pos (t : Tm) : 1 ≤ t.sz := by obtain ⟨k, i, s, l⟩ := t; rw [Tm.sz]; omega
theorem dep_pos (t : Tm) : 1 ≤ t.dep := by obtain ⟨k, i, s, l⟩ := t; rw [Tm.dep]; omega
theorem vB_low {n d : Int} {t : Tm} (h : n < 1 ∨ d < 1) : vB n d t = false := by
 have h1 := sz_pos t; have h2 := dep_pos t; unfold vB; rw [decide_eq_false (by omega), Bool.and_false]
theorem vB_leaf {n d : Int} {t : Tm} (h : ¬ t.kind = 2) (hn : 1 ≤ n) (hd : 1 ≤ d) : vB n d t = t.form := by
 unfold vB; rw [sz_leaf h, dep_leaf h, decide_eq_true (by omega), Bool.and_true]
theorem vB_fun {n d : Int} {t : Tm} (h : t.kind = 2) : vB n d t = (decide (t.num = 0 ∧ t.args.length ≤ 6) && ((nameR t.name || (operB t.name && decide (t.args.length = 2))) && vLB (n - 1) (d - 1) t.args)) := by
 unfold vB vLB
 have e : decide ((t.sz : Int) ≤ n ∧ (t.dep : Int) ≤ d) = decide ((Tm.szs t.args : Int) ≤ n - 1 ∧ (Tm.deps t.args : Int) ≤ d - 1) := by
  rw [decide_eq_decide, sz_fun h, dep_fun h]; omega
 rw [form_2 h, e, Bool.and_assoc, Bool.and_assoc]
def vPost (n : Int) (b : Bool) (k : Nat) (r : AV) (bs' : List Box) : Prop := r = .bool b ∧ ∃ m : Int, bs' = [.cells [.int .i64 m]] ∧ (b = true -> m = n - k)
theorem v_false {n d : Int} {t : Tm} {bs : List Box} {m : Int} (hb : bs = [.cells [.int .i64 m]]) (h : vB n d t = false) : vPost n (vB n d t) t.sz (.bool false) bs := ⟨by rw [h], m, hb, by rw [h]; intro e; cases e⟩
theorem v_leaf {n d : Int} {t : Tm} {b : Bool} {bs : List Box} (hk : ¬ t.kind = 2) (hb : bs = [.cells [.int .i64 (n - 1)]]) (h : vB n d t = b) : vPost n (vB n d t) t.sz (.bool b) bs := ⟨by rw [h], n - 1, hb, by rw [sz_leaf hk]; intro _; rfl⟩
set_option maxHeartbeats 1000000 in
set_option maxRecDepth 100000 in
theorem all_of {l : List Tm} {n d : Int} (hn : 0 ≤ n ∧ n ≤ 200) (hd : 0 ≤ d ∧ d ≤ 20) (hl : l.length ≤ 4294967296) (h : ∀ x ∈ l, ∀ n : Int, 0 ≤ n -> n ≤ 200 -> AM.Sem Tryz.prog 153 [.ptr 0 0, x.avw, .int .i64 d] [.cells [.int .i64 n]] (vPost n (vB n d x) x.sz)) : AM.Sem Tryz.prog 102 [.ptr 0 0, .sl .no (l.map Tm.av), .int .i64 d] [.cells [.int .i64 n]] (vPost n (vLB n d l) (Tm.szs l)) := by
 refine op_p_term_budget_all (by simp) ?_
 conv => whnf
 repeat' ((refine gL ?_; refine .map ?_) <;> conv => whnf)
 refine LoopP.by (fb := true) (fun _ (q : Nat × Int) => ⟨[(0, .ptr 0 0), (1, .sl .no (l.map Tm.av)), (2, .int .i64 d), (9, .int .i64 (l.length : Int)), (10, .int .i64 (q.1 : Int))], [.cells [.int .i64 q.2]], 1⟩) (fun q => q.1 ≤ l.length ∧ q.2 = n - Tm.szs (l.take q.1) ∧ 0 ≤ q.2 ∧ vLB n d (l.take q.1) = true) (fun q => l.length - q.1) (0, n) ⟨Nat.zero_le _, by simp [Tm.szs], hn.1, by simp [vLB, Tm.forms, Tm.szs, Tm.deps]; omega⟩ ?_ ?_
 ·exact endz
 ·rintro ⟨j, m⟩ ⟨q1, q2, q3, q4⟩; dsimp only at q1 q2 q3 q4 ⊢
  by_cases hj : j < l.length
  ·obtain ⟨x, hx⟩ : ∃ x, l[j]? = some x := ⟨_, List.getElem?_eq_getElem hj⟩; have htk : l.take (j + 1) = l.take j ++ [x] := by rw [List.take_add_one, hx]; rfl
   have hcall := h x (List.mem_of_getElem? hx) m q3 (by omega)
   conv => whnf
   repeat' ((first | (refine gC ?_; (refine gD ?_; refine cI ?_)) | (refine gI ?_; (refine gT ?_; refine iA ?_))) <;> conv => whnf)
   cases hb : vB m d x with
   | false =>
    rw [hb] at hcall; refine CallN.at [0] hcall rfl rfl ?_ oko ?_
    ·rintro r bs' ⟨rfl, m', rfl, _⟩; exact ⟨rfl, rfl, oko⟩
    rintro r bs' ⟨rfl, m', rfl, _⟩
    conv => whnf
    repeat' ((refine gC ?_; first | refine cN ?_ | refine .not ?_) <;> conv => whnf)
    conv => whnf
    repeat' (refine RetP.nrm ?_ <;> conv => whnf)
    have := vLB_false (n := n) (d := d) hx (by rw [← q2]; exact hb)
    exact ⟨by rw [this], m', rfl, by rw [this]; intro e; cases e⟩
   | true =>
    rw [hb] at hcall; refine CallN.at [0] hcall rfl rfl ?_ oko ?_
    ·rintro r bs' ⟨rfl, m', rfl, _⟩; exact ⟨rfl, rfl, oko⟩
    rintro r bs' ⟨rfl, m', rfl, hm'⟩; have hm' := hm' rfl; obtain ⟨b1, b2, b3⟩ := vB_true hb
    conv => whnf
    repeat' ((first | (refine gC ?_; first | refine cY ?_ | refine .not ?_) | (refine gW ?_; refine wI ?_)) <;> conv => whnf)
    refine ⟨(j + 1, m'), ⟨⟨hj, by show m' = n - Tm.szs (l.take (j + 1)); rw [htk, szs_snoc]; omega, by show 0 ≤ m'; omega, ?_⟩, by show _ - (j + 1) < _ - j; omega⟩, ?_⟩
    ·show vLB n d (l.take (j + 1)) = true; unfold vLB at q4 ⊢; rw [Bool.and_eq_true, decide_eq_true_eq] at q4 ⊢; rw [htk, forms_snoc, szs_snoc, deps_snoc, q4.1, b1]; exact ⟨rfl, by omega, by omega⟩
    exact endz
  ·obtain rfl : j = l.length := by omega
   rw [List.take_of_length_le (Nat.le_refl _)] at q2 q4
   conv => whnf
   repeat' ((refine gC ?_; (refine gD ?_; refine cJ ?_)) <;> conv => whnf)
   conv => whnf
   repeat' (refine RetP.nrm ?_ <;> conv => whnf)
   exact ⟨by rw [q4], m, rfl, fun _ => q2⟩
set_option maxHeartbeats 1000000 in
set_option maxRecDepth 100000 in
theorem valid_ok (t : Tm) : ∀ n d : Int, 0 ≤ n -> n ≤ 200 -> 0 ≤ d -> d ≤ 20 -> AM.Sem Tryz.prog 153 [.ptr 0 0, t.avw, .int .i64 d] [.cells [.int .i64 n]] (vPost n (vB n d t) t.sz) := by
 induction t using Tm.ind_all with
 | h k i s l ih =>
 intro n d hn hn2 hd hd2; generalize ha : Tm.mk k i s l = t; replace ih : ∀ x ∈ t.args, ∀ n d : Int, 0 ≤ n -> n ≤ 200 -> 0 ≤ d -> d ≤ 20 -> AM.Sem Tryz.prog 153 [.ptr 0 0, x.avw, .int .i64 d] [.cells [.int .i64 n]] (vPost n (vB n d x) x.sz) := by subst ha; exact ih
 clear ha; refine Sem.assume fun hg0 _ => ?_; have hg := (good_tm (hg0 t.avw (by simp) rfl)).2.1
 refine op_p_term_budget_valid (by simp) ?_
 by_cases hlow : n < 1 ∨ d < 1
 ·by_cases h1 : n < 1
  ·conv => whnf
   repeat' ((first | (refine gC ?_; first | refine cY ?_ | (refine gD ?_; refine cI ?_)) | (refine gW ?_; refine wI ?_)) <;> conv => whnf)
   refine RetP.lay [some 0] oko ?_
   conv => whnf
   conv => whnf
   repeat' (refine RetP.nrm ?_ <;> conv => whnf)
   exact v_false rfl (vB_low hlow)
  ·have h2 : d < 1 := hlow.resolve_left h1
   conv => whnf
   repeat' ((first | (refine gC ?_; (refine gD ?_; first | refine cI ?_ | refine cJ ?_)) | (refine gW ?_; refine wI ?_)) <;> conv => whnf)
   refine RetP.lay [some 0] oko ?_
   conv => whnf
   conv => whnf
   repeat' (refine RetP.nrm ?_ <;> conv => whnf)
   exact v_false rfl (vB_low hlow)
 ·have h1 : ¬ n < 1 := fun e => hlow (.inl e); have h2 : ¬ d < 1 := fun e => hlow (.inr e)
  by_cases hk2 : t.kind = 2
  ·rw [show vPost n (vB n d t) t.sz = vPost n (decide (t.num = 0 ∧ t.args.length ≤ 6) && ((nameR t.name || (operB t.name && decide (t.args.length = 2))) && vLB (n - 1) (d - 1) t.args)) t.sz by rw [vB_fun hk2]]
   by_cases h3 : t.num = 0 ∧ t.args.length ≤ 6
   rotate_left
   ·rw [decide_eq_false h3, Bool.false_and]
    by_cases h4 : t.num = 0
    ·have h5 : ¬ t.args.length ≤ 6 := fun e => h3 ⟨h4, e⟩
     conv => whnf
     repeat' ((first | (refine gC ?_; first | refine .not ?_ | (refine gD ?_; first | refine cI ?_ | refine cJ ?_)) | (refine gW ?_; refine wI ?_) | (refine gL ?_; refine .map ?_)) <;> conv => whnf)
     refine RetP.lay [some 0] oko ?_
     conv => whnf
     conv => whnf
     repeat' (refine RetP.nrm ?_ <;> conv => whnf)
     exact ⟨rfl, _, rfl, fun e => by cases e⟩
    ·conv => whnf
     repeat' ((first | (refine gC ?_; first | refine cY ?_ | refine .not ?_ | (refine gD ?_; first | refine cI ?_ | refine cJ ?_)) | (refine gW ?_; refine wI ?_)) <;> conv => whnf)
     refine RetP.lay [some 0] oko ?_
     conv => whnf
     conv => whnf
     repeat' (refine RetP.nrm ?_ <;> conv => whnf)
     exact ⟨rfl, _, rfl, fun e => by cases e⟩
   obtain ⟨h4, h5⟩ := h3; rw [decide_eq_true (show t.num = 0 ∧ t.args.length ≤ 6 from ⟨h4, h5⟩), Bool.true_and]; have hro := right_ok t.name; have hoo := oper_ok t.name
   cases hnr : nameR t.name with
   | true =>
    rw [hnr] at hro; rw [Bool.true_or, Bool.true_and]
    conv => whnf
    repeat' ((first | (refine gF ?_; refine CallN.fn (hro) ?_) | (refine gC ?_; first | refine cY ?_ | refine cN ?_ | refine .not ?_ | (refine gD ?_; first | refine cI ?_ | refine cJ ?_)) | (refine gW ?_; refine wI ?_) | (refine gL ?_; refine .map ?_)) <;> conv => whnf)
    refine CallN.at [0] (all_of (l := t.args) (n := n - 1) (d := d - 1) ⟨by omega, by omega⟩ ⟨by omega, by omega⟩ hg fun x hx m hm hm2 => ih x hx m (d - 1) hm hm2 (by omega) (by omega)) rfl rfl ?_ oko ?_
    ·rintro r bs' ⟨rfl, m', rfl, _⟩; exact ⟨rfl, rfl, oko⟩
    rintro r bs' ⟨rfl, m', rfl, hm'⟩
    conv => whnf
    skip; refine RetP.lay [some 0] oko ?_
    conv => whnf
    conv => whnf
    repeat' (refine RetP.nrm ?_ <;> conv => whnf)
    exact ⟨rfl, m', rfl, fun e => by rw [hm' e, sz_fun hk2]; omega⟩
   | false =>
    rw [hnr] at hro; rw [Bool.false_or]
    cases hop : operB t.name with
    | false =>
     rw [hop] at hoo; rw [Bool.false_and, Bool.false_and]
     conv => whnf
     repeat' ((first | (refine gF ?_; first | refine CallN.fn (hro) ?_ | refine CallN.fn (hoo) ?_) | (refine gC ?_; first | refine cN ?_ | refine .not ?_ | (refine gD ?_; first | refine cI ?_ | refine cJ ?_)) | (refine gW ?_; refine wI ?_) | (refine gL ?_; refine .map ?_)) <;> conv => whnf)
     refine RetP.lay [some 0] oko ?_
     conv => whnf
     conv => whnf
     repeat' (refine RetP.nrm ?_ <;> conv => whnf)
     exact ⟨rfl, _, rfl, fun e => by cases e⟩
    | true =>
     rw [hop] at hoo; rw [Bool.true_and]
     by_cases h6 : t.args.length = 2
     ·rw [decide_eq_true h6, Bool.true_and]
      conv => whnf
      repeat' ((first | (refine gF ?_; first | refine CallN.fn (hro) ?_ | refine CallN.fn (hoo) ?_) | (refine gC ?_; first | refine cY ?_ | refine cN ?_ | refine .not ?_ | (refine gD ?_; first | refine cI ?_ | refine cJ ?_)) | (refine gW ?_; refine wI ?_) | (refine gL ?_; refine .map ?_)) <;> conv => whnf)
      refine CallN.at [0] (all_of (l := t.args) (n := n - 1) (d := d - 1) ⟨by omega, by omega⟩ ⟨by omega, by omega⟩ hg fun x hx m hm hm2 => ih x hx m (d - 1) hm hm2 (by omega) (by omega)) rfl rfl ?_ oko ?_
      ·rintro r bs' ⟨rfl, m', rfl, _⟩; exact ⟨rfl, rfl, oko⟩
      rintro r bs' ⟨rfl, m', rfl, hm'⟩
      conv => whnf
      skip; refine RetP.lay [some 0] oko ?_
      conv => whnf
      conv => whnf
      repeat' (refine RetP.nrm ?_ <;> conv => whnf)
      exact ⟨rfl, m', rfl, fun e => by rw [hm' e, sz_fun hk2]; omega⟩
     ·rw [decide_eq_false h6, Bool.false_and]
      conv => whnf
      repeat' ((first | (refine gF ?_; first | refine CallN.fn (hro) ?_ | refine CallN.fn (hoo) ?_) | (refine gC ?_; first | refine cY ?_ | refine cN ?_ | refine .not ?_ | (refine gD ?_; first | refine cI ?_ | refine cJ ?_)) | (refine gW ?_; refine wI ?_) | (refine gL ?_; refine .map ?_)) <;> conv => whnf)
      refine RetP.lay [some 0] oko ?_
      conv => whnf
      conv => whnf
      repeat' (refine RetP.nrm ?_ <;> conv => whnf)
      exact ⟨rfl, _, rfl, fun e => by cases e⟩
  ·by_cases hk0 : t.kind = 0
   ·conv => whnf
    repeat' ((first | (refine gC ?_; first | refine cN ?_ | (refine gD ?_; first | refine cI ?_ | refine cJ ?_) | refine CondN.le (fun hc => ?_) (fun hc => ?_) | refine CondN.dec (fun hc => ?_) (fun hc => ?_)) | (refine gW ?_; refine wI ?_) | (refine gL ?_; refine .map ?_)) <;> conv => whnf)
    all_goals
     refine RetP.lay [some 0] oko ?_
     conv => whnf
     conv => whnf
     repeat' (refine RetP.nrm ?_ <;> conv => whnf)
     refine v_leaf hk2 rfl ?_; rw [vB_leaf hk2 (by omega) (by omega), form_0 hk0]
     first
      | (rw [decide_eq_decide]; exact ⟨fun h => by omega, fun h => ⟨by omega, by omega, by assumption, by omega⟩⟩)
      | (rw [decide_eq_false_iff_not]; rintro ⟨e1, e2, e3, e4⟩; first | omega | contradiction)
      | (rw [decide_eq_true_iff]; exact ⟨by omega, by omega, by assumption, by omega⟩)
   ·by_cases hk1 : t.kind = 1
    ·conv => whnf
     repeat' ((first | (refine gC ?_; first | refine cN ?_ | (refine gD ?_; first | refine cI ?_ | refine cJ ?_) | refine CondN.le (fun hc => ?_) (fun hc => ?_) | refine CondN.dec (fun hc => ?_) (fun hc => ?_)) | (refine gW ?_; refine wI ?_) | (refine gL ?_; refine .map ?_)) <;> conv => whnf)
     all_goals
      refine RetP.lay [some 0] oko ?_
      conv => whnf
      conv => whnf
      repeat' (refine RetP.nrm ?_ <;> conv => whnf)
      refine v_leaf hk2 rfl ?_; rw [vB_leaf hk2 (by omega) (by omega), form_1 hk1]
      first
       | (rw [decide_eq_decide]; exact ⟨fun h => by omega, fun h => ⟨by omega, by omega, by assumption, by omega⟩⟩)
       | (rw [decide_eq_false_iff_not]; rintro ⟨e1, e2, e3, e4⟩; first | omega | contradiction)
       | (rw [decide_eq_true_iff]; exact ⟨by omega, by omega, by assumption, by omega⟩)
    ·conv => whnf
     repeat' ((first | (refine gC ?_; (refine gD ?_; refine cJ ?_)) | (refine gW ?_; refine wI ?_)) <;> conv => whnf)
     refine RetP.lay [some 0] oko ?_
     conv => whnf
     conv => whnf
     repeat' (refine RetP.nrm ?_ <;> conv => whnf)
     exact v_false rfl (by rw [vB_leaf hk2 (by omega) (by omega), form_3 hk0 hk1 hk2])
end Go.CK
namespace Go.CK
end Go.CK
namespace Go.CK
open Go.AM Go.Proofs
open Go.AM Go.Proofs
theorem budAll_ok {l : List Tm} (hl : l.length ≤ 4294967296) : AM.Sem Tryz.prog 102 [.ptr 0 0, .sl .no (l.map Tm.av), .int .i64 20] [.cells [.int .i64 200]] (vPost 200 (vLB 200 20 l) (Tm.szs l)) := all_of ⟨by decide, by decide⟩ ⟨by decide, by decide⟩ hl fun x _ n h1 h2 => valid_ok x n 20 h1 h2 (by decide) (by decide)
def At.right (x : At) : Bool := nameR x.name && (decide (x.args.length ≤ 6) && vLB 200 20 x.args)
set_option maxRecDepth 100000 in
theorem RightAtom_ok (x : At) (hl : x.args.length ≤ 4294967296) : Fun Tryz.prog 49 [x.av] (.bool x.right) := by
 have hn := right_ok x.name; unfold At.right
 cases h1 : nameR x.name with
 | false =>
  rw [h1] at hn; refine Fun.of (op_term_RightAtom (by simp) ?_) rfl rfl
  conv => whnf
  conv => whnf
  repeat' ((first | (refine gF ?_; refine CallN.fn (hn) ?_) | (refine gC ?_; refine cN ?_) | refine RetP.nrm ?_) <;> conv => whnf)
  rfl
 | true =>
 rw [h1] at hn
 by_cases h6 : x.args.length ≤ 6
 ·rw [decide_eq_true h6]; refine Fun.of (op_term_RightAtom (by simp) ?_) rfl rfl
  conv => whnf
  conv => whnf
  repeat' ((first | (refine gF ?_; refine CallN.fn (hn) ?_) | (refine gC ?_; first | refine cY ?_ | (refine gD ?_; refine cI ?_)) | (refine gL ?_; refine .map ?_)) <;> conv => whnf)
  refine CallN.at [1] (budAll_ok hl) rfl rfl ?_ oko ?_
  ·rintro r bs' ⟨rfl, m', rfl, _⟩; exact ⟨rfl, rfl, oko⟩
  rintro r bs' ⟨rfl, m', rfl, hm'⟩
  conv => whnf
  repeat' ((refine gC ?_; (refine gD ?_; refine cI ?_)) <;> conv => whnf)
  conv => whnf
  repeat' (refine RetP.nrm ?_ <;> conv => whnf)
  rfl
 ·rw [decide_eq_false h6]; refine Fun.of (op_term_RightAtom (by simp) ?_) rfl rfl
  conv => whnf
  conv => whnf
  repeat' ((first | (refine gF ?_; refine CallN.fn (hn) ?_) | (refine gC ?_; first | refine cY ?_ | (refine gD ?_; refine cJ ?_)) | (refine gL ?_; refine .map ?_) | refine RetP.nrm ?_) <;> conv => whnf)
  rfl
end Go.CK
namespace Go.CK
open Go.AM Go.Proofs
variable {vals : List AV} {bs : List Box} {Q : AV -> List Box -> Prop}
def rc_store_Right : RC :=
 (.seq
 (.reg false [0] [
 oQ 2 (.mov (.c (.bool false)))])
 (.seq
 (.seq
 (.reg false [0, 8] [
 qM 6 0, oQ 7 (.len false (.t 6)), oQ 8 (.bin .gtr (.t 7) (.c (.int .i64 500)))])
 (.cond (.t 8)
 (.seq
 (.reg false [2] [
 oQ 2 (.mov (.c (.bool false)))])
 .ret)
 .skip))
 (.seq
 (.reg false [0, 3] [
 oQ 3 (.mov (.c (.int .i64 0)))])
 (.seq
 (.seq
 (.reg false [3, 9, 10, 11] [
 qM 9 0, oQ 10 (.len false (.t 9)), oQ 11 (.mov (.c (.int .i64 0)))])
 (.block 0
 (.loop
 (.seq
 (.reg false [3, 9, 10, 11, 12] [
 oQ 12 (.bin .lss (.t 11) (.t 10))])
 (.seq
 (.cond (.t 12)
 .skip
 (.exit 0))
 (.seq
 (.block 1
 (.seq
 (.reg false [3, 5, 9, 10, 11] [
 qI 13 3 9 11, qA 14 3 13, oQ 5 (.box (.c (.agg [(.int .i64 0), (.str ⟨⟨[]⟩⟩), (.sl .full [])]))), oN (.store 3 (.t 5) (.t 14))])
 (.seq
 (.seq
 (.reg false [5, 9, 10, 11, 24] [
 qF 15 0 5, qL 16 15, qM 17 3, oQ 18 (.bin .leq (.t 16) (.t 17)), qM 19 18, oG 20 19 false (.fptr 1 (.t 5)), oG 21 19 false (.load true 2 (.t 20)), oG 22 19 false (.call (.c (.fn (.func 49) [] [])) [(.t 21)]), oG 23 19 false (.un .not (.t 22)), oQ 24 (.pick (.t 19) (.c (.bool true)) (.t 23))])
 (.cond (.t 24)
 (.seq
 (.reg false [2] [
 oQ 2 (.mov (.c (.bool false)))])
 .ret)
 .skip))
 (.reg false [3, 9, 10, 11] [
 qF 25 0 5, qL 26 25, qM 3 26]))))
 (.reg false [3, 9, 10, 11] [
 oQ 27 (.bin .add (.t 11) (.c (.int .i64 1))), qM 11 27])))))))
 (.seq
 (.reg false [2] [
 oQ 2 (.mov (.c (.bool true)))])
 .ret)))))
theorem op_store_Right (hn : vals.length ≤ 28) (h : SP Tryz.prog true vals bs rc_store_Right [.slot 2] Q) : AM.Sem Tryz.prog 40 vals bs Q :=
 Sem.nrm (Sem.of (fn := Tryz.f40) (keeps := [(0, [0]), (1, [0, 8]), (2, [2]), (3, [0, 3]), (4, [3, 9, 10, 11]), (5, [3, 9, 10, 11, 12]), (6, [3, 5, 9, 10, 11]), (7, [5, 9, 10, 11, 24]), (8, [2]), (9, [3, 9, 10, 11]), (10, [3, 9, 10, 11]), (11, [2])]) (solo := []) Tryz.func40 rfl (by kernel_rfl) (by kernel_rfl) (by kernel_rfl) hn (run_gp h))
end Go.CK
namespace Go.CK
end Go.CK
namespace Go.CK
end Go.CK
namespace Go.CK
end Go.CK
namespace Go.CK
end Go.CK
namespace Go.CK
open Go.AM Go.Proofs
variable {vals : List AV} {bs : List Box} {Q : AV -> List Box -> Prop}
def rc_index_New : RC :=
 (.seq
 (.reg false [0, 1] [
 oQ 4 (.mov (.c .nptr)), oQ 5 (.mov (.c (.int .i64 0)))])
 (.seq
 (.seq
 (.reg false [0, 1, 17] [
 qM 11 0, oQ 12 (.call (.c (.fn (.func 40) [] [])) [(.t 11)]), oQ 13 (.un .not (.t 12)), qM 14 13, oG 15 14 false (.mov (.t 1)), oG 16 14 false (.call (.c (.fn (.func 41) [] [])) [(.t 15), (.c (.fn (.func 42) [] []))]), oQ 17 (.pick (.t 14) (.c (.bool true)) (.t 16))])
 (.cond (.t 17)
 (.seq
 (.reg false [4, 5] [
 oQ 4 (.mov (.c .nptr)), oQ 5 (.mov (.c (.int .i64 2)))])
 .ret)
 .skip))
 (.seq
 (.reg false [0, 1, 6] [
 oQ 18 (.build [(.sl .full []), (.sl .full []), (.sl .full [])] []), oQ 19 (.box (.t 18)), qM 6 19])
 (.seq
 (.seq
 (.reg false [0, 6, 20, 21, 22] [
 qM 20 1, oQ 21 (.len false (.t 20)), oQ 22 (.mov (.c (.int .i64 0)))])
 (.block 0
 (.loop
 (.seq
 (.reg false [0, 6, 20, 21, 22, 23] [
 oQ 23 (.bin .lss (.t 22) (.t 21))])
 (.seq
 (.cond (.t 23)
 .skip
 (.exit 0))
 (.seq
 (.block 1
 (.seq
 (.reg false [0, 6, 8, 20, 21, 22] [
 qI 24 3 20 22, qA 25 3 24, oQ 8 (.box (.c (.agg [(.str ⟨⟨[]⟩⟩), (.int .i64 0), (.sl .full [])]))), oN (.store 3 (.t 8) (.t 25))])
 (.seq
 (.reg false [0, 6, 8, 20, 21, 22] [
 qF 26 2 8, qL 27 26, oQ 28 (.call (.c (.fn (.func 44) [] [])) [(.t 27)]), qF 29 2 8, oN (.store 1 (.t 29) (.t 28))])
 (.seq
 (.mult [0, 6, 20, 21, 22] [
 (0, qM 30 6), (0, qM 31 6), (0, qK 32 31), (0, qF 33 0 32), (0, qL 34 33), (0, qA 35 3 8), (2, oQ 36 (.eff (.bsR 3) [(.t 35)])), (2, oQ 37 (.eff (.appB 3) [(.t 34), (.t 36)])), (0, qK 38 30), (0, qF 39 0 38), (0, oN (.store 1 (.t 39) (.t 37)))])
 (.reg false [0, 6, 20, 21, 22] [
 qM 40 6, qM 41 6, qK 42 41, qF 43 2 42, qL 44 43, oQ 45 (.eff .mkM []), oQ 46 (.eff (.bsR 1) [(.t 45)]), oQ 47 (.eff (.appB 1) [(.t 44), (.t 46)]), qK 48 40, qF 49 2 48, oN (.store 1 (.t 49) (.t 47))])))))
 (.reg false [0, 6, 20, 21, 22] [
 oQ 50 (.bin .add (.t 22) (.c (.int .i64 1))), qM 22 50])))))))
 (.seq
 (.seq
 (.reg false [6, 51, 52, 53] [
 qM 51 0, oQ 52 (.len false (.t 51)), oQ 53 (.mov (.c (.int .i64 0)))])
 (.block 2
 (.loop
 (.seq
 (.reg false [6, 51, 52, 53, 54] [
 oQ 54 (.bin .lss (.t 53) (.t 52))])
 (.seq
 (.cond (.t 54)
 .skip
 (.exit 2))
 (.seq
 (.block 3
 (.seq
 (.reg false [6, 10, 51, 52, 53] [
 qI 55 3 51 53, qA 56 3 55, oQ 10 (.box (.c (.agg [(.int .i64 0), (.str ⟨⟨[]⟩⟩), (.sl .full [])]))), oN (.store 3 (.t 10) (.t 56))])
 (.mult [6, 51, 52, 53] [
 (0, qM 57 6), (0, qM 58 6), (0, qK 59 58), (0, qF 60 1 59), (0, qL 61 60), (0, qA 62 3 10), (0, oQ 63 (.call (.c (.fn (.func 45) [] [])) [(.t 62)])), (2, oQ 64 (.eff (.bsR 3) [(.t 63)])), (2, oQ 65 (.eff (.appB 3) [(.t 61), (.t 64)])), (0, qK 66 57), (0, qF 67 1 66), (0, oN (.store 1 (.t 67) (.t 65)))])))
 (.reg false [6, 51, 52, 53] [
 oQ 68 (.bin .add (.t 53) (.c (.int .i64 1))), qM 53 68])))))))
 (.seq
 (.reg false [6] [
 qM 69 6, oQ 70 (.call (.c (.fn (.func 46) [] [])) [(.t 69)])])
 (.seq
 (.reg false [4, 5] [
 qM 71 6, qM 4 71, oQ 5 (.mov (.c (.int .i64 0)))])
 .ret)))))))
def rc_index_right : RC :=
 (.seq
 (.reg false [1] [
 oQ 1 (.box (.t 0)), oQ 2 (.mov (.c (.bool false)))])
 (.seq
 (.seq
 (.reg false [1, 19] [
 qF 6 0 1, qL 7 6, oQ 8 (.call (.c (.fn (.func 95) [] [])) [(.t 7)]), oQ 9 (.un .not (.t 8)), qM 10 9, oG 11 10 false (.fptr 1 (.t 1)), oG 12 10 false (.load false 1 (.t 11)), oG 13 10 false (.bin .lss (.t 12) (.c (.int .i64 0))), oQ 14 (.pick (.t 10) (.c (.bool true)) (.t 13)), qM 15 14, oG 16 15 false (.fptr 1 (.t 1)), oG 17 15 false (.load false 1 (.t 16)), oG 18 15 false (.bin .gtr (.t 17) (.c (.int .i64 6))), oQ 19 (.pick (.t 15) (.c (.bool true)) (.t 18))])
 (.cond (.t 19)
 (.seq
 (.reg false [2] [
 oQ 2 (.mov (.c (.bool false)))])
 .ret)
 .skip))
 (.seq
 (.reg false [1, 3] [
 oQ 3 (.mov (.c (.int .i64 (-1))))])
 (.seq
 (.seq
 (.reg false [1, 3, 21, 22, 23] [
 qF 20 2 1, qL 21 20, oQ 22 (.len false (.t 21)), oQ 23 (.mov (.c (.int .i64 0)))])
 (.block 0
 (.loop
 (.seq
 (.reg false [1, 3, 21, 22, 23, 24] [
 oQ 24 (.bin .lss (.t 23) (.t 22))])
 (.seq
 (.cond (.t 24)
 .skip
 (.exit 0))
 (.seq
 (.block 1
 (.seq
 (.reg false [1, 3, 5, 21, 22, 23] [
 qI 25 1 21 23, qL 26 25, qM 5 26])
 (.seq
 (.seq
 (.reg false [1, 5, 21, 22, 23, 35] [
 qM 27 5, qM 28 3, oQ 29 (.bin .leq (.t 27) (.t 28)), qM 30 29, oG 31 30 false (.mov (.t 5)), oG 32 30 false (.fptr 1 (.t 1)), oG 33 30 false (.load false 1 (.t 32)), oG 34 30 false (.bin .geq (.t 31) (.t 33)), oQ 35 (.pick (.t 30) (.c (.bool true)) (.t 34))])
 (.cond (.t 35)
 (.seq
 (.reg false [2] [
 oQ 2 (.mov (.c (.bool false)))])
 .ret)
 .skip))
 (.reg false [1, 3, 21, 22, 23] [
 qM 36 5, qM 3 36]))))
 (.reg false [1, 3, 21, 22, 23] [
 oQ 37 (.bin .add (.t 23) (.c (.int .i64 1))), qM 23 37])))))))
 (.seq
 (.reg false [2] [
 oQ 2 (.mov (.c (.bool true)))])
 .ret)))))
theorem op_index_right (hn : vals.length ≤ 38) (h : SP Tryz.prog true vals bs rc_index_right [.slot 2] Q) : AM.Sem Tryz.prog 43 vals bs Q :=
 Sem.nrm (Sem.of (fn := Tryz.f43) (keeps := [(0, [1]), (1, [1, 19]), (2, [2]), (3, [1, 3]), (4, [1, 3, 21, 22, 23]), (5, [1, 3, 21, 22, 23, 24]), (6, [1, 3, 5, 21, 22, 23]), (7, [1, 5, 21, 22, 23, 35]), (8, [2]), (9, [1, 3, 21, 22, 23]), (10, [1, 3, 21, 22, 23]), (11, [2])]) (solo := []) Tryz.func43 rfl (by kernel_rfl) (by kernel_rfl) (by kernel_rfl) hn (run_gp h))
def rc_index_New_1 : RC :=
 (.seq
 (.reg false [1] [
 oQ 1 (.box (.t 0)), oQ 2 (.mov (.c (.bool false)))])
 (.seq
 (.reg false [2] [
 qA 3 3 1, oQ 4 (.call (.c (.fn (.func 43) [] [])) [(.t 3)]), oQ 5 (.un .not (.t 4)), qM 2 5])
 .ret))
theorem op_index_New_1 (hn : vals.length ≤ 6) (h : SP Tryz.prog true vals bs rc_index_New_1 [.slot 2] Q) : AM.Sem Tryz.prog 42 vals bs Q :=
 Sem.nrm (Sem.of (fn := Tryz.f42) (keeps := [(0, [1]), (1, [2])]) (solo := []) Tryz.func42 rfl (by kernel_rfl) (by kernel_rfl) (by kernel_rfl) hn (run_gp h))
def rc_slices_ContainsFunc_api_Access_api_Access : RC :=
 (.seq
 (.reg false [0, 1] [
 oQ 4 (.mov (.c (.bool false)))])
 (.seq
 (.reg false [4] [
 qM 5 0, qM 6 1, oQ 7 (.call (.c (.fn (.func 94) [] [])) [(.t 5), (.t 6)]), oQ 8 (.bin .geq (.t 7) (.c (.int .i64 0))), qM 4 8])
 .ret))
theorem op_slices_ContainsFunc_api_Access_api_Access (hn : vals.length ≤ 9) (h : SP Tryz.prog true vals bs rc_slices_ContainsFunc_api_Access_api_Access [.slot 4] Q) : AM.Sem Tryz.prog 41 vals bs Q :=
 Sem.nrm (Sem.of (fn := Tryz.f41) (keeps := [(0, [0, 1]), (1, [4])]) (solo := []) Tryz.func41 rfl (by kernel_rfl) (by kernel_rfl) (by kernel_rfl) hn (run_gp h))
def rc_slices_Clone_int_int : RC :=
 (.seq
 (.reg false [0] [
 oQ 2 (.mov (.c (.sl .full [])))])
 (.seq
 (.seq
 (.reg false [0, 4] [
 qM 3 0, oQ 4 (.eff (.nilS false) [(.t 3)])])
 (.cond (.t 4)
 (.seq
 (.reg false [2] [
 oQ 2 (.mov (.c (.sl .full [])))])
 .ret)
 .skip))
 (.seq
 (.reg false [2] [
 oQ 5 (.bslice 1 []), qM 6 0, oQ 7 (.append 1 (.t 5) (.t 6)), qM 2 7])
 .ret)))
theorem op_slices_Clone_int_int (hn : vals.length ≤ 8) (h : SP Tryz.prog true vals bs rc_slices_Clone_int_int [.slot 2] Q) : AM.Sem Tryz.prog 44 vals bs Q :=
 Sem.nrm (Sem.of (fn := Tryz.f44) (keeps := [(0, [0]), (1, [0, 4]), (2, [2]), (3, [2])]) (solo := []) Tryz.func44 rfl (by kernel_rfl) (by kernel_rfl) (by kernel_rfl) hn (run_gp h))
def rc_p_index_Index_rebuild : RC :=
 (.seq
 (.seq
 (.reg false [0, 9, 10, 11] [
 qM 6 0, qK 7 6, qF 8 2 7, qL 9 8, oQ 10 (.len false (.t 9)), oQ 11 (.mov (.c (.int .i64 0)))])
 (.block 0
 (.loop
 (.seq
 (.reg false [0, 9, 10, 11, 12] [
 oQ 12 (.bin .lss (.t 11) (.t 10))])
 (.seq
 (.cond (.t 12)
 .skip
 (.exit 0))
 (.seq
 (.block 1
 (.seq
 (.reg false [0, 3, 9, 10, 11] [
 qI 13 1 9 11, qL 14 13, qM 3 14])
 (.reg false [0, 9, 10, 11] [
 qM 15 3, oN (.eff (.tab .clr) [(.t 15)])])))
 (.reg false [0, 9, 10, 11] [
 oQ 16 (.bin .add (.t 11) (.c (.int .i64 1))), qM 11 16])))))))
 (.seq
 (.reg false [0, 20, 21, 22] [
 qM 17 0, qK 18 17, qF 19 1 18, qL 20 19, oQ 21 (.len false (.t 20)), oQ 22 (.mov (.c (.int .i64 0)))])
 (.block 2
 (.loop
 (.seq
 (.reg false [0, 20, 21, 22, 23] [
 oQ 23 (.bin .lss (.t 22) (.t 21))])
 (.seq
 (.cond (.t 23)
 .skip
 (.exit 2))
 (.seq
 (.block 3
 (.seq
 (.reg false [0, 5, 20, 21, 22] [
 qI 24 3 20 22, qA 25 3 24, oQ 5 (.box (.c (.agg [(.int .i64 0), (.str ⟨⟨[]⟩⟩), (.sl .full [])]))), oN (.store 3 (.t 5) (.t 25))])
 (.reg false [0, 20, 21, 22] [
 qM 26 0, qA 27 3 5, oQ 28 (.call (.c (.fn (.func 51) [] [])) [(.t 26), (.t 27)])])))
 (.reg false [0, 20, 21, 22] [
 oQ 29 (.bin .add (.t 22) (.c (.int .i64 1))), qM 22 29]))))))))
theorem opS_index_New (hn : vals.length ≤ 72) (h : SP Tryz.prog false vals bs rc_index_New [.slot 4, .slot 5] Q) : AM.Sem Tryz.prog 11 vals bs Q :=
 Sem.nrm (Sem.of (fn := Tryz.f11) (keeps := [(0, [0, 1]), (1, [0, 1, 17]), (2, [4, 5]), (3, [0, 1, 6]), (4, [0, 6, 20, 21, 22]), (5, [0, 6, 20, 21, 22, 23]), (6, [0, 6, 8, 20, 21, 22]), (7, [0, 6, 8, 20, 21, 22]), (8, [0, 6, 20, 21, 22]), (9, [0, 6, 20, 21, 22]), (10, [0, 6, 20, 21, 22]), (11, [6, 51, 52, 53]), (12, [6, 51, 52, 53, 54]), (13, [6, 10, 51, 52, 53]), (14, [6, 51, 52, 53]), (15, [6, 51, 52, 53]), (16, [6]), (17, [4, 5]), (1000000, [36, 37, 46, 47, 64, 65]), (2000008, [0, 1, 2, 3, 4, 5, 6, 7, 8, 9, 10]), (3000008, [0, 0, 0, 0, 0, 0, 2, 2, 0, 0, 0]), (2000014, [0, 1, 2, 3, 4, 5, 6, 7, 8, 9, 10, 11]), (3000014, [0, 0, 0, 0, 0, 0, 0, 2, 2, 0, 0, 0])]) (solo := []) Tryz.func11 rfl (by kernel_rfl) (by kernel_rfl) (by kernel_rfl) hn (run_gp h))
theorem opS_p_index_Index_rebuild (hn : vals.length ≤ 30) (h : SP Tryz.prog false vals bs rc_p_index_Index_rebuild [] Q) : AM.Sem Tryz.prog 46 vals bs Q :=
 Sem.nrm (Sem.of (fn := Tryz.f46) (keeps := [(0, [0, 9, 10, 11]), (1, [0, 9, 10, 11, 12]), (2, [0, 3, 9, 10, 11]), (3, [0, 9, 10, 11]), (4, [0, 9, 10, 11]), (5, [0, 20, 21, 22]), (6, [0, 20, 21, 22, 23]), (7, [0, 5, 20, 21, 22]), (8, [0, 20, 21, 22]), (9, [0, 20, 21, 22])]) (solo := []) Tryz.func46 rfl (by kernel_rfl) (by kernel_rfl) (by kernel_rfl) hn (run_gp h))
end Go.CK
namespace Go.CK
open Go.AM Go.Proofs
def posB (n : Int) : Int -> List Int -> Bool
 | _, [] => true
 | last, p :: l => decide (last < p) && (decide (p < n) && posB n p l)
def Ac.right (a : Ac) : Bool := nameR a.name && (decide (0 ≤ a.arity) && (decide (a.arity ≤ 6) && posB a.arity (-1) a.positions))
def lastP (l : List Int) (j : Nat) : Int := match j with
 | 0 => -1
 | j + 1 => l.getD j 0
set_option maxRecDepth 100000 in
theorem acRight_ok {a : Ac} (hl : a.positions.length ≤ 10000000) : Fun Tryz.prog 43 [a.av] (.bool a.right) := by
 have hn := right_ok a.name; unfold Ac.right
 cases hb : nameR a.name with
 | false =>
  rw [hb] at hn; refine Fun.of (op_index_right (by simp) ?_) rfl rfl
  conv => whnf
  conv => whnf
  repeat' ((first | (refine gF ?_; refine CallN.fn (hn) ?_) | (refine gC ?_; first | refine cY ?_ | refine cN ?_ | refine .not ?_) | refine RetP.nrm ?_) <;> conv => whnf)
  rfl
 | true =>
  rw [hb] at hn
  by_cases h0 : 0 ≤ a.arity
  ·rw [decide_eq_true h0]
   by_cases h6 : a.arity ≤ 6
   ·rw [decide_eq_true h6]; refine Fun.of (op_index_right (by simp) ?_) rfl rfl
    conv => whnf
    conv => whnf
    repeat' ((first | (refine gF ?_; refine CallN.fn (hn) ?_) | (refine gC ?_; first | refine cY ?_ | refine .not ?_ | (refine gD ?_; refine cJ ?_)) | (refine gL ?_; refine .map ?_)) <;> conv => whnf)
    refine LoopP.count (fb := true) (a.positions.length) (fun st_ j => st_.sets [(3, .int .i64 (lastP a.positions j)), (23, .int .i64 j)]) (fun j => posB a.arity (-1) a.positions = posB a.arity (lastP a.positions j) (a.positions.drop j)) ?_ ?_ (fun j hj hij => ?_) (fun hij => ?_)
    ·rfl
    ·refine EndN.at_ ?_ rfl
     conv => whnf
     refine And.intro ?_ ?_ <;> conv => whnf
     all_goals repeat' ((first | (refine gV ?_; first | refine vE ?_ | refine vI ?_ | (refine WkN.norm ?_ ?_; (focus (simp [AV.norm, AV.norm1, lastP]; done)))) | (refine gX ?_; refine xB ?_) | exact True.intro) <;> conv => whnf)
    ·obtain ⟨y, hy⟩ : ∃ y, a.positions[j]? = some y := ⟨_, List.getElem?_eq_getElem hj⟩; rw [List.drop_eq_getElem_cons hj, (List.getElem?_eq_some_iff.1 hy).2, posB] at hij; have hla : lastP a.positions (j + 1) = y := by simp [lastP, hy]
     generalize lastP a.positions j = la at *
     by_cases h1 : la < y
     ·rw [decide_eq_true h1, Bool.true_and] at hij
      by_cases h2 : y < a.arity
      ·rw [decide_eq_true h2, Bool.true_and] at hij
       conv => whnf
       repeat' ((first | (refine gC ?_; (refine gD ?_; first | refine cI ?_ | refine cJ ?_)) | (refine gW ?_; refine wI ?_) | (refine gI ?_; (refine gM ?_; refine iE ?_))) <;> conv => whnf)
       refine ⟨by rw [hla]; exact hij, ?_⟩
       refine EndN.atC 1 ?_ rfl rfl rfl rfl (by first | rfl | (repeat' (first | rfl | refine bLtRow (row_allI _ _ _) ?_ | refine bLtRow (row_allB _ _ _) ?_ | refine bLtMp ?_ | refine bLtDead ?_ | refine bLtCells rfl ?_)))
       conv => whnf
       refine And.intro ?_ ?_ <;> conv => whnf
       all_goals repeat' ((first | (refine gV ?_; first | refine vE ?_ | refine vI ?_) | (refine gX ?_; refine xB ?_) | exact True.intro) <;> conv => whnf)
      ·rw [decide_eq_false h2, Bool.false_and] at hij; rw [hij]
       conv => whnf
       repeat' ((first | (refine gC ?_; (refine gD ?_; first | refine cI ?_ | refine cJ ?_)) | (refine gI ?_; (refine gM ?_; refine iE ?_)) | refine RetP.nrm ?_) <;> conv => whnf)
       all_goals rfl
     ·rw [decide_eq_false h1, Bool.false_and] at hij; rw [hij]
      conv => whnf
      repeat' ((first | (refine gC ?_; first | refine cY ?_ | (refine gD ?_; refine cI ?_)) | (refine gI ?_; (refine gM ?_; refine iE ?_)) | refine RetP.nrm ?_) <;> conv => whnf)
      all_goals rfl
    ·rw [List.drop_length, posB] at hij; rw [hij]
     conv => whnf
     repeat' ((first | (refine gC ?_; (refine gD ?_; refine cJ ?_)) | refine RetP.nrm ?_) <;> conv => whnf)
     all_goals rfl
   ·rw [decide_eq_false h6]; refine Fun.of (op_index_right (by simp) ?_) rfl rfl
    conv => whnf
    conv => whnf
    repeat' ((first | (refine gF ?_; refine CallN.fn (hn) ?_) | (refine gC ?_; first | refine cY ?_ | refine .not ?_ | (refine gD ?_; first | refine cI ?_ | refine cJ ?_)) | refine RetP.nrm ?_) <;> conv => whnf)
    all_goals rfl
  ·rw [decide_eq_false h0]; refine Fun.of (op_index_right (by simp) ?_) rfl rfl
   conv => whnf
   conv => whnf
   repeat' ((first | (refine gF ?_; refine CallN.fn (hn) ?_) | (refine gC ?_; first | refine cY ?_ | refine .not ?_ | (refine gD ?_; refine cI ?_)) | refine RetP.nrm ?_) <;> conv => whnf)
   all_goals rfl
theorem new1_ok {x : Ac} (hl : x.positions.length ≤ 10000000) : Fun Tryz.prog 42 [x.av] (.bool (!x.right)) := by
 have h := acRight_ok hl; refine Fun.of (op_index_New_1 (by simp) ?_) rfl rfl
 conv => whnf
 conv => whnf
 repeat' ((first | (refine gF ?_; refine CallN.fn (h) ?_) | refine RetP.nrm ?_) <;> conv => whnf)
set_option maxRecDepth 100000 in
theorem indexNew_ok {l : List Ac} (hl : l.length ≤ 10000000) (hp : ∀ a ∈ l, a.positions.length ≤ 10000000) : Fun Tryz.prog 94 [slA Ac.av l, .fn (.func 42) [] []] (.int .i64 (findI (fun x => !x.right) l)) := by
 refine Fun.of (op_slices_IndexFunc_api_Access_api_Access (by simp) ?_) rfl rfl
 conv => whnf
 conv => whnf
 repeat' ((refine gL ?_; refine .map ?_) <;> conv => whnf)
 refine LoopP.count (fb := true) (l.length) (fun st_ j => st_.sets [(8, .int .i64 j)]) (fun j => ∀ i x, i < j -> l[i]? = some x -> (!x.right) = false) ?_ ?_ (fun j hj hij => ?_) (fun hij => ?_)
 ·exact no_zero
 ·exact endz
 ·obtain ⟨y, hy⟩ : ∃ y, l[j]? = some y := ⟨_, List.getElem?_eq_getElem hj⟩; have h1 := new1_ok (x := y) (hp y (List.mem_of_getElem? hy))
  cases hb : (!y.right) with
  | true =>
   rw [hb] at h1
   conv => whnf
   repeat' ((first | (refine gF ?_; refine CallN.fn (h1) ?_) | (refine gC ?_; first | refine cY ?_ | (refine gD ?_; refine cI ?_)) | (refine gI ?_; (refine gM ?_; refine iE ?_)) | (refine gH ?_; refine hB ?_) | refine RetP.nrm ?_) <;> conv => whnf)
   rw [findI_at hij hy hb]
  | false =>
   rw [hb] at h1
   conv => whnf
   repeat' ((first | (refine gF ?_; refine CallN.fn (h1) ?_) | (refine gC ?_; first | refine cN ?_ | (refine gD ?_; refine cI ?_)) | (refine gW ?_; refine wI ?_) | (refine gI ?_; (refine gM ?_; refine iE ?_)) | (refine gH ?_; refine hB ?_)) <;> conv => whnf)
   refine ⟨no_succ hij hy hb, ?_⟩; exact endz
 ·conv => whnf
  repeat' ((first | (refine gC ?_; (refine gD ?_; refine cJ ?_)) | refine RetP.nrm ?_) <;> conv => whnf)
  rw [findI_no hij]
theorem containsNew_ok {l : List Ac} (hl : l.length ≤ 10000000) (hp : ∀ a ∈ l, a.positions.length ≤ 10000000) : Fun Tryz.prog 41 [slA Ac.av l, .fn (.func 42) [] []] (.bool (l.any fun x => !x.right)) := by
 have h := indexNew_ok hl hp; rw [← findI_pos]; refine Fun.of (op_slices_ContainsFunc_api_Access_api_Access (by simp) ?_) rfl rfl
 conv => whnf
 conv => whnf
 repeat' ((first | (refine gF ?_; refine CallN.fn (h) ?_) | refine RetP.nrm ?_) <;> conv => whnf)
theorem cloneI_ok {l : List Int} (hl : l.length ≤ 10000000) : Fun Tryz.prog 44 [slA intA l] (slA intA l) := by
 refine Fun.of (op_slices_Clone_int_int (by simp) ?_) rfl rfl
 conv => whnf
 conv => whnf
 skip; refine NilN.no fun b hb => ?_
 conv => whnf
 repeat' ((first | (refine gC ?_; refine CondN.any (fun hc => ?_) (fun hc => ?_)) | (refine gN ?_; refine nS ?_)) <;> conv => whnf)
 ·have hl0 : l = [] := by simpa using hb (by assumption)
  subst hl0
  conv => whnf
  repeat' (refine RetP.nrm ?_ <;> conv => whnf)
  rfl
 ·conv => whnf
  repeat' (refine RetP.nrm ?_ <;> conv => whnf)
  rfl
end Go.CK
namespace Go.CK
open Go.AM Go.Proofs
structure Plain0 {α : Type} (f : α -> AV) (z : Nat) : Prop where
 pos : 0 < z
 sz : ∀ x, (f x).cells.length = z
 de : ∀ x, ∀ c ∈ (f x).cells, c.deown = c
theorem Plain0.len {α : Type} {f : α -> AV} {z : Nat} (h : Plain0 f z) (l : List α) : (cellsOf (l.map f)).length = l.length * z := by
 rw [cellsOf_length (z := z) fun y hy => by obtain ⟨x, _, rfl⟩ := List.mem_map.1 hy; exact h.sz x, List.length_map]
theorem Plain0.mem {α : Type} {f : α -> AV} {z : Nat} (h : Plain0 f z) {l : List α} {c : AV} (hc : c ∈ cellsOf (l.map f)) : c.deown = c := by
 obtain ⟨y, h1, h2⟩ := mem_cellsOf hc; obtain ⟨x, _, rfl⟩ := List.mem_map.1 h1; exact h.de x c h2
theorem Plain0.take {α : Type} {f : α -> AV} {z : Nat} (h : Plain0 f z) (l : List α) (p : List AV) : (cellsOf (l.map f) ++ p).take (l.length * z) = cellsOf (l.map f) := by
 rw [← h.len l]; simp
theorem plain0M : Plain0 AV.mpt 1 := ⟨Nat.zero_lt_one, fun _ => rfl, fun x c h => by simp [AV.cells] at h; subst h; rfl⟩
theorem plainAc : Plain Ac.av 3 := ⟨by decide, fun _ => rfl, fun x c h => by
 simp [Ac.av, AV.cells] at h; rcases h with rfl | rfl | rfl <;> rfl, fun x c h => by
 simp [Ac.av, AV.cells] at h; rcases h with rfl | rfl | rfl <;> rfl⟩
theorem plain_p0 {α : Type} {f : α -> AV} {z : Nat} (h : Plain f z) : Plain0 f z := ⟨h.pos, h.sz, h.de⟩
theorem appRows {α : Type} {f : α -> AV} {z : Nat} (hp : Plain0 f z) {e : List (Nat × AV)} {bs : List Box} {lo : Nat} {b m k b2 m2 k2 : Nat} {l l2 : List α} {K : AV -> St -> Prop} (hb : bs[b]? = some (rowF f z k l)) (hb2 : bs[b2]? = some (rowF f z k2 l2)) (hm : m = l.length) (hm2 : m2 = l2.length) (hk : m ≤ k) (hlim : m + m2 ≤ 4294967296)
  (h : ∀ k', (l ++ l2).length ≤ k' -> K (.bsl bs.length (l ++ l2).length k') ⟨e, bs.set b .dead ++ [rowF f z k' (l ++ l2)], lo⟩) : AppN z ⟨e, bs, lo⟩ (.bsl b m k) (.bsl b2 m2 k2) K := by
 subst hm hm2; refine ⟨srcK_row hb ?_⟩; have hr2 : AM.rowAt bs b2 = some (cellsOf (l2.map f) ++ List.replicate ((k2 - l2.length) * z) AV.top) := rowAt_row hb2; simp only [elsK, hr2]; rw [hp.take, hp.take]; refine ⟨⟨by rw [List.length_append, hp.len]; exact Nat.le_add_right _ _, fun x hx => hp.mem hx⟩, ⟨hp.pos, ?_, hlim, fun x hx => hp.mem hx⟩, fun k' hk' => ?_⟩
 ·rw [List.length_append, hp.len, List.length_replicate, ← Nat.add_mul]; exact Nat.mul_le_mul_right _ (by omega)
 ·rw [← List.append_assoc, ← cellsOf_append, ← List.map_append]; have := h k' (by simpa using hk')
  simp only [List.length_append] at this; unfold rowF at this; simp only [List.length_append] at this; exact this
theorem cellsD_kill {B : List Box} {a : Nat} {r : Box} {b : Nat} (hb : b ≠ a) (hl : b < B.length) : cellsD (B.set a .dead ++ [r]) b = cellsD B b := by
 simp only [cellsD, boxCells]; rw [List.getElem?_append_left (by rw [List.length_set]; exact hl), List.getElem?_set_ne (Ne.symm hb)]
theorem Weak.toTab (s : St) (b : Nat) (hb : s.bs[b]? = some (.mp [])) : Weak s ⟨s.env, s.bs.set b (.tab ⟨[], 0, []⟩), s.lo⟩ := fun E G a w h => by
 have hlt := (List.getElem?_eq_some_iff.1 hb).1; refine ⟨G, h.sameBoxes (fun c => ?_) (fun c => ?_) (by simp)⟩
 ·exact boxCells_mo hb rfl rfl c
 ·rw [boxLoop_mo hb rfl]; split
  ·rename_i e; subst e; simp [boxLoop, hb, Box.lb?]; rfl
  ·rfl
theorem EndN.toTab {s t : St} (b : Nat) (hb : s.bs[b]? = some (.mp [])) (h : EndN ⟨s.env, s.bs.set b (.tab ⟨[], 0, []⟩), s.lo⟩ t) : EndN s t := ⟨(Weak.toTab s b hb).trans h.out⟩
structure TabsAt (bs : List Box) (t k : Nat) (cs : List Nat) : Prop where
 row : bs[t]? = some (rowF AV.mpt 1 k cs)
 le : cs.length ≤ k
 few : cs.length ≤ 10000000
 tab : ∀ c ∈ cs, ∃ x l, bs[c]? = some (.tab x) ∧ TbOk x l
theorem EndN.rowNilAt {env : List (Nat × AV)} {bs : List Box} {lo p j : Nat} {cs : List AV} {t : St} (hb : bs[p]? = some (.cells cs)) (hj : cs[j]? = some (.sl .full [])) (h : EndN ⟨env, bs.set p (.cells (cs.set j (.bsl bs.length 0 0))) ++ [.row []], lo⟩ t) : EndN ⟨env, bs, lo⟩ t := by
 have hlt := (List.getElem?_eq_some_iff.1 hb).1; have hc : boxCells bs p = some cs := by simp [boxCells, hb, Box.cs?]
 have hc2 : boxCells (bs ++ [.row []]) p = some cs := by simp [boxCells, List.getElem?_append_left hlt, hb, Box.cs?]
 refine EndN.toRowAt (.bx p j) (by simp [St.at, hc, hj]) (by simp [St.at, hc2, hj]) ?_
 have e : (⟨env, bs ++ [.row []], lo⟩ : St).upd (.bx p j) (.bsl bs.length 0 0) = ⟨env, bs.set p (.cells (cs.set j (.bsl bs.length 0 0))) ++ [.row []], lo⟩ := by
  simp only [St.upd, hc2, St.setBox]; rw [List.set_append_left _ _ hlt]
 show EndN ((⟨env, bs ++ [.row []], lo⟩ : St).upd (.bx p j) (.bsl bs.length 0 0)) t; rw [e]; exact h
def Pre (bs b2 : List Box) : Prop := bs.length ≤ b2.length ∧ ∀ b, b < bs.length -> b2[b]? = bs[b]?
theorem Pre.snoc {bs b2 : List Box} (h : Pre bs b2) (x : Box) : Pre bs (b2 ++ [x]) := ⟨by rw [List.length_append]; have := h.1; omega, fun b hb => by
 rw [List.getElem?_append_left (by have := h.1; omega)]; exact h.2 b hb⟩
theorem Pre.app {bs b2 : List Box} (h : Pre bs b2) : ∃ X, b2 = bs ++ X := by
 refine ⟨b2.drop bs.length, List.ext_getElem? fun i => ?_⟩
 by_cases hi : i < bs.length
 ·rw [List.getElem?_append_left hi]; exact h.2 i hi
 ·rw [List.getElem?_append_right (by omega), List.getElem?_drop]
  congr 1; omega
end Go.CK
namespace Go.Proofs
open Go.Shelf
def Tryz.laysSearch_ren : Go.Shelf.Ren := ⟨fun | 25 => 105 | 31 => 155 | 32 => 156 | 37 => 152 | n => n, fun | 22 => 41 | 3 => 3 | 4 => 4 | 40 => 223 | 0 => 0 | n => n, fun | n => n⟩
theorem Tryz.laysSearch : Go.Proofs.Lays2.n25 Tryz.prog Tryz.laysSearch_ren := {
 mixed := by kernel_rfl,
 f25 := Tryz.func105.trans (congrArg some (by kernel_rfl)),
 f31 := Tryz.func155.trans (congrArg some (by kernel_rfl)),
 f32 := Tryz.func156.trans (congrArg some (by kernel_rfl)),
 f37 := Tryz.func152.trans (congrArg some (by kernel_rfl)),
 t0 := Tryz.underlying0,
 a0 := Tryz.isAgg0,
 z0 := Tryz.sizeOf0,
 v0 := Tryz.zeroValue0,
 t3 := Tryz.underlying3,
 a3 := Tryz.isAgg3,
 z3 := Tryz.sizeOf3,
 v3 := Tryz.zeroValue3,
 t4 := Tryz.underlying4,
 a4 := Tryz.isAgg4,
 z4 := Tryz.sizeOf4,
 v4 := Tryz.zeroValue4,
 t22 := Tryz.underlying41,
 a22 := Tryz.isAgg41,
 z22 := Tryz.sizeOf41,
 v22 := Tryz.zeroValue41,
 t40 := Tryz.underlying223,
 a40 := Tryz.isAgg223,
 z40 := Tryz.sizeOf223,
 v40 := Tryz.zeroValue223 }
def Tryz.laysCloneI_ren : Go.Shelf.Ren := ⟨fun | 15 => 44 | n => n, fun | 22 => 41 | 3 => 3 | 4 => 4 | n => n, fun | n => n⟩
theorem Tryz.laysCloneI : Go.Proofs.Lays2.n15 Tryz.prog Tryz.laysCloneI_ren := {
 mixed := by kernel_rfl,
 f15 := Tryz.func44.trans (congrArg some (by kernel_rfl)),
 t3 := Tryz.underlying3,
 a3 := Tryz.isAgg3,
 z3 := Tryz.sizeOf3,
 v3 := Tryz.zeroValue3,
 t4 := Tryz.underlying4,
 a4 := Tryz.isAgg4,
 z4 := Tryz.sizeOf4,
 v4 := Tryz.zeroValue4,
 t22 := Tryz.underlying41,
 a22 := Tryz.isAgg41,
 z22 := Tryz.sizeOf41,
 v22 := Tryz.zeroValue41,
 i3 := by kernel_rfl }
def Tryz.laysDelF_ren : Go.Shelf.Ren := ⟨fun | 10 => 54 | 6 => 109 | n => n, fun | 22 => 41 | 23 => 3 | 25 => 45 | 3 => 3 | 4 => 4 | 0 => 0 | n => n, fun | n => n⟩
theorem Tryz.laysDelF : Go.Proofs.SlLaysH.n10 Tryz.prog Tryz.laysDelF_ren := {
 mixed := by kernel_rfl,
 f6 := ⟨ "slices.IndexFunc[[]int,int]", by decide, Tryz.func109.trans (congrArg some (by kernel_rfl))⟩,
 f10 := ⟨ "slices.DeleteFunc[[]int,int]", by decide, Tryz.func54.trans (congrArg some (by kernel_rfl))⟩,
 t0 := Tryz.underlying0,
 a0 := Tryz.isAgg0,
 z0 := Tryz.sizeOf0,
 v0 := Tryz.zeroValue0,
 t3 := Tryz.underlying3,
 a3 := Tryz.isAgg3,
 z3 := Tryz.sizeOf3,
 v3 := Tryz.zeroValue3,
 t4 := Tryz.underlying4,
 a4 := Tryz.isAgg4,
 z4 := Tryz.sizeOf4,
 v4 := Tryz.zeroValue4,
 t22 := Tryz.underlying41,
 a22 := Tryz.isAgg41,
 z22 := Tryz.sizeOf41,
 v22 := Tryz.zeroValue41,
 a23 := Tryz.isAgg3,
 z23 := Tryz.sizeOf3,
 t25 := Tryz.underlying45,
 a25 := Tryz.isAgg45,
 z25 := Tryz.sizeOf45,
 v25 := Tryz.zeroValue45 }
end Go.Proofs
