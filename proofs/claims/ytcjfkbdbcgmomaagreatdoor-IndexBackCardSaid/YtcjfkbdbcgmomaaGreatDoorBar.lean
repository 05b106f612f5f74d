/-
  Texts of this claim joined (wip/gen/bundle.py), those declarations only that are needed: Cmp TrmA TrmB TrmC Vars VarsB RcUni RcAsk RcPla RcLkp AmDf. By an AI agent.
-/
import Derived.Test.YtcjfkbdbcgmomaaGreatDoorBaq
import Derived.Test.YtcjfkbdbcgmomaaGreatDoorProg
import Derived.Test.YtcjfkbdbcgmomaaGreatDoorBap
import Derived.RangeFuncLeaves
set_option linter.unusedSimpArgs false
set_option linter.unusedVariables false
namespace Go.CK
def firstP {α : Type} (p : α -> Bool) : List α -> Nat
 | [] => 0
 | x :: r => if p x then 0 else firstP p r + 1
theorem firstP_eq {α : Type} {p : α -> Bool} : ∀ {l : List α} {k : Nat}, (∀ i x, i < k -> l[i]? = some x -> p x = false) -> k ≤ l.length -> (∀ x, l[k]? = some x -> p x = true) -> firstP p l = k
 | [], k, _, h2, _ => by simp only [List.length_nil, Nat.le_zero] at h2; subst h2; rfl
 | x :: r, 0, _, _, h3 => by rw [firstP, if_pos (h3 x rfl)]
 | x :: r, k + 1, h1, h2, h3 => by
  rw [firstP, if_neg (by rw [h1 0 x (by omega) rfl]; decide), firstP_eq (k := k) (fun i y hi hy => h1 (i + 1) y (by omega) (by simpa using hy)) (by simpa using h2) (fun y hy => h3 y (by simpa using hy))]
theorem firstP_lt {α : Type} {p : α -> Bool} : ∀ {l : List α}, firstP p l < l.length ↔ ∃ x ∈ l, p x = true
 | [] => by simp [firstP]
 | x :: r => by
  have := firstP_lt (p := p) (l := r); rw [firstP]; split
  ·rename_i h; simp [h]
  ·rename_i h; simp [this, h]
def findI {α : Type} (p : α -> Bool) (l : List α) : Int := if firstP p l < l.length then firstP p l else -1
theorem findI_pos {α : Type} (p : α -> Bool) (l : List α) : decide (0 ≤ findI p l) = l.any p := by
 unfold findI; have h := firstP_lt (p := p) (l := l); rw [Bool.eq_iff_iff, List.any_eq_true, decide_eq_true_eq, ← h]; split <;> rename_i h2
 ·exact ⟨fun _ => h2, fun _ => by omega⟩
 ·exact ⟨fun h => absurd h (by decide), fun h => absurd h h2⟩
theorem findI_at {α : Type} {p : α -> Bool} {l : List α} {j : Nat} {x : α} (h1 : ∀ i x, i < j -> l[i]? = some x -> p x = false) (hx : l[j]? = some x) (h : p x = true) : findI p l = j := by
 have hj := (List.getElem?_eq_some_iff.1 hx).1; have := firstP_eq h1 (Nat.le_of_lt hj) (fun y hy => by rw [hx] at hy; cases hy; exact h)
 rw [findI, this, if_pos hj]
theorem findI_no {α : Type} {p : α -> Bool} {l : List α} (h1 : ∀ i x, i < l.length -> l[i]? = some x -> p x = false) : findI p l = -1 := by
 have := firstP_eq h1 (Nat.le_refl _) (fun y hy => by rw [List.getElem?_eq_none (Nat.le_refl _)] at hy; cases hy)
 rw [findI, this, if_neg (Nat.lt_irrefl _)]
theorem no_succ {α : Type} {p : α -> Bool} {l : List α} {j : Nat} {x : α} (h1 : ∀ i x, i < j -> l[i]? = some x -> p x = false) (hx : l[j]? = some x) (h : p x = false) : ∀ i x, i < j + 1 -> l[i]? = some x -> p x = false := fun i y hi hy => by
 by_cases e : i = j
 ·subst e; rw [hx] at hy; cases hy; exact h
 ·exact h1 i y (by omega) hy
theorem no_zero {α : Type} {p : α -> Bool} {l : List α} : ∀ i x, i < 0 -> l[i]? = some x -> p x = false := fun i _ hi => by omega
def cmpI (x y : Int) : Int := if x < y then -1 else if y < x then 1 else 0
def cmpS (x y : ByteArray) : Int := if Op.bytesLess x.toList y.toList = true then -1 else if x = y then 0 else 1
def orI (a b : Int) : Int := if a = 0 then b else a
theorem orI_z (b : Int) : orI 0 b = b := rfl
theorem orI_n {a : Int} (h : ¬ a = 0) (b : Int) : orI a b = a := if_neg h
theorem cmpI_refl (x : Int) : cmpI x x = 0 := by simp [cmpI]
theorem less_irr : ∀ l : List UInt8, Op.bytesLess l l = false
 | [] => rfl
 | x :: l => by simp [Op.bytesLess, less_irr l]
theorem cmpS_refl (x : ByteArray) : cmpS x x = 0 := by simp [cmpS, less_irr]
theorem cmpI_z {x y : Int} : cmpI x y = 0 ↔ x = y := by unfold cmpI; split <;> rename_i h <;> first | (split <;> omega) | omega
def rankI (k : Int) : Int := if k = 1 then 0 else if k = 0 then 1 else if k = 2 then 2 else 3
mutual
def Tm.cmp : Tm -> Tm -> Int
 | .mk k n s l, b =>
  orI (cmpI (rankI k) (rankI b.kind)) (if rankI k = 0 ∨ rankI k = 1 then cmpI n b.num else if rankI k = 2 then orI (cmpI l.length b.args.length) (orI (cmpS s b.name) (Tm.cmps l b.args)) else orI (cmpI k b.kind) (orI (cmpI n b.num) (cmpS s b.name)))
def Tm.cmps : List Tm -> List Tm -> Int
 | [], m => cmpI 0 m.length
 | x :: l, m => match m with
  | [] => 1
  | y :: m => orI (Tm.cmp x y) (Tm.cmps l m)
end
theorem Tm.cmp_eq (a b : Tm) : a.cmp b = orI (cmpI (rankI a.kind) (rankI b.kind)) (if rankI a.kind = 0 ∨ rankI a.kind = 1 then cmpI a.num b.num else if rankI a.kind = 2 then orI (cmpI a.args.length b.args.length) (orI (cmpS a.name b.name) (Tm.cmps a.args b.args)) else orI (cmpI a.kind b.kind) (orI (cmpI a.num b.num) (cmpS a.name b.name))) := by
 obtain ⟨k, n, s, l⟩ := a; rw [Tm.cmp]; rfl
theorem cmps_step {l m : List Tm} {j : Nat} {x y : Tm} (hx : l[j]? = some x) (hy : m[j]? = some y) : Tm.cmps (l.drop j) (m.drop j) = orI (x.cmp y) (Tm.cmps (l.drop (j + 1)) (m.drop (j + 1))) := by
 obtain ⟨h1, rfl⟩ := List.getElem?_eq_some_iff.1 hx; obtain ⟨h2, rfl⟩ := List.getElem?_eq_some_iff.1 hy; rw [List.drop_eq_getElem_cons h1, List.drop_eq_getElem_cons h2, Tm.cmps]
theorem cmps_end {l m : List Tm} {j : Nat} (h1 : j ≤ l.length) (h2 : j ≤ m.length) (h : j = l.length ∨ j = m.length) : Tm.cmps (l.drop j) (m.drop j) = cmpI l.length m.length := by
 rcases Nat.lt_or_ge j l.length with h3 | h3
 ·have : j = m.length := by omega
  subst this; rw [List.drop_eq_getElem_cons h3, List.drop_length, Tm.cmps, cmpI, if_neg (by omega), if_pos (by omega)]
 ·have : j = l.length := by omega
  subst this; rw [List.drop_length, Tm.cmps, List.length_drop]; unfold cmpI; split <;> split <;> first | rfl | omega | (split <;> first | rfl | omega)
theorem Tm.cmp_refl (t : Tm) : t.cmp t = 0 := by
 induction t using Tm.ind_all with
 | h k n s l ih =>
  have hl : ∀ r : List Tm, (∀ t ∈ r, t.cmp t = 0) -> Tm.cmps r r = 0 := fun r => by
   induction r with
   | nil => intro _; rfl
   | cons t r ihr => intro h; rw [Tm.cmps, h t (by simp), orI_z]; exact ihr fun x hx => h x (by simp [hx])
  rw [Tm.cmp]; simp only [Tm.kind, Tm.num, Tm.name, Tm.args, cmpI_refl, cmpS_refl, orI_z, hl l ih]; split <;> first | rfl | (split <;> rfl)
theorem Tm.cmps_refl : ∀ l : List Tm, Tm.cmps l l = 0
 | [] => rfl
 | t :: r => by rw [Tm.cmps, t.cmp_refl, orI_z]; exact Tm.cmps_refl r
mutual
def Tm.wgh : Tm -> Int -> Int -> Int
 | .mk _ _ s l, left, deep => if deep - 1 = 0 ∨ left - 1 - (s.size : Int).tdiv 8 < l.length then -1 else Tm.wghs l (left - 1 - (s.size : Int).tdiv 8) (deep - 1)
def Tm.wghs : List Tm -> Int -> Int -> Int
 | [], left, _ => left
 | t :: r, left, deep => if left < 0 then left else Tm.wghs r (Tm.wgh t left deep) deep
end
def weighI (l : List Tm) (left deep : Int) : Int := if deep = 0 ∨ left < l.length then -1 else Tm.wghs l left deep
theorem Tm.wgh_eq (t : Tm) (left deep : Int) : t.wgh left deep = weighI t.args (left - 1 - (t.name.size : Int).tdiv 8) (deep - 1) := by
 obtain ⟨k, n, s, l⟩ := t; rw [Tm.wgh]; rfl
theorem tdiv8 (n : Nat) : (n : Int).tdiv 8 = ((n / 8 : Nat) : Int) := by rw [Int.tdiv_eq_ediv_of_nonneg (by omega)]; rfl
theorem wghs_step {l : List Tm} {j : Nat} {x : Tm} (hx : l[j]? = some x) {left : Int} (h : 0 ≤ left) (deep : Int) : Tm.wghs (l.drop j) left deep = Tm.wghs (l.drop (j + 1)) (x.wgh left deep) deep := by
 obtain ⟨h1, rfl⟩ := List.getElem?_eq_some_iff.1 hx; rw [List.drop_eq_getElem_cons h1, Tm.wghs, if_neg (by omega)]
theorem wghs_neg (l : List Tm) {left : Int} (h : left < 0) (deep : Int) : Tm.wghs l left deep = left := by
 cases l with
 | nil => rfl
 | cons t r => rw [Tm.wghs, if_pos h]
theorem weigh_le (t : Tm) : ∀ left deep : Int, -1 ≤ weighI t.args left deep ∧ weighI t.args left deep ≤ max left (-1) := by
 induction t using Tm.ind_all with
 | h k n s l ih =>
  have hl : ∀ r : List Tm, (∀ t ∈ r, t ∈ l) -> ∀ left deep : Int, -1 ≤ left -> -1 ≤ Tm.wghs r left deep ∧ Tm.wghs r left deep ≤ left := fun r => by
   induction r with
   | nil => intro _ left deep h; simp only [Tm.wghs]; omega
   | cons t r ihr =>
    intro hm left deep h; have h1 := ih t (hm t (by simp)) (left - 1 - (t.name.size : Int).tdiv 8) (deep - 1)
    rw [← Tm.wgh_eq, tdiv8] at h1; simp only [Tm.wghs]; split
    ·omega
    ·have h2 := ihr (fun x hx => hm x (by simp [hx])) (t.wgh left deep) deep h1.1
     omega
  intro left deep; show -1 ≤ weighI l left deep ∧ weighI l left deep ≤ max left (-1)
  by_cases hc : deep = 0 ∨ left < l.length
  ·rw [weighI, if_pos hc]; omega
  ·rw [weighI, if_neg hc]; have := hl l (fun _ h => h) left deep (by omega)
   omega
theorem wgh_le (t : Tm) (left deep : Int) (h : -1 ≤ left) : -1 ≤ t.wgh left deep ∧ t.wgh left deep ≤ left := by
 have := weigh_le t (left - 1 - (t.name.size : Int).tdiv 8) (deep - 1); rw [← Tm.wgh_eq, tdiv8] at this; omega
end Go.CK
namespace Go.CK
open Go.AM Go.Proofs
theorem bool_no {p : Prop} [Decidable p] (h : ¬ p) : AV.bool false = AV.bool (decide p) := by rw [decide_eq_false h]
theorem bool_yes {p : Prop} [Decidable p] (h : p) : AV.bool true = AV.bool (decide p) := by rw [decide_eq_true h]
set_option maxRecDepth 100000 in
theorem nanI_ok {x : Int} : Fun Tryz.prog 152 [.int .i64 x] (.bool false) := by
 refine Fun.of (op_cmp_isNaN_int (by simp) ?_) rfl rfl
 conv => whnf
 conv => whnf
 repeat' (refine RetP.nrm ?_ <;> conv => whnf)
 simp
set_option maxRecDepth 100000 in
theorem cmpI_ok {x y : Int} : Fun Tryz.prog 101 [.int .i64 x, .int .i64 y] (.int .i64 (cmpI x y)) := by
 refine Fun.of (op_cmp_Compare_int (by simp) ?_) rfl rfl
 conv => whnf
 conv => whnf
 repeat' ((first | (refine gF ?_; refine CallN.fn (nanI_ok) ?_) | (refine gC ?_; first | refine cN ?_ | refine CondN.lt (fun hc => ?_) (fun hc => ?_)) | refine RetP.nrm ?_) <;> conv => whnf)
 ·rw [cmpI, if_pos (by omega)]
 ·rw [cmpI, if_neg (by omega), if_pos (by omega)]
 ·rw [cmpI, if_neg (by omega), if_neg (by omega)]
set_option maxRecDepth 100000 in
theorem refInts_ok {x y : Int} : Fun Tryz.prog 160 [.int .i64 x, .int .i64 y] (.int .i64 (cmpI x y)) := by
 refine Fun.of (op_constraintref03_ints (by simp) ?_) rfl rfl
 conv => whnf
 conv => whnf
 repeat' ((first | (refine gC ?_; refine CondN.lt (fun hc => ?_) (fun hc => ?_)) | refine RetP.nrm ?_) <;> conv => whnf)
 ·rw [cmpI, if_pos (by omega)]
 ·rw [cmpI, if_neg (by omega), if_pos (by omega)]
 ·rw [cmpI, if_neg (by omega), if_neg (by omega)]
set_option maxRecDepth 100000 in
theorem refTexts_ok {x y : ByteArray} : Fun Tryz.prog 159 [.str x, .str y] (.int .i64 (cmpS x y)) := by
 refine Fun.of (op_constraintref03_texts (by simp) ?_) rfl rfl
 conv => whnf
 conv => whnf
 repeat' ((first | (refine gC ?_; first | refine .not ?_ | refine cNa ?_ | with_reducible refine CondN.or ?_ | refine CondN.dec (fun hc => ?_) (fun hc => ?_) | refine CondN.any (fun hc => ?_) (fun hc => ?_)) | refine RetP.nrm ?_) <;> conv => whnf)
 ·simp [cmpS, less_irr, *]
 ·simp [cmpS, less_irr, *]
 ·simp [cmpS, less_irr, *]
set_option maxRecDepth 100000 in
theorem class_ok {t : Tm} : Fun Tryz.prog 203 [t.avw] (.int .i64 (rankI t.kind)) := by
 refine Fun.of (op_constraintref03_class (by simp) ?_) rfl rfl
 conv => whnf
 conv => whnf
 repeat' ((first | (refine gC ?_; refine CondN.dec (fun hc => ?_) (fun hc => ?_)) | refine RetP.nrm ?_) <;> conv => whnf)
 all_goals simp [rankI, *]
set_option maxRecDepth 100000 in
theorem lists_of {l m : List Tm} (ih : ∀ t ∈ l, ∀ b : Tm, Fun Tryz.prog 161 [t.avw, b.avw] (.int .i64 (t.cmp b))) : Fun Tryz.prog 110 [slA Tm.av l, slA Tm.av m] (.int .i64 (Tm.cmps l m)) := by
 refine Fun.assume rfl fun hg0 => ?_; have hg := (good_sla (hg0 (slA Tm.av l) (by simp))).1
 refine Fun.of (op_constraintref03_lists (by simp) ?_) rfl rfl
 conv => whnf
 conv => whnf
 skip; refine LoopP.by (fb := true) (fun st_ j => st_.sets [(5, .int .i64 (j : Nat))]) (fun j => j ≤ l.length ∧ j ≤ m.length ∧ Tm.cmps (l.drop j) (m.drop j) = Tm.cmps l m) (fun j => l.length - j) 0 ⟨by omega, by omega, rfl⟩ ?_ ?_
 ·exact endz
 ·rintro j ⟨h1, h2, hij⟩
  conv => whnf
  repeat' ((first | (refine gF ?_; refine CallN.fn (refInts_ok) ?_) | (refine gG ?_; refine CallP.fn (ih _ (List.mem_of_getElem? (by assumption)) _) ?_) | (refine gC ?_; first | refine cN ?_ | refine .not ?_ | (refine gD ?_; first | refine cI ?_ | refine cJ ?_) | refine CondN.lt (fun hc => ?_) (fun hc => ?_) | refine CondN.dec (fun hc => ?_) (fun hc => ?_)) | (refine gW ?_; refine wI ?_) | (refine gL ?_; refine .map ?_) | (refine gI ?_; (refine gT ?_; refine iC fun x hx => ?_)) | refine RetP.nrm ?_) <;> conv => whnf)
  ·rw [cmps_step (by assumption) (by assumption)] at hij
   refine ⟨j + 1, ⟨⟨by omega, by omega, ?_⟩, by omega⟩, ?_⟩
   ·rw [← hij]; simp [orI, *]
   ·exact endz
  ·rw [cmps_step (by assumption) (by assumption), orI_n (by assumption)] at hij
   rw [hij]
  ·rw [cmps_end h1 h2 (by omega)] at hij
   rw [hij]
  ·rw [cmps_end h1 h2 (by omega)] at hij
   rw [hij]
set_option maxRecDepth 100000 in
theorem refCompare_ok (a : Tm) : ∀ b : Tm, Fun Tryz.prog 161 [a.avw, b.avw] (.int .i64 (a.cmp b)) := by
 induction a using Tm.ind_all with
 | h k n s l ih =>
 intro b; generalize ha : Tm.mk k n s l = a; have ih : ∀ t ∈ a.args, ∀ b : Tm, Fun Tryz.prog 161 [t.avw, b.avw] (.int .i64 (t.cmp b)) := by subst ha; exact ih
 clear ha; rw [Tm.cmp_eq]; refine Fun.of (op_constraintref03_Compare (by simp) ?_) rfl rfl
 conv => whnf
 conv => whnf
 repeat' ((first | (refine gF ?_; first | refine CallN.fn (class_ok) ?_ | refine CallN.fn (refInts_ok) ?_ | refine CallN.fn (refTexts_ok) ?_ | refine CallN.fn (lists_of ih) ?_) | (refine gG ?_; first | refine CallP.fn (class_ok) ?_ | refine CallP.fn (refInts_ok) ?_) | (refine gC ?_; first | refine .not ?_ | (refine gD ?_; first | refine cI ?_ | refine cJ ?_) | refine CondN.dec (fun hc => ?_) (fun hc => ?_)) | (refine gL ?_; refine .map ?_) | refine RetP.nrm ?_) <;> conv => whnf)
 all_goals (clear ih; simp_all [orI])
theorem lists_ok {l m : List Tm} : Fun Tryz.prog 110 [slA Tm.av l, slA Tm.av m] (.int .i64 (Tm.cmps l m)) := lists_of fun t _ b => refCompare_ok t b
def At.cmp (a b : At) : Int := orI (orI (cmpS a.name b.name) (cmpI a.args.length b.args.length)) (Tm.cmps a.args b.args)
theorem At.cmp_refl (a : At) : a.cmp a = 0 := by simp [At.cmp, cmpS_refl, cmpI_refl, orI_z, Tm.cmps_refl]
set_option maxRecDepth 100000 in
theorem refCmpAtom_ok {a b : At} : Fun Tryz.prog 107 [a.av, b.av] (.int .i64 (a.cmp b)) := by
 unfold At.cmp; refine Fun.of (op_constraintref03_CompareAtom (by simp) ?_) rfl rfl
 conv => whnf
 conv => whnf
 repeat' ((first | (refine gF ?_; first | refine CallN.fn (refTexts_ok) ?_ | refine CallN.fn (refInts_ok) ?_ | refine CallN.fn (lists_ok) ?_) | (refine gC ?_; first | (refine gD ?_; refine cJ ?_) | refine CondN.dec (fun hc => ?_) (fun hc => ?_)) | (refine gL ?_; refine .map ?_) | refine RetP.nrm ?_) <;> conv => whnf)
 all_goals simp [orI, *]
set_option maxRecDepth 100000 in
theorem refSameAtom_ok {a b : At} : Fun Tryz.prog 52 [a.av, b.av] (.bool (decide (a.cmp b = 0))) := by
 refine Fun.of (op_constraintref03_SameAtom (by simp) ?_) rfl rfl
 conv => whnf
 conv => whnf
 repeat' ((first | (refine gF ?_; refine CallN.fn (refCmpAtom_ok (a := a) (b := b)) ?_) | refine RetP.nrm ?_) <;> conv => whnf)
set_option maxRecDepth 100000 in
theorem weigh_of (a : Tm) : ∀ left deep : Int, -2305843009213693952 ≤ left -> left ≤ 4294967296 -> 0 ≤ deep -> deep ≤ 64 -> Fun Tryz.prog 93 [slA Tm.av a.args, .int .i64 left, .int .i64 deep] (.int .i64 (weighI a.args left deep)) := by
 induction a using Tm.ind_all with
 | h k n s l ih =>
 intro left deep b1 b2 b3 b4; rw [show (Tm.mk k n s l).args = l from rfl]; refine Fun.assume rfl fun hg0 => ?_; have hgs := good_sla (hg0 (slA Tm.av l) (by simp))
 have hg := hgs.1; refine Fun.of (op_constraintref03_weigh (by simp) ?_) rfl rfl
 conv => whnf
 conv => whnf
 repeat' ((first | (refine gC ?_; first | refine cY ?_ | (refine gD ?_; first | refine cI ?_ | refine cJ ?_) | refine CondN.lt (fun hc => ?_) (fun hc => ?_) | refine CondN.dec (fun hc => ?_) (fun hc => ?_)) | (refine gL ?_; refine .map ?_) | refine RetP.nrm ?_) <;> conv => whnf)
 ·rw [weighI, if_pos (.inl (by assumption))]
 ·rw [weighI, if_pos (.inr (by assumption))]
 ·have e0 : weighI l left deep = Tm.wghs l left deep := by rw [weighI, if_neg (by omega)]
  rw [e0]; refine LoopP.by (fb := true) (fun s (q : Nat × Int) => s.sets [(1, .int .i64 q.2), (7, .int .i64 q.1)]) (fun q => q.1 ≤ l.length ∧ (-1 ≤ q.2 ∧ q.2 ≤ 4294967296) ∧ Tm.wghs (l.drop q.1) q.2 deep = Tm.wghs l left deep) (fun q => l.length - q.1) (0, left) ⟨Nat.zero_le _, by simp only; omega, rfl⟩ ?_ ?_
  ·exact endz
  ·rintro ⟨j, r⟩ ⟨hj, hr, he⟩; dsimp only at hj hr he ⊢
   by_cases hlt : j < l.length
   ·obtain ⟨x, hx⟩ : ∃ x, l[j]? = some x := ⟨_, List.getElem?_eq_getElem hlt⟩; have hxs := (good_tm (good_tmv (hgs.2 x (List.mem_of_getElem? hx)))).1
    by_cases hr0 : 0 ≤ r
    ·rw [wghs_step hx hr0] at he; have hw := wgh_le x r deep hr.1; rw [Tm.wgh_eq] at hw he; have h8 := tdiv8 x.name.size
     conv => whnf
     repeat' ((first | (refine gG ?_; refine CallP.fn (ih _ (List.mem_of_getElem? (by assumption)) _ _ (by omega) (by omega) (by omega) (by omega)) ?_) | (refine gC ?_; (refine gD ?_; refine cI ?_)) | (refine gW ?_; refine wI ?_) | (refine gL ?_; refine .map ?_) | (refine gN ?_; refine nS ?_) | (refine gI ?_; (refine gT ?_; refine iA ?_))) <;> conv => whnf)
     refine ⟨(j + 1, weighI x.args (r - 1 - (x.name.size : Int).tdiv 8) (deep - 1)), ⟨⟨hlt, ?_, he⟩, by simp only; omega⟩, ?_⟩
     ·simp only; omega
     ·exact endz
    ·rw [wghs_neg _ (by omega)] at he
     conv => whnf
     repeat' ((first | (refine gC ?_; (refine gD ?_; first | refine cI ?_ | refine cJ ?_)) | (refine gL ?_; refine .map ?_) | refine RetP.nrm ?_) <;> conv => whnf)
     rw [he]
   ·have hje : j = l.length := by omega
    subst hje; rw [List.drop_length, Tm.wghs] at he
    conv => whnf
    repeat' ((first | (refine gC ?_; first | refine cN ?_ | (refine gD ?_; refine cJ ?_)) | (refine gL ?_; refine .map ?_) | refine RetP.nrm ?_) <;> conv => whnf)
    rw [he]
theorem weigh_ok {l : List Tm} {left deep : Int} (h1 : -2305843009213693952 ≤ left) (h2 : left ≤ 4294967296) (h3 : 0 ≤ deep) (h4 : deep ≤ 64) : Fun Tryz.prog 93 [slA Tm.av l, .int .i64 left, .int .i64 deep] (.int .i64 (weighI l left deep)) := weigh_of (.mk 0 0 .empty l) left deep h1 h2 h3 h4
end Go.CK
namespace Go.CK
open Go.AM Go.Proofs
def upTo {α : Type} (a b : List α) (j : Nat) : Prop := ∀ i, i < j -> a[i]? = b[i]?
theorem upTo.zero {α : Type} {a b : List α} : upTo a b 0 := fun i h => by omega
theorem upTo.succ {α : Type} {a b : List α} {j : Nat} {x y : α} (h : upTo a b j) (hx : a[j]? = some x) (hy : b[j]? = some y) (e : x = y) : upTo a b (j + 1) := fun i hi => by
 by_cases hij : i = j
 ·subst hij; rw [hx, hy, e]
 ·exact h i (by omega)
theorem upTo.all {α : Type} {a b : List α} (h : upTo a b a.length) (hl : a.length = b.length) : a = b := List.ext_getElem? fun i => by
 rcases Nat.lt_or_ge i a.length with h1 | h1
 ·exact h i h1
 ·rw [List.getElem?_eq_none h1, List.getElem?_eq_none (by omega)]
theorem ne_at {α : Type} {a b : List α} {j : Nat} {x y : α} (hx : a[j]? = some x) (hy : b[j]? = some y) (e : ¬ x = y) : ¬ a = b := fun h => by subst h; rw [hx] at hy; exact e (Option.some.inj hy)
theorem ne_len {α : Type} {a b : List α} (h : ¬ (a.length : Int) = b.length) : ¬ a = b := fun e => h (by rw [e])
set_option maxRecDepth 100000 in
theorem sameInts_ok {a b : List Int} : Fun Tryz.prog 17 [slA intA a, slA intA b] (.bool (decide (a = b))) := by
 refine Fun.assume rfl fun hg0 => ?_; refine Fun.of (op_constraintref03_SameInts (by simp) ?_) rfl rfl
 conv => whnf
 have hg := (good_sla (hg0 (slA intA a) (by simp))).1
 conv => whnf
 repeat' ((first | (refine gC ?_; first | refine .not ?_ | refine CondN.dec (fun hc => ?_) (fun hc => ?_)) | (refine gL ?_; refine .map ?_) | refine RetP.nrm ?_) <;> conv => whnf)
 ·refine LoopP.count (fb := true) (a.length) (fun st_ j => st_.sets [(5, .int .i64 j)]) (fun j => upTo a b j) ?_ ?_ (fun j hj hij => ?_) (fun hij => ?_)
  ·exact upTo.zero
  ·exact endz
  ·conv => whnf
   repeat' ((first | (refine gC ?_; first | refine .not ?_ | (refine gD ?_; refine cI ?_) | refine CondN.dec (fun hc => ?_) (fun hc => ?_)) | (refine gW ?_; refine wI ?_) | (refine gL ?_; refine .map ?_) | (refine gI ?_; (refine gM ?_; refine iH fun x hx => ?_)) | refine RetP.nrm ?_) <;> conv => whnf)
   ·refine ⟨hij.succ (by assumption) (by assumption) (by assumption), ?_⟩
    exact endz
   ·exact bool_no (ne_at (by assumption) (by assumption) (by assumption))
  ·conv => whnf
   repeat' ((first | (refine gC ?_; first | refine cN ?_ | (refine gD ?_; refine cJ ?_)) | (refine gL ?_; refine .map ?_) | refine RetP.nrm ?_) <;> conv => whnf)
   exact bool_yes (hij.all (by omega))
 ·exact bool_no (ne_len (by assumption))
end Go.CK
namespace Go.CK
end Go.CK
namespace Go.CK
end Go.CK
namespace Go.CK
end Go.CK
namespace Go.CK
open Go.AM Go.Proofs
variable {vals : List AV} {bs : List Box} {Q : AV -> List Box -> Prop}
def rc_p_term_budget_valid : RC :=
 (.seq
 (.reg false [0, 2, 4] [
 oQ 4 (.box (.t 1)), oQ 6 (.mov (.c (.bool false)))])
 (.seq
 (.reg false [0, 2, 4] [
 qM 7 0, qK 8 7, qF 9 0 8, qL 10 9, oQ 11 (.bin .sub (.t 10) (.c (.int .i64 1))), qK 12 7, qF 13 0 12, oN (.store 1 (.t 13) (.t 11))])
 (.seq
 (.seq
 (.reg false [0, 2, 4, 22] [
 qM 14 0, qK 15 14, qF 16 0 15, qL 17 16, oQ 18 (.bin .lss (.t 17) (.c (.int .i64 0))), qM 19 18, oG 20 19 false (.mov (.t 2)), oG 21 19 false (.bin .lss (.t 20) (.c (.int .i64 1))), oQ 22 (.pick (.t 19) (.c (.bool true)) (.t 21))])
 (.cond (.t 22)
 (.seq
 (.reg false [6] [
 oQ 6 (.mov (.c (.bool false)))])
 .ret)
 .skip))
 (.seq
 (.seq
 (.reg false [0, 2, 4, 24] [
 qF 23 0 4, qL 24 23])
 (.block 0
 (.seq
 (.reg false [0, 2, 4, 24, 25] [
 oQ 26 (.bin .eql (.t 24) (.c (.int .i64 0))), qM 25 26])
 (.cond (.t 25)
 (.seq
 (.reg false [6] [
 qF 27 1 4, qL 28 27, oQ 29 (.bin .geq (.t 28) (.c (.int .i64 (-2147483648)))), qM 30 29, oG 31 30 true (.fptr 1 (.t 4)), oG 32 30 true (.load false 1 (.t 31)), oG 33 30 true (.bin .leq (.t 32) (.c (.int .i64 2147483648))), oQ 34 (.pick (.t 30) (.t 33) (.c (.bool false))), qM 35 34, oG 36 35 true (.fptr 2 (.t 4)), oG 37 35 true (.load false 1 (.t 36)), oG 38 35 true (.bin .eql (.t 37) (.c (.str ⟨⟨[]⟩⟩))), oQ 39 (.pick (.t 35) (.t 38) (.c (.bool false))), qM 40 39, oG 41 40 true (.fptr 3 (.t 4)), oG 42 40 true (.load false 1 (.t 41)), oG 43 40 true (.len false (.t 42)), oG 44 40 true (.bin .eql (.t 43) (.c (.int .i64 0))), oQ 45 (.pick (.t 40) (.t 44) (.c (.bool false))), qM 6 45])
 .ret)
 (.seq
 (.reg false [0, 2, 4, 24, 46] [
 oQ 47 (.bin .eql (.t 24) (.c (.int .i64 1))), qM 46 47])
 (.cond (.t 46)
 (.seq
 (.reg false [6] [
 qF 48 1 4, qL 49 48, oQ 50 (.bin .geq (.t 49) (.c (.int .i64 0))), qM 51 50, oG 52 51 true (.fptr 1 (.t 4)), oG 53 51 true (.load false 1 (.t 52)), oG 54 51 true (.bin .leq (.t 53) (.c (.int .i64 1048576))), oQ 55 (.pick (.t 51) (.t 54) (.c (.bool false))), qM 56 55, oG 57 56 true (.fptr 2 (.t 4)), oG 58 56 true (.load false 1 (.t 57)), oG 59 56 true (.bin .eql (.t 58) (.c (.str ⟨⟨[]⟩⟩))), oQ 60 (.pick (.t 56) (.t 59) (.c (.bool false))), qM 61 60, oG 62 61 true (.fptr 3 (.t 4)), oG 63 61 true (.load false 1 (.t 62)), oG 64 61 true (.len false (.t 63)), oG 65 61 true (.bin .eql (.t 64) (.c (.int .i64 0))), oQ 66 (.pick (.t 61) (.t 65) (.c (.bool false))), qM 6 66])
 .ret)
 (.seq
 (.reg false [0, 2, 4, 67] [
 oQ 68 (.bin .eql (.t 24) (.c (.int .i64 2))), qM 67 68])
 (.cond (.t 67)
 (.seq
 (.seq
 (.reg false [0, 2, 4, 77] [
 qF 69 1 4, qL 70 69, oQ 71 (.bin .neq (.t 70) (.c (.int .i64 0))), qM 72 71, oG 73 72 false (.fptr 3 (.t 4)), oG 74 72 false (.load false 1 (.t 73)), oG 75 72 false (.len false (.t 74)), oG 76 72 false (.bin .gtr (.t 75) (.c (.int .i64 6))), oQ 77 (.pick (.t 72) (.c (.bool true)) (.t 76))])
 (.cond (.t 77)
 (.seq
 (.reg false [6] [
 oQ 6 (.mov (.c (.bool false)))])
 .ret)
 .skip))
 (.seq
 (.seq
 (.reg false [0, 2, 4, 93] [
 qF 78 2 4, qL 79 78, oQ 80 (.call (.c (.fn (.func 95) [] [])) [(.t 79)]), oQ 81 (.un .not (.t 80)), qM 82 81, oG 83 82 true (.fptr 2 (.t 4)), oG 84 82 true (.load false 1 (.t 83)), oG 85 82 true (.call (.c (.fn (.func 200) [] [])) [(.t 84)]), oG 86 82 true (.mov (.t 85)), oG 87 86 true (.fptr 3 (.t 4)), oG 88 86 true (.load false 1 (.t 87)), oG 89 86 true (.len false (.t 88)), oG 90 86 true (.bin .eql (.t 89) (.c (.int .i64 2))), oG 91 82 true (.pick (.t 86) (.t 90) (.c (.bool false))), oG 92 82 true (.un .not (.t 91)), oQ 93 (.pick (.t 82) (.t 92) (.c (.bool false)))])
 (.cond (.t 93)
 (.seq
 (.reg false [6] [
 oQ 6 (.mov (.c (.bool false)))])
 .ret)
 .skip))
 (.seq
 (.reg false [6] [
 qM 94 0, qF 95 3 4, qL 96 95, qM 97 2, oQ 98 (.bin .sub (.t 97) (.c (.int .i64 1))), oQ 99 (.call (.c (.fn (.func 102) [] [])) [(.t 94), (.t 96), (.t 98)]), qM 6 99])
 .ret)))
 .skip))))))))
 (.seq
 (.reg false [6] [
 oQ 6 (.mov (.c (.bool false)))])
 .ret)))))
theorem op_p_term_budget_valid (hn : vals.length ≤ 100) (h : SP Tryz.prog true vals bs rc_p_term_budget_valid [.slot 6] Q) : AM.Sem Tryz.prog 153 vals bs Q :=
 Sem.nrm (Sem.of (fn := Tryz.f153) (keeps := [(0, [0, 2, 4]), (1, [0, 2, 4]), (2, [0, 2, 4, 22]), (3, [6]), (4, [0, 2, 4, 24]), (5, [0, 2, 4, 24, 25]), (7, [0, 2, 4, 24, 46]), (9, [0, 2, 4, 67]), (10, [0, 2, 4, 77]), (11, [6]), (12, [0, 2, 4, 93]), (13, [6]), (14, [6]), (8, [6]), (6, [6]), (15, [6])]) (solo := []) Tryz.func153 rfl (by kernel_rfl) (by kernel_rfl) (by kernel_rfl) hn (run_gp h))
def rc_p_term_budget_all : RC :=
 (.seq
 (.reg false [0, 1, 2] [
 oQ 6 (.mov (.c (.bool false)))])
 (.seq
 (.seq
 (.reg false [0, 1, 2, 9, 10] [
 qM 8 1, oQ 9 (.len false (.t 8)), oQ 10 (.mov (.c (.int .i64 0)))])
 (.block 0
 (.loop
 (.seq
 (.reg false [0, 1, 2, 9, 10, 11] [
 oQ 11 (.bin .lss (.t 10) (.t 9))])
 (.seq
 (.cond (.t 11)
 .skip
 (.exit 0))
 (.seq
 (.block 1
 (.seq
 (.reg false [0, 1, 2, 7, 9, 10] [
 qM 12 10, qM 7 12])
 (.seq
 (.reg false [0, 1, 2, 9, 10, 20] [
 qM 13 0, qM 14 1, qM 15 7, qI 16 4 14 15, qA 17 4 16, qM 18 2, oQ 19 (.call (.c (.fn (.func 153) [] [])) [(.t 13), (.t 17), (.t 18)]), oQ 20 (.un .not (.t 19))])
 (.cond (.t 20)
 (.seq
 (.reg false [6] [
 oQ 6 (.mov (.c (.bool false)))])
 .ret)
 .skip))))
 (.reg false [0, 1, 2, 9, 10] [
 oQ 21 (.bin .add (.t 10) (.c (.int .i64 1))), qM 10 21])))))))
 (.seq
 (.reg false [6] [
 oQ 6 (.mov (.c (.bool true)))])
 .ret)))
theorem op_p_term_budget_all (hn : vals.length ≤ 22) (h : SP Tryz.prog true vals bs rc_p_term_budget_all [.slot 6] Q) : AM.Sem Tryz.prog 102 vals bs Q :=
 Sem.nrm (Sem.of (fn := Tryz.f102) (keeps := [(0, [0, 1, 2]), (1, [0, 1, 2, 9, 10]), (2, [0, 1, 2, 9, 10, 11]), (3, [0, 1, 2, 7, 9, 10]), (4, [0, 1, 2, 9, 10, 20]), (5, [6]), (6, [0, 1, 2, 9, 10]), (7, [6])]) (solo := []) Tryz.func102 rfl (by kernel_rfl) (by kernel_rfl) (by kernel_rfl) hn (run_gp h))
def rc_name_Right : RC :=
 (.seq
 (.reg false [0] [
 oQ 2 (.mov (.c (.bool false)))])
 (.seq
 (.reg false [2] [
 qM 3 0, oQ 4 (.call (.c (.fn (.func 148) [] [])) [(.t 3), (.c (.int .u8 1))]), qM 5 4, oG 6 5 true (.mov (.t 0)), oG 7 5 true (.call (.c (.fn (.func 149) [] [])) [(.t 6)]), oG 8 5 true (.un .not (.t 7)), oQ 9 (.pick (.t 5) (.t 8) (.c (.bool false))), qM 2 9])
 .ret))
theorem op_name_Right (hn : vals.length ≤ 10) (h : SP Tryz.prog true vals bs rc_name_Right [.slot 2] Q) : AM.Sem Tryz.prog 95 vals bs Q :=
 Sem.nrm (Sem.of (fn := Tryz.f95) (keeps := [(0, [0]), (1, [2])]) (solo := []) Tryz.func95 rfl (by kernel_rfl) (by kernel_rfl) (by kernel_rfl) hn (run_gp h))
def rc_name_Operator : RC :=
 (.seq
 (.reg false [0] [
 oQ 2 (.mov (.c (.bool false)))])
 (.seq
 (.reg false [2] [
 qM 3 0, oQ 4 (.len true (.t 3)), oQ 5 (.bin .eql (.t 4) (.c (.int .i64 1))), qM 6 5, oG 7 6 true (.mov (.t 0)), oG 8 6 true (.call (.c (.fn (.func 232) [] [])) [(.c (.str ⟨⟨[43, 45, 42, 47, 37]⟩⟩)), (.t 7)]), oQ 9 (.pick (.t 6) (.t 8) (.c (.bool false))), qM 2 9])
 .ret))
theorem op_name_Operator (hn : vals.length ≤ 10) (h : SP Tryz.prog true vals bs rc_name_Operator [.slot 2] Q) : AM.Sem Tryz.prog 200 vals bs Q :=
 Sem.nrm (Sem.of (fn := Tryz.f200) (keeps := [(0, [0]), (1, [2])]) (solo := []) Tryz.func200 rfl (by kernel_rfl) (by kernel_rfl) (by kernel_rfl) hn (run_gp h))
def rc_name_Reserved : RC :=
 (.seq
 (.reg false [0] [
 oQ 2 (.mov (.c (.bool false)))])
 (.seq
 (.seq
 (.reg false [3] [
 qM 3 0])
 (.block 0
 (.seq
 (.seq
 (.reg false [3, 4] [
 oQ 5 (.bin .eql (.t 3) (.c (.str ⟨⟨[99, 111, 110, 115, 116, 114, 97, 105, 110, 116]⟩⟩))), qM 4 5])
 (.cond (.t 4)
 .skip
 (.seq
 (.reg false [3, 4] [
 oQ 6 (.bin .eql (.t 3) (.c (.str ⟨⟨[116, 114, 117, 101]⟩⟩))), qM 4 6])
 (.cond (.t 4)
 .skip
 (.seq
 (.reg false [3, 4] [
 oQ 7 (.bin .eql (.t 3) (.c (.str ⟨⟨[102, 97, 105, 108]⟩⟩))), qM 4 7])
 (.cond (.t 4)
 .skip
 (.seq
 (.reg false [3, 4] [
 oQ 8 (.bin .eql (.t 3) (.c (.str ⟨⟨[105, 115]⟩⟩))), qM 4 8])
 (.cond (.t 4)
 .skip
 (.seq
 (.reg false [3, 4] [
 oQ 9 (.bin .eql (.t 3) (.c (.str ⟨⟨[105, 110, 116]⟩⟩))), qM 4 9])
 (.cond (.t 4)
 .skip
 (.reg false [4] [
 oQ 10 (.bin .eql (.t 3) (.c (.str ⟨⟨[103, 114, 111, 117, 110, 100]⟩⟩))), qM 4 10])))))))))))
 (.cond (.t 4)
 (.seq
 (.reg false [2] [
 oQ 2 (.mov (.c (.bool true)))])
 .ret)
 .skip))))
 (.seq
 (.reg false [2] [
 oQ 2 (.mov (.c (.bool false)))])
 .ret)))
theorem op_name_Reserved (hn : vals.length ≤ 11) (h : SP Tryz.prog true vals bs rc_name_Reserved [.slot 2] Q) : AM.Sem Tryz.prog 149 vals bs Q :=
 Sem.nrm (Sem.of (fn := Tryz.f149) (keeps := [(0, [0]), (1, [3]), (2, [3, 4]), (3, [3, 4]), (4, [3, 4]), (5, [3, 4]), (6, [3, 4]), (7, [4]), (8, [2]), (9, [2])]) (solo := []) Tryz.func149 rfl (by kernel_rfl) (by kernel_rfl) (by kernel_rfl) hn (run_gp h))
def rc_slices_Clone_api_Term_api_Term : RC :=
 (.seq
 (.reg false [0] [
 oQ 2 (.mov (.c (.sl .full [])))])
 (.seq
 (.seq
 (.reg false [0, 4] [
 qM 3 0, oQ 4 (.eff (.nilS false) [(.t 3)])])
 (.cond (.t 4)
 (.seq
 (.reg false [2] [
 oQ 2 (.mov (.c (.sl .full [])))])
 .ret)
 .skip))
 (.seq
 (.reg false [2] [
 oQ 5 (.bslice 4 []), qM 6 0, oQ 7 (.eff (.appB 4) [(.t 5), (.t 6)]), qM 2 7])
 .ret)))
theorem op_slices_Clone_api_Term_api_Term (hn : vals.length ≤ 8) (h : SP Tryz.prog true vals bs rc_slices_Clone_api_Term_api_Term [.slot 2] Q) : AM.Sem Tryz.prog 150 vals bs Q :=
 Sem.nrm (Sem.of (fn := Tryz.f150) (keeps := [(0, [0]), (1, [0, 4]), (2, [2]), (3, [2]), (1000000, [7])]) (solo := []) Tryz.func150 rfl (by kernel_rfl) (by kernel_rfl) (by kernel_rfl) hn (run_gp h))
end Go.CK
namespace Go.CK
open Go.AM Go.Proofs
variable {vals : List AV} {bs : List Box} {Q : AV -> List Box -> Prop}
def rc_term_RightAtom : RC :=
 (.seq
 (.reg false [1] [
 oQ 1 (.box (.t 0)), oQ 2 (.mov (.c (.bool false)))])
 (.seq
 (.reg false [1, 3] [
 oQ 4 (.build [(.int .i64 0)] [(0, 1, (.c (.int .i64 200)))]), oQ 5 (.box (.t 4)), qM 3 5])
 (.seq
 (.reg false [2] [
 qF 6 0 1, qL 7 6, oQ 8 (.call (.c (.fn (.func 95) [] [])) [(.t 7)]), qM 9 8, oG 10 9 true (.fptr 1 (.t 1)), oG 11 9 true (.load false 1 (.t 10)), oG 12 9 true (.len false (.t 11)), oG 13 9 true (.bin .leq (.t 12) (.c (.int .i64 6))), oQ 14 (.pick (.t 9) (.t 13) (.c (.bool false))), qM 15 14, oG 16 15 true (.mov (.t 3)), oG 17 15 true (.fptr 1 (.t 1)), oG 18 15 true (.load false 1 (.t 17)), oG 19 15 true (.call (.c (.fn (.func 102) [] [])) [(.t 16), (.t 18), (.c (.int .i64 20))]), oQ 20 (.pick (.t 15) (.t 19) (.c (.bool false))), qM 2 20])
 .ret)))
theorem op_term_RightAtom (hn : vals.length ≤ 21) (h : SP Tryz.prog true vals bs rc_term_RightAtom [.slot 2] Q) : AM.Sem Tryz.prog 49 vals bs Q :=
 Sem.nrm (Sem.of (fn := Tryz.f49) (keeps := [(0, [1]), (1, [1, 3]), (2, [2])]) (solo := []) Tryz.func49 rfl (by kernel_rfl) (by kernel_rfl) (by kernel_rfl) hn (run_gp h))
def rc_constraintref03_Fun : RC :=
 (.seq
 (.reg false [0, 1, 4] [
 oQ 4 (.box (.c (.agg [(.int .i64 0), (.int .i64 0), (.str ⟨⟨[]⟩⟩), (.sl .full [])])))])
 (.seq
 (.reg false [4] [
 qM 5 0, oQ 6 (.bslice 4 []), qM 7 1, oQ 8 (.append 4 (.t 6) (.t 7)), oQ 9 (.build [(.int .i64 0), (.int .i64 0), (.str ⟨⟨[]⟩⟩), (.sl .full [])] [(0, 1, (.c (.int .i64 2))), (2, 1, (.t 5)), (3, 1, (.t 8))]), oN (.store 4 (.t 4) (.t 9))])
 .ret))
theorem op_constraintref03_Fun (hn : vals.length ≤ 10) (h : SP Tryz.prog true vals bs rc_constraintref03_Fun [.cell 4 true 4] Q) : AM.Sem Tryz.prog 39 vals bs Q :=
 Sem.nrm (Sem.of (fn := Tryz.f39) (keeps := [(0, [0, 1, 4]), (1, [4])]) (solo := []) Tryz.func39 rfl (by kernel_rfl) (by kernel_rfl) (by kernel_rfl) hn (run_gp h))
def rc_constraintref03_Great : RC :=
 (.seq
 (.reg false [0, 1] [
 oQ 4 (.mov (.c (.bool false)))])
 (.seq
 (.reg false [4] [
 qM 5 0, qM 6 1, oQ 7 (.call (.c (.fn (.func 93) [] [])) [(.t 5), (.t 6), (.c (.int .i64 64))]), oQ 8 (.bin .lss (.t 7) (.c (.int .i64 0))), qM 4 8])
 .ret))
theorem op_constraintref03_Great (hn : vals.length ≤ 9) (h : SP Tryz.prog true vals bs rc_constraintref03_Great [.slot 4] Q) : AM.Sem Tryz.prog 38 vals bs Q :=
 Sem.nrm (Sem.of (fn := Tryz.f38) (keeps := [(0, [0, 1]), (1, [4])]) (solo := []) Tryz.func38 rfl (by kernel_rfl) (by kernel_rfl) (by kernel_rfl) hn (run_gp h))
end Go.CK
namespace Go.CK
end Go.CK
namespace Go.CK
open Go.AM Go.Proofs
variable {vals : List AV} {bs : List Box} {Q : AV -> List Box -> Prop}
def rc_slices_IndexFunc_api_Access_api_Access : RC :=
 (.seq
 (.reg false [0, 1] [
 oQ 4 (.mov (.c (.int .i64 0)))])
 (.seq
 (.seq
 (.reg false [0, 1, 7, 8] [
 qM 6 0, oQ 7 (.len false (.t 6)), oQ 8 (.mov (.c (.int .i64 0)))])
 (.block 0
 (.loop
 (.seq
 (.reg false [0, 1, 7, 8, 9] [
 oQ 9 (.bin .lss (.t 8) (.t 7))])
 (.seq
 (.cond (.t 9)
 .skip
 (.exit 0))
 (.seq
 (.block 1
 (.seq
 (.reg false [0, 1, 5, 7, 8] [
 qM 10 8, qM 5 10])
 (.seq
 (.reg false [0, 1, 5, 7, 8, 16] [
 qM 11 1, qM 12 0, qM 13 5, qI 14 3 12 13, qA 15 3 14, oQ 16 (.callv (.t 11) [(.t 15)])])
 (.cond (.t 16)
 (.seq
 (.reg false [4] [
 qM 17 5, qM 4 17])
 .ret)
 .skip))))
 (.reg false [0, 1, 7, 8] [
 oQ 18 (.bin .add (.t 8) (.c (.int .i64 1))), qM 8 18])))))))
 (.seq
 (.reg false [4] [
 oQ 4 (.mov (.c (.int .i64 (-1))))])
 .ret)))
theorem op_slices_IndexFunc_api_Access_api_Access (hn : vals.length ≤ 19) (h : SP Tryz.prog true vals bs rc_slices_IndexFunc_api_Access_api_Access [.slot 4] Q) : AM.Sem Tryz.prog 94 vals bs Q :=
 Sem.nrm (Sem.of (fn := Tryz.f94) (keeps := [(0, [0, 1]), (1, [0, 1, 7, 8]), (2, [0, 1, 7, 8, 9]), (3, [0, 1, 5, 7, 8]), (4, [0, 1, 5, 7, 8, 16]), (5, [4]), (6, [0, 1, 7, 8]), (7, [4])]) (solo := []) Tryz.func94 rfl (by kernel_rfl) (by kernel_rfl) (by kernel_rfl) hn (run_gp h))
end Go.CK
namespace Go.AM
open Go.CK Go.RowKit
section
variable {P : Program} {F : Fence} {n : Nat}
end
section
variable {P : Program} {E : Entry} {G : Gh} {s : St} {a : Act} {w : World}
end
section
variable {P : Program} {nt : Nat} {ops : Array Oper} {E : Entry} {rd : Option Nat} {n : Nat}
end
end Go.AM
