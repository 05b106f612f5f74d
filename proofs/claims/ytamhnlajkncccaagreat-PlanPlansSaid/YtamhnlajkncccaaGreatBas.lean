/-
  Texts of this claim joined (wip/gen/bundle.py), those declarations only that are needed: PlA. By an AI agent.
-/
import Derived.Test.YtamhnlajkncccaaGreatBar
import Derived.Test.YtamhnlajkncccaaGreatBaq
set_option linter.unusedSimpArgs false
set_option linter.unusedVariables false
namespace Go.CK
open Go.AM Go.Proofs
open Go.AM Go.Proofs
theorem bool_no {p : Prop} [Decidable p] (h : ¬ p) : AV.bool false = AV.bool (decide p) := by rw [decide_eq_false h]
theorem bool_yes {p : Prop} [Decidable p] (h : p) : AV.bool true = AV.bool (decide p) := by rw [decide_eq_true h]
set_option maxRecDepth 100000 in
theorem weigh_of (a : Tm) : ∀ left deep : Int, -2305843009213693952 ≤ left → left ≤ 4294967296 → 0 ≤ deep → deep ≤ 64 → Fun Tryz.prog 56 [slA Tm.av a.args, .int .i64 left, .int .i64 deep] (.int .i64 (weighI a.args left deep)) := by
  induction a using Tm.ind_all with
  | h k n s l ih =>
  intro left deep b1 b2 b3 b4
  rw [show (Tm.mk k n s l).args = l from rfl]
  refine Fun.assume rfl fun hg0 => ?_
  have hgs := good_sla (hg0 (slA Tm.av l) (by simp))
  have hg := hgs.1
  refine Fun.of (op_constraintref03_weigh (by simp) ?_) rfl rfl
  conv => whnf
  conv => whnf
  repeat' ((first | (refine gC ?_; first | refine cY ?_ | (refine gD ?_; first | refine cI ?_ | refine cJ ?_) | refine CondN.lt (fun hc => ?_) (fun hc => ?_) | refine CondN.dec (fun hc => ?_) (fun hc => ?_)) | (refine gL ?_; refine .map ?_) | refine RetP.nrm ?_) <;> conv => whnf)
  · rw [weighI, if_pos (.inl (by assumption))]
  · rw [weighI, if_pos (.inr (by assumption))]
  · have e0 : weighI l left deep = Tm.wghs l left deep := by rw [weighI, if_neg (by omega)]
    rw [e0]
    refine LoopP.by (fb := true) (fun s (q : Nat × Int) => s.sets [(1, .int .i64 q.2), (7, .int .i64 q.1)]) (fun q => q.1 ≤ l.length ∧ (-1 ≤ q.2 ∧ q.2 ≤ 4294967296) ∧ Tm.wghs (l.drop q.1) q.2 deep = Tm.wghs l left deep) (fun q => l.length - q.1) (0, left) ⟨Nat.zero_le _, by simp only; omega, rfl⟩ ?_ ?_
    · refine EndN.at_ ?_ rfl
      conv => whnf
      refine And.intro ?_ ?_ <;> conv => whnf
      all_goals repeat' ((first | (refine gV ?_; first | refine vE ?_ | refine vI ?_) | exact True.intro) <;> conv => whnf)
    · rintro ⟨j, r⟩ ⟨hj, hr, he⟩
      dsimp only at hj hr he ⊢
      by_cases hlt : j < l.length
      · obtain ⟨x, hx⟩ : ∃ x, l[j]? = some x := ⟨_, List.getElem?_eq_getElem hlt⟩
        have hxs := (good_tm (good_tmv (hgs.2 x (List.mem_of_getElem? hx)))).1
        by_cases hr0 : 0 ≤ r
        · rw [wghs_step hx hr0] at he
          have hw := wgh_le x r deep hr.1
          rw [Tm.wgh_eq] at hw he
          have h8 := tdiv8 x.name.size
          conv => whnf
          repeat' ((first | (refine gG ?_; refine CallP.fn (ih _ (List.mem_of_getElem? (by assumption)) _ _ (by omega) (by omega) (by omega) (by omega)) ?_) | (refine gC ?_; (refine gD ?_; refine cI ?_)) | (refine gW ?_; refine wI ?_) | (refine gL ?_; refine .map ?_) | (refine gN ?_; refine nS ?_) | (refine gI ?_; (refine gT ?_; refine iA ?_))) <;> conv => whnf)
          refine ⟨(j + 1, weighI x.args (r - 1 - (x.name.size : Int).tdiv 8) (deep - 1)), ⟨⟨hlt, ?_, he⟩, by simp only; omega⟩, ?_⟩
          · simp only; omega
          · refine EndN.at_ ?_ rfl
            conv => whnf
            refine And.intro ?_ ?_ <;> conv => whnf
            all_goals repeat' ((first | (refine gV ?_; first | refine vE ?_ | refine vI ?_) | exact True.intro) <;> conv => whnf)
        · rw [wghs_neg _ (by omega)] at he
          conv => whnf
          repeat' ((first | (refine gC ?_; (refine gD ?_; first | refine cI ?_ | refine cJ ?_)) | (refine gL ?_; refine .map ?_) | refine RetP.nrm ?_) <;> conv => whnf)
          rw [he]
      · have hje : j = l.length := by omega
        subst hje
        rw [List.drop_length, Tm.wghs] at he
        conv => whnf
        repeat' ((first | (refine gC ?_; first | refine cN ?_ | (refine gD ?_; refine cJ ?_)) | (refine gL ?_; refine .map ?_) | refine RetP.nrm ?_) <;> conv => whnf)
        rw [he]
theorem weigh_ok {l : List Tm} {left deep : Int} (h1 : -2305843009213693952 ≤ left) (h2 : left ≤ 4294967296) (h3 : 0 ≤ deep) (h4 : deep ≤ 64) : Fun Tryz.prog 56 [slA Tm.av l, .int .i64 left, .int .i64 deep] (.int .i64 (weighI l left deep)) := weigh_of (.mk 0 0 .empty l) left deep h1 h2 h3 h4
open Go.AM Go.Proofs
def upTo {α : Type} (a b : List α) (j : Nat) : Prop := ∀ i, i < j → a[i]? = b[i]?
theorem upTo.zero {α : Type} {a b : List α} : upTo a b 0 := fun i h => by omega
theorem upTo.succ {α : Type} {a b : List α} {j : Nat} {x y : α} (h : upTo a b j) (hx : a[j]? = some x) (hy : b[j]? = some y) (e : x = y) : upTo a b (j + 1) := fun i hi => by
  by_cases hij : i = j
  · subst hij; rw [hx, hy, e]
  · exact h i (by omega)
theorem upTo.all {α : Type} {a b : List α} (h : upTo a b a.length) (hl : a.length = b.length) : a = b := List.ext_getElem? fun i => by
  rcases Nat.lt_or_ge i a.length with h1 | h1
  · exact h i h1
  · rw [List.getElem?_eq_none h1, List.getElem?_eq_none (by omega)]
theorem ne_at {α : Type} {a b : List α} {j : Nat} {x y : α} (hx : a[j]? = some x) (hy : b[j]? = some y) (e : ¬ x = y) : ¬ a = b := fun h => by subst h; rw [hx] at hy; exact e (Option.some.inj hy)
theorem ne_len {α : Type} {a b : List α} (h : ¬ (a.length : Int) = b.length) : ¬ a = b := fun e => h (by rw [e])
set_option maxRecDepth 100000 in
theorem sameInts_ok {a b : List Int} : Fun Tryz.prog 13 [slA intA a, slA intA b] (.bool (decide (a = b))) := by
  refine Fun.assume rfl fun hg0 => ?_
  refine Fun.of (op_constraintref03_SameInts (by simp) ?_) rfl rfl
  conv => whnf
  have hg := (good_sla (hg0 (slA intA a) (by simp))).1
  conv => whnf
  repeat' ((first | (refine gC ?_; first | refine .not ?_ | refine CondN.dec (fun hc => ?_) (fun hc => ?_)) | (refine gL ?_; refine .map ?_) | refine RetP.nrm ?_) <;> conv => whnf)
  · refine LoopP.count (fb := true) (a.length) (fun st_ j => st_.sets [(5, .int .i64 j)]) (fun j => upTo a b j) ?_ ?_ (fun j hj hij => ?_) (fun hij => ?_)
    · exact upTo.zero
    · refine EndN.at_ ?_ rfl
      conv => whnf
      refine And.intro ?_ ?_ <;> conv => whnf
      all_goals repeat' ((first | (refine gV ?_; first | refine vE ?_ | refine vI ?_) | exact True.intro) <;> conv => whnf)
    · conv => whnf
      repeat' ((first | (refine gC ?_; first | refine .not ?_ | (refine gD ?_; refine cI ?_) | refine CondN.dec (fun hc => ?_) (fun hc => ?_)) | (refine gW ?_; refine wI ?_) | (refine gL ?_; refine .map ?_) | (refine gI ?_; (refine gM ?_; refine iH fun x hx => ?_)) | refine RetP.nrm ?_) <;> conv => whnf)
      · refine ⟨hij.succ (by assumption) (by assumption) (by assumption), ?_⟩
        refine EndN.at_ ?_ rfl
        conv => whnf
        refine And.intro ?_ ?_ <;> conv => whnf
        all_goals repeat' ((first | (refine gV ?_; first | refine vE ?_ | refine vI ?_) | exact True.intro) <;> conv => whnf)
      · exact bool_no (ne_at (by assumption) (by assumption) (by assumption))
    · conv => whnf
      repeat' ((first | (refine gC ?_; first | refine cN ?_ | (refine gD ?_; refine cJ ?_)) | (refine gL ?_; refine .map ?_) | refine RetP.nrm ?_) <;> conv => whnf)
      exact bool_yes (hij.all (by omega))
  · exact bool_no (ne_len (by assumption))
set_option maxRecDepth 100000 in
theorem equalI_ok {a b : List Int} : Fun Tryz.prog 36 [slA intA a, slA intA b] (.bool (decide (a = b))) := by
  refine Fun.assume rfl fun hg0 => ?_
  refine Fun.of (op_slices_Equal_int_int (by simp) ?_) rfl rfl
  conv => whnf
  have hg := (good_sla (hg0 (slA intA a) (by simp))).1
  conv => whnf
  repeat' ((first | (refine gC ?_; first | refine .not ?_ | refine CondN.dec (fun hc => ?_) (fun hc => ?_)) | (refine gL ?_; refine .map ?_) | refine RetP.nrm ?_) <;> conv => whnf)
  · refine LoopP.count (fb := true) (a.length) (fun st_ j => st_.sets [(13, .int .i64 j)]) (fun j => upTo a b j) ?_ ?_ (fun j hj hij => ?_) (fun hij => ?_)
    · exact upTo.zero
    · refine EndN.at_ ?_ rfl
      conv => whnf
      refine And.intro ?_ ?_ <;> conv => whnf
      all_goals repeat' ((first | (refine gV ?_; first | refine vE ?_ | refine vI ?_) | exact True.intro) <;> conv => whnf)
    · conv => whnf
      repeat' ((first | (refine gC ?_; first | refine .not ?_ | (refine gD ?_; refine cI ?_) | refine CondN.dec (fun hc => ?_) (fun hc => ?_)) | (refine gW ?_; refine wI ?_) | (refine gI ?_; (refine gM ?_; refine iH fun x hx => ?_)) | refine RetP.nrm ?_) <;> conv => whnf)
      · refine ⟨hij.succ (by assumption) (by assumption) (by assumption), ?_⟩
        refine EndN.at_ ?_ rfl
        conv => whnf
        refine And.intro ?_ ?_ <;> conv => whnf
        all_goals repeat' ((first | (refine gV ?_; first | refine vE ?_ | refine vI ?_) | exact True.intro) <;> conv => whnf)
      · exact bool_no (ne_at (by assumption) (by assumption) (by assumption))
    · conv => whnf
      repeat' ((first | (refine gC ?_; (refine gD ?_; refine cJ ?_)) | refine RetP.nrm ?_) <;> conv => whnf)
      exact bool_yes (hij.all (by omega))
  · exact bool_no (ne_len (by assumption))
def isI (n : Int) (x : Int) : Bool := decide (n = x)
theorem any_isI (l : List Int) (n : Int) : l.any (isI n) = decide (n ∈ l) := by
  rw [Bool.eq_iff_iff]
  simp [isI]
set_option maxRecDepth 100000 in
theorem index_ok {l : List Int} {n : Int} : Fun Tryz.prog 47 [slA intA l, .int .i64 n] (.int .i64 (findI (isI n) l)) := by
  refine Fun.assume rfl fun hg0 => ?_
  have hg := (good_sla (hg0 (slA intA l) (by simp))).1
  refine Fun.of (op_slices_Index_int_int (by simp) ?_) rfl rfl
  conv => whnf
  conv => whnf
  repeat' ((refine gL ?_; refine .map ?_) <;> conv => whnf)
  refine LoopP.count (fb := true) (l.length) (fun st_ j => st_.sets [(8, .int .i64 j)]) (fun j => ∀ i x, i < j → l[i]? = some x → isI n x = false) ?_ ?_ (fun j hj hij => ?_) (fun hij => ?_)
  · exact no_zero
  · refine EndN.at_ ?_ rfl
    conv => whnf
    refine And.intro ?_ ?_ <;> conv => whnf
    all_goals repeat' ((first | (refine gV ?_; first | refine vE ?_ | refine vI ?_) | exact True.intro) <;> conv => whnf)
  · conv => whnf
    repeat' ((first | (refine gC ?_; first | (refine gD ?_; refine cI ?_) | refine CondN.dec (fun hc => ?_) (fun hc => ?_)) | (refine gW ?_; refine wI ?_) | (refine gI ?_; (refine gM ?_; refine iH fun x hx => ?_)) | refine RetP.nrm ?_) <;> conv => whnf)
    · rw [findI_at hij (by assumption) (by simp [isI, *])]
    · refine ⟨no_succ hij (by assumption) (by simp [isI, *]), ?_⟩
      refine EndN.at_ ?_ rfl
      conv => whnf
      refine And.intro ?_ ?_ <;> conv => whnf
      all_goals repeat' ((first | (refine gV ?_; first | refine vE ?_ | refine vI ?_) | exact True.intro) <;> conv => whnf)
  · conv => whnf
    repeat' ((first | (refine gC ?_; (refine gD ?_; refine cJ ?_)) | refine RetP.nrm ?_) <;> conv => whnf)
    rw [findI_no hij]
set_option maxRecDepth 100000 in
theorem contains_ok {l : List Int} {n : Int} : Fun Tryz.prog 23 [slA intA l, .int .i64 n] (.bool (decide (n ∈ l))) := by
  rw [← any_isI, ← findI_pos]
  refine Fun.of (op_slices_Contains_int_int (by simp) ?_) rfl rfl
  conv => whnf
  conv => whnf
  repeat' ((first | (refine gF ?_; refine CallN.fn (index_ok) ?_) | refine RetP.nrm ?_) <;> conv => whnf)
set_option maxRecDepth 100000 in
theorem has03_ok {l : List Int} {n : Int} : Fun Tryz.prog 100 [slA intA l, .int .i64 n] (.bool (decide (n ∈ l))) := by
  rw [← any_isI]
  refine Fun.assume rfl fun hg0 => ?_
  have hg := (good_sla (hg0 (slA intA l) (by simp))).1
  refine Fun.of (op_constraintref03_has (by simp) ?_) rfl rfl
  conv => whnf
  conv => whnf
  skip
  refine LoopP.count (fb := true) (l.length) (fun st_ j => st_.sets [(5, .int .i64 j)]) (fun j => ∀ i x, i < j → l[i]? = some x → isI n x = false) ?_ ?_ (fun j hj hij => ?_) (fun hij => ?_)
  · exact no_zero
  · refine EndN.at_ ?_ rfl
    conv => whnf
    refine And.intro ?_ ?_ <;> conv => whnf
    all_goals repeat' ((first | (refine gV ?_; first | refine vE ?_ | refine vI ?_) | exact True.intro) <;> conv => whnf)
  · conv => whnf
    repeat' ((first | (refine gC ?_; first | (refine gD ?_; refine cI ?_) | refine CondN.dec (fun hc => ?_) (fun hc => ?_)) | (refine gW ?_; refine wI ?_) | (refine gL ?_; refine .map ?_) | (refine gI ?_; (refine gM ?_; refine iH fun x hx => ?_)) | refine RetP.nrm ?_) <;> conv => whnf)
    · rw [any_at (by assumption) (by simp [isI, *])]
    · refine ⟨no_succ hij (by assumption) (by simp [isI]; omega), ?_⟩
      refine EndN.at_ ?_ rfl
      conv => whnf
      refine And.intro ?_ ?_ <;> conv => whnf
      all_goals repeat' ((first | (refine gV ?_; first | refine vE ?_ | refine vI ?_) | exact True.intro) <;> conv => whnf)
  · conv => whnf
    repeat' ((first | (refine gC ?_; (refine gD ?_; refine cJ ?_)) | (refine gL ?_; refine .map ?_) | refine RetP.nrm ?_) <;> conv => whnf)
    rw [any_no hij]
def Gl.same (a b : Gl) : Bool := decide (a.op = b.op) && (decide (a.name = b.name) && (decide (a.args.length = b.args.length) && decide (Tm.cmps a.args b.args = 0)))
open Go.AM Go.Proofs
mutual
def Tm.vs : Tm → List Int
  | .mk k n _ l => if k = 1 then [n] else if k = 2 then Tm.vss l else []
def Tm.vss : List Tm → List Int
  | [] => []
  | t :: r => t.vs ++ Tm.vss r
end
def Tm.use (t : Tm) : List Tm := if t.kind = 2 then t.args else []
theorem Tm.vs_1 {t : Tm} (h : t.kind = 1) : t.vs = [t.num] := by
  obtain ⟨k, n, s, l⟩ := t
  simp only [Tm.kind] at h
  rw [Tm.vs, if_pos h]; rfl
theorem Tm.vs_2 {t : Tm} (h : ¬ t.kind = 1) : t.vs = Tm.vss t.use := by
  obtain ⟨k, n, s, l⟩ := t
  simp only [Tm.kind] at h
  rw [Tm.vs, if_neg h]
  unfold Tm.use
  show _ = Tm.vss (if k = 2 then l else [])
  by_cases h2 : k = 2
  · rw [if_pos h2, if_pos h2]
  · rw [if_neg h2, if_neg h2, Tm.vss]
theorem Tm.vss_app : ∀ l m : List Tm, Tm.vss (l ++ m) = Tm.vss l ++ Tm.vss m
  | [], m => rfl
  | t :: l, m => by rw [List.cons_append, Tm.vss, Tm.vss, Tm.vss_app l m, List.append_assoc]
theorem Tm.vss_take {l : List Tm} {j : Nat} {x : Tm} (h : l[j]? = some x) : Tm.vss (l.take (j + 1)) = Tm.vss (l.take j) ++ x.vs := by
  obtain ⟨hj, rfl⟩ := List.getElem?_eq_some_iff.1 h
  rw [List.take_succ_eq_append_getElem hj, Tm.vss_app]
  simp [Tm.vss]
theorem Tm.vss_split {l : List Tm} {j : Nat} {x : Tm} (h : l[j]? = some x) : Tm.vss l = Tm.vss (l.take j) ++ (x.vs ++ Tm.vss (l.drop (j + 1))) := by
  rw [← List.append_assoc, ← Tm.vss_take h, ← Tm.vss_app, List.take_append_drop]
def ys1 (l : List Int) : List (List AV) := l.map fun n => [intA n]
theorem ys1_app (l m : List Int) : ys1 (l ++ m) = ys1 l ++ ys1 m := by simp [ys1]
theorem mem_use {a : Tm} {x : Tm} (h : x ∈ a.use) : x ∈ a.args := by
  unfold Tm.use at h
  split at h
  · exact h
  · cases h
set_option maxRecDepth 100000 in
theorem args_ok {a : Tm} : Fun Tryz.prog 108 [a.avw] (slA Tm.av a.use) := by
  refine Fun.of (op_term_args (by simp) ?_) rfl rfl
  conv => whnf
  conv => whnf
  repeat' ((first | (refine gC ?_; refine CondN.dec (fun hc => ?_) (fun hc => ?_)) | refine RetP.nrm ?_) <;> conv => whnf)
  all_goals simp [Tm.use, *]
set_option maxRecDepth 100000 in
theorem refArgs_ok {a : Tm} : Fun Tryz.prog 101 [a.avw] (slA Tm.av a.use) := by
  refine Fun.of (op_constraintref03_args (by simp) ?_) rfl rfl
  conv => whnf
  conv => whnf
  repeat' ((first | (refine gC ?_; refine CondN.dec (fun hc => ?_) (fun hc => ?_)) | refine RetP.nrm ?_) <;> conv => whnf)
  all_goals simp [Tm.use, *]
/-- what a loop's round does, seen by functions that call it -/
structure YC (P : Program) (b n0 : Nat) (xs : List (List AV)) (J : List (List AV) → List Box → Prop) (Jx : List Box → Prop) : Prop where
  hb : b < n0
  hJ : ∀ pre bs', J pre bs' → bs'.length = n0 ∧ boxesLt n0 bs' = true
  hJx : ∀ bs', Jx bs' → bs'.length = n0 ∧ boxesLt n0 bs' = true
  hr : ∀ pre y rest bs' cs, pre ++ y :: rest = xs → J pre bs' → SemY P b y (bs' ++ cs) fun r bs2 => ∃ own, bs2 = own ++ cs ∧ ((r = .bool true ∧ J (pre ++ [y]) own) ∨ (r = .bool false ∧ Jx own))
theorem bl2 {n0 : Nat} {own cs : List Box} (h : own.length = n0 ∧ boxesLt n0 own = true) (hcs : boxesLt (n0 + cs.length) cs = true) : boxesLt (own ++ cs).length (own ++ cs) = true := by
  rw [List.length_append, h.1]
  exact boxesLt_app (boxesLt_le (Nat.le_add_right _ _) h.2) hcs
set_option maxRecDepth 100000 in
theorem walk_ok (a : Tm) : ∀ {b n0 : Nat} {xs : List (List AV)} {J : List (List AV) → List Box → Prop} {Jx : List Box → Prop} (hC : YC Tryz.prog b n0 xs J Jx) (pre rest : List (List AV)) (bs cs : List Box), pre ++ (ys1 a.vs ++ rest) = xs → J pre bs → boxesLt (n0 + cs.length) cs = true →
    AM.Sem Tryz.prog 99 [a.avw, .yl b] (bs ++ cs) fun r bs' => ∃ own, bs' = own ++ cs ∧ ((r = .bool true ∧ J (pre ++ ys1 a.vs) own) ∨ (r = .bool false ∧ Jx own)) := by
  induction a using Tm.ind_all with
  | h k n s l ih =>
  intro b n0 xs J Jx hC pre rest bs cs hx hj hcs
  generalize ha : Tm.mk k n s l = a at hx ⊢
  have ih : ∀ t ∈ a.args, ∀ {b n0 : Nat} {xs : List (List AV)} {J : List (List AV) → List Box → Prop} {Jx : List Box → Prop} (hC : YC Tryz.prog b n0 xs J Jx) (pre rest : List (List AV)) (bs cs : List Box), pre ++ (ys1 t.vs ++ rest) = xs → J pre bs → boxesLt (n0 + cs.length) cs = true →
    AM.Sem Tryz.prog 99 [t.avw, .yl b] (bs ++ cs) fun r bs' => ∃ own, bs' = own ++ cs ∧ ((r = .bool true ∧ J (pre ++ ys1 t.vs) own) ∨ (r = .bool false ∧ Jx own)) := by subst ha; exact ih
  clear ha
  have hbl := hC.hJ _ _ hj
  refine Sem.assume fun hg0 _ => ?_
  have hg := (good_tm (hg0 a.avw (by simp) rfl)).2.1
  have hgu : a.use.length ≤ 140737488355328 := by unfold Tm.use; split <;> simp [hg]
  refine opS_term_walk (by simp) ?_
  conv => whnf
  repeat' ((first | (refine gF ?_; refine CallN.fn (args_ok) ?_) | (refine gC ?_; refine CondN.dec (fun hc => ?_) (fun hc => ?_)) | (refine gL ?_; refine .map ?_) | (refine gB ?_; refine .last ?_)) <;> conv => whnf)
  · rw [Tm.vs_1 hc] at hx ⊢
    have hY := hC.hr pre [intA a.num] rest bs (cs ++ [.cells [.int .i64 a.kind, .int .i64 a.num, .str a.name, .sl .no (a.args.map Tm.av)]]) hx hj
    rw [← List.append_assoc] at hY
    refine YieldN.of hY ?_
    rintro r bs' ⟨own, rfl, h⟩
    have ho : own.length = n0 ∧ boxesLt n0 own = true := by
      rcases h with ⟨_, h⟩ | ⟨_, h⟩
      · exact hC.hJ _ _ h
      · exact hC.hJx _ h
    rcases h with ⟨rfl, h⟩ | ⟨rfl, h⟩
    · conv => whnf
      skip
      refine RetP.cutS (own := own ++ cs) (List.append_assoc _ _ _).symm (show (bs ++ cs).length ≤ (own ++ cs).length by simp; omega) rfl (bl2 ho hcs) ?_
      exact RetP.slot ⟨own, rfl, .inl ⟨rfl, h⟩⟩
    · conv => whnf
      skip
      refine RetP.cutS (own := own ++ cs) (List.append_assoc _ _ _).symm (show (bs ++ cs).length ≤ (own ++ cs).length by simp; omega) rfl (bl2 ho hcs) ?_
      exact RetP.slot ⟨own, rfl, .inr ⟨rfl, h⟩⟩
  · rw [Tm.vs_2 hc] at hx ⊢
    refine LoopP.by (fb := false) (fun _ (q : Nat × List Box) => ⟨[(1, .yl b), (15, slA Tm.av a.use), (16, .int .i64 a.use.length), (17, .int .i64 q.1)], q.2 ++ cs, (bs ++ cs).length⟩) (fun q => q.1 ≤ a.use.length ∧ J (pre ++ ys1 (Tm.vss (a.use.take q.1))) q.2) (fun q => a.use.length - q.1) (0, bs) ⟨Nat.zero_le _, by simpa [Tm.vss, ys1] using hj⟩ ?_ ?_
    · refine EndN.cutS (own := bs ++ cs) rfl (Nat.le_refl _) ?_ (bl2 hbl hcs) ?_
      · simp [envLt, AV.lt, AV.lt1, AV.lt0, AV.flat1]; have := hC.hb; omega
      · refine EndN.atS ?_ rfl rfl
        conv => whnf
        repeat' ((first | (refine gV ?_; first | refine vE ?_ | refine vI ?_) | exact True.intro) <;> conv => whnf)
    · rintro ⟨j, own⟩ ⟨hj1, hj2⟩
      dsimp only at hj1 hj2 ⊢
      have ho := hC.hJ _ _ hj2
      by_cases hlt : j < a.use.length
      · obtain ⟨x, hxj⟩ : ∃ x, a.use[j]? = some x := ⟨_, List.getElem?_eq_getElem hlt⟩
        conv => whnf
        repeat' ((first | (refine gC ?_; (refine gD ?_; refine cI ?_)) | (refine gI ?_; (refine gT ?_; refine iA ?_)) | (refine gB ?_; refine .last ?_) | refine BxSet.last ?_) <;> conv => whnf)
        have hsp := Tm.vss_split hxj
        have htk := Tm.vss_take hxj
        have hC2 := ih x (mem_use (List.mem_of_getElem? hxj)) hC (pre ++ ys1 (Tm.vss (a.use.take j))) (ys1 (Tm.vss (a.use.drop (j + 1))) ++ rest) own (cs ++ [.cells [.int .i64 x.kind, .int .i64 x.num, .str x.name, .sl .no (x.args.map Tm.av)]]) (by rw [← hx, hsp]; simp [ys1_app]) hj2 (boxesLt_app (boxesLt_le (by simp) hcs) rfl)
        rw [← List.append_assoc] at hC2
        refine CallN.raw hC2 ?_
        rintro r bs' ⟨own2, rfl, ⟨rfl, h⟩ | ⟨rfl, h⟩⟩
        · have ho2 := hC.hJ _ _ h
          conv => whnf
          repeat' ((first | (refine gC ?_; first | refine cY ?_ | refine .not ?_) | (refine gW ?_; refine wI ?_)) <;> conv => whnf)
          refine ⟨(j + 1, own2), ⟨⟨hlt, ?_⟩, by simp only; omega⟩, EndN.cutS (own := own2 ++ cs) (List.append_assoc _ _ _).symm (show (bs ++ cs).length ≤ (own2 ++ cs).length by simp; omega) ?_ (bl2 ho2 hcs) ?_⟩
          · dsimp only
            rw [htk, ys1_app, ← List.append_assoc]; exact h
          · simp [envLt, AV.lt, AV.lt1, AV.lt0, AV.flat1]; have := hC.hb; omega
          · refine EndN.atS ?_ rfl rfl
            conv => whnf
            repeat' ((first | (refine gV ?_; first | refine vE ?_ | refine vI ?_) | exact True.intro) <;> conv => whnf)
        · have ho2 := hC.hJx _ h
          conv => whnf
          repeat' ((refine gC ?_; first | refine cN ?_ | refine .not ?_) <;> conv => whnf)
          refine RetP.cutS (own := own2 ++ cs) (List.append_assoc _ _ _).symm (show (bs ++ cs).length ≤ (own2 ++ cs).length by simp; omega) rfl (bl2 ho2 hcs) ?_
          exact RetP.slot ⟨own2, rfl, .inr ⟨rfl, h⟩⟩
      · obtain rfl : j = a.use.length := by omega
        rw [List.take_length] at hj2
        conv => whnf
        repeat' ((refine gC ?_; (refine gD ?_; refine cJ ?_)) <;> conv => whnf)
        exact RetP.slot ⟨own, rfl, .inl ⟨rfl, hj2⟩⟩
set_option maxRecDepth 100000 in
theorem each_ok {l : List Tm} : Fun Tryz.prog 82 [slA Tm.av l] (.fn (.func 98) [] [.ept [slA Tm.av l]]) := by
  refine Fun.of (op_term_each (by simp) ?_) rfl rfl
  conv => whnf
  conv => whnf
  skip
  refine RetP.of (RetN.freeze 0 rfl rfl rfl rfl ?_)
  conv => whnf
  rfl
set_option maxRecDepth 100000 in
theorem each_iter (l : List Tm) : IterF Tryz.prog 98 [.ept [slA Tm.av l]] (ys1 (Tm.vss l)) := by
  intro b bs J Jx hb hJ hJx hr h0
  have hC : YC Tryz.prog b bs.length (ys1 (Tm.vss l)) J Jx := ⟨hb, hJ, hJx, hr⟩
  refine Sem.assume fun _ hg0 => ?_
  have hg := (good_sla (hg0 [slA Tm.av l] (by simp) (slA Tm.av l) (by simp))).1
  refine opS_term_each_1 (by simp) ?_
  conv => whnf
  repeat' ((refine gL ?_; refine .map ?_) <;> conv => whnf)
  refine LoopP.by (fb := false) (fun _ (q : Nat × List Box) => ⟨[(0, .yl b), (1, .ept [slA Tm.av l]), (5, .int .i64 l.length), (6, .int .i64 q.1)], q.2, bs.length⟩) (fun q => q.1 ≤ l.length ∧ J (ys1 (Tm.vss (l.take q.1))) q.2) (fun q => l.length - q.1) (0, bs) ⟨Nat.zero_le _, by simpa [Tm.vss, ys1] using h0⟩ (EndN.eqS rfl rfl rfl) ?_
  rintro ⟨j, own⟩ ⟨hj1, hj2⟩
  dsimp only at hj1 hj2 ⊢
  have ho := hC.hJ _ _ hj2
  by_cases hlt : j < l.length
  · obtain ⟨x, hxj⟩ : ∃ x, l[j]? = some x := ⟨_, List.getElem?_eq_getElem hlt⟩
    conv => whnf
    repeat' ((first | (refine gC ?_; (refine gD ?_; refine cI ?_)) | (refine gI ?_; (refine gT ?_; refine iA ?_))) <;> conv => whnf)
    have hsp := Tm.vss_split hxj
    have htk := Tm.vss_take hxj
    have hC2 := walk_ok x hC (ys1 (Tm.vss (l.take j))) (ys1 (Tm.vss (l.drop (j + 1)))) own [] (by rw [hsp, ys1_app, ys1_app]) hj2 rfl
    rw [List.append_nil] at hC2
    refine CallN.raw hC2 ?_
    rintro r bs' ⟨own2, rfl, ⟨rfl, h⟩ | ⟨rfl, h⟩⟩
    · have ho2 := hC.hJ _ _ h
      conv => whnf
      repeat' ((first | (refine gC ?_; first | refine cY ?_ | refine .not ?_) | (refine gW ?_; refine wI ?_)) <;> conv => whnf)
      refine ⟨(j + 1, own2), ⟨⟨hlt, ?_⟩, by simp only; omega⟩, ?_⟩
      · dsimp only
        rw [htk, ys1_app]; exact h
      · refine EndN.atS ?_ (List.append_nil _) rfl
        conv => whnf
        repeat' ((first | (refine gV ?_; first | refine vE ?_ | refine vI ?_) | exact True.intro) <;> conv => whnf)
    · conv => whnf
      repeat' ((first | (refine gC ?_; first | refine cN ?_ | refine .not ?_) | refine RetP.nrm ?_) <;> conv => whnf)
      refine Or.inr ?_
      rw [List.append_nil]; exact h
  · obtain rfl : j = l.length := by omega
    rw [List.take_length] at hj2
    conv => whnf
    repeat' ((first | (refine gC ?_; (refine gD ?_; refine cJ ?_)) | refine RetP.nrm ?_) <;> conv => whnf)
    exact Or.inl hj2
def addV (l : List Int) (n : Int) : List Int := if n ∈ l then l else l ++ [n]
def addVs (l m : List Int) : List Int := m.foldl addV l
theorem addVs_app (l m k : List Int) : addVs l (m ++ k) = addVs (addVs l m) k := by simp [addVs]
theorem addVs_snoc (l m : List Int) (n : Int) : addVs l (m ++ [n]) = addV (addVs l m) n := by simp [addVs]
theorem addV_mem {l : List Int} {n x : Int} : x ∈ addV l n ↔ x ∈ l ∨ x = n := by
  unfold addV
  split
  · exact ⟨.inl, fun h => h.elim id fun e => by subst e; assumption⟩
  · simp
theorem addVs_mem : ∀ {m l : List Int} {x : Int}, x ∈ addVs l m ↔ x ∈ l ∨ x ∈ m
  | [], l, x => by simp [addVs]
  | n :: m, l, x => by
    show x ∈ addVs (addV l n) m ↔ _
    rw [addVs_mem, addV_mem, List.mem_cons, or_assoc]
theorem addV_len (l : List Int) (n : Int) : (addV l n).length ≤ l.length + 1 := by
  unfold addV
  split <;> simp
theorem addVs_len : ∀ (m l : List Int), (addVs l m).length ≤ l.length + m.length
  | [], l => by simp [addVs]
  | n :: m, l => by
    have h1 := addVs_len m (addV l n)
    have h2 := addV_len l n
    show (addVs (addV l n) m).length ≤ _
    simp only [List.length_cons]; omega
theorem addV_in {l : List Int} {n : Int} (h : n ∈ l) : addV l n = l := if_pos h
theorem addV_out {l : List Int} {n : Int} (h : ¬ n ∈ l) : addV l n = l ++ [n] := if_neg h
def firsts (l : List Int) : List Int := addVs [] l
set_option maxRecDepth 100000 in
theorem once_ok {l : List Tm} (hl : (Tm.vss l).length ≤ 100000) : Fun Tryz.prog 81 [.fn (.func 98) [] [.ept [slA Tm.av l]]] (slA intA (firsts (Tm.vss l))) := by
  refine Fun.of (op_term_once (by simp) ?_) rfl rfl
  conv => whnf
  conv => whnf
  skip
  refine RangeP.each (fun n : Int => [intA n]) (Tm.vss l) ⟨[(2, .sl .full []), (3, .ptr 0 0), (4, .ptr 2 0), (7, .fn (.func 98) [] [.ept [slA Tm.av l]])], [.cells [.sl (.own 1) []], .mp [], .cells [.mpt 1]], 0⟩
    (fun pre => [.cells [.sl (.own 1) ((firsts pre).map intA)], .mp (msOf (.bool true) (firsts pre)), .cells [.mpt 1]]) (each_iter l) (by kernel_rfl) ?_ rfl (fun _ => rfl) (fun _ => rfl) rfl (fun _ => ⟨rfl, rfl⟩) ?_ ?_
  · refine EndN.claimB 0 0 1 rfl (by simp) ?_
    exact EndN.eqS rfl rfl rfl
  · intro x pre y rest hxs
    have hpl : (firsts pre).length + 1 ≤ 100000 := by
      have := congrArg List.length hxs
      have h2 := addVs_len pre []
      simp at this
      unfold firsts
      simp at h2
      omega
    have hfs : firsts (pre ++ [y]) = addV (firsts pre) y := addVs_snoc [] pre y
    conv => whnf
    repeat' ((first | (refine gC ?_; first | refine cY ?_ | refine cN ?_ | refine .not ?_) | (refine gN ?_; refine nS ?_) | (refine gA ?_; refine aP ?_) | (refine gMp ?_; refine mA ?_) | (refine gMs ?_; refine mS (fun hc => ?_) (fun hc => ?_))) <;> conv => whnf)
    · rw [addV_in hc] at hfs
      refine RoundP.by ?_ rfl rfl rfl
      conv => whnf
      repeat' ((first | refine xB ?_ | (refine BxN.mk ?_ ?_; (focus (simp [hfs]; done))) | exact True.intro) <;> conv => whnf)
    · rw [addV_out hc] at hfs
      refine RoundP.by ?_ rfl rfl rfl
      conv => whnf
      repeat' ((first | refine xB ?_ | (refine BxN.mk ?_ ?_; (focus (simp [hfs, msOf_put, St.ev]; done))) | exact True.intro) <;> conv => whnf)
  · conv => whnf
    repeat' (refine RetP.nrm ?_ <;> conv => whnf)
open Go.AM Go.Proofs
set_option maxRecDepth 100000 in
theorem atomVars_ok {x : At} (hl : (Tm.vss x.args).length ≤ 100000) : Fun Tryz.prog 66 [x.av] (slA intA (firsts (Tm.vss x.args))) := by
  refine Fun.of (op_term_AtomVars (by simp) ?_) rfl rfl
  conv => whnf
  conv => whnf
  repeat' ((first | (refine gF ?_; first | refine CallN.fn (each_ok) ?_ | refine CallN.fn (once_ok hl) ?_) | refine RetP.nrm ?_) <;> conv => whnf)
theorem each1_ok {t : Tm} : Fun Tryz.prog 82 [.sl .no [t.avw]] (.fn (.func 98) [] [.ept [.sl .no [t.avw]]]) := by
  have := each_ok (l := [t])
  simp only [slA, List.map_cons, List.map_nil, Tm.av_w] at this
  exact this
theorem once1_ok {t : Tm} (hl : t.vs.length ≤ 100000) : Fun Tryz.prog 81 [.fn (.func 98) [] [.ept [.sl .no [t.avw]]]] (slA intA (firsts t.vs)) := by
  have := once_ok (l := [t]) (by simpa [Tm.vss] using hl)
  simp only [slA, List.map_cons, List.map_nil, Tm.av_w, Tm.vss, List.append_nil] at this
  exact this
set_option maxRecDepth 100000 in
theorem vars_ok {t : Tm} (hl : t.vs.length ≤ 100000) : Fun Tryz.prog 67 [t.avw] (slA intA (firsts t.vs)) := by
  refine Fun.of (op_term_Vars (by simp) ?_) rfl rfl
  conv => whnf
  conv => whnf
  repeat' ((first | (refine gF ?_; first | refine CallN.fn (each1_ok) ?_ | refine CallN.fn (once1_ok hl) ?_) | refine RetP.nrm ?_) <;> conv => whnf)
theorem rowF_lt {k n : Nat} {l : List Int} : boxesLt n [rowF (AV.int .i64) 1 k l] = true := by
  simp only [rowF, boxesLt, Bool.and_true, List.all_eq_true]
  exact fun x hx => (plainI.rowOk l _ n x hx).2
theorem EndN.refl (s : St) : EndN s s := ⟨Weak.refl s⟩
/-- the row of what was found comes last, J ahead of it -/
def VRes (own : List Box) (l : List Int) (r : AV) (bs' : List Box) : Prop := ∃ (J : List Box) (k' : Nat), l.length ≤ k' ∧ boxesLt (own.length + J.length) J = true ∧ r = .bsl (own.length + J.length) l.length k' ∧ bs' = own ++ (J ++ [rowF (AV.int .i64) 1 k' l])
set_option maxRecDepth 100000 in
theorem rvars_of (a : Tm) : ∀ (own : List Box) (l : List Int) (k : Nat), boxesLt own.length own = true → l.length ≤ k → l.length + a.vs.length ≤ 1000000 →
    AM.Sem Tryz.prog 85 [.bsl own.length l.length k, a.avw] (own ++ [rowF (AV.int .i64) 1 k l]) (VRes own (addVs l a.vs)) := by
  induction a using Tm.ind_all with
  | h k n s l ih =>
  intro own l0 k0 ho hk0 hb
  generalize ha : Tm.mk k n s l = a at hb ⊢
  have ih : ∀ t ∈ a.args, ∀ (own : List Box) (l : List Int) (k : Nat), boxesLt own.length own = true → l.length ≤ k → l.length + t.vs.length ≤ 1000000 →
    AM.Sem Tryz.prog 85 [.bsl own.length l.length k, t.avw] (own ++ [rowF (AV.int .i64) 1 k l]) (VRes own (addVs l t.vs)) := by subst ha; exact ih
  clear ha
  refine Sem.assume fun hg0 _ => ?_
  have hg := (good_tm (hg0 a.avw (by simp) rfl)).2.1
  have hgu : a.use.length ≤ 140737488355328 := by unfold Tm.use; split <;> simp [hg]
  refine opS_constraintref03_vars (by simp) ?_
  conv => whnf
  repeat' ((first | (refine gF ?_; refine CallN.fn (refArgs_ok) ?_) | (refine gC ?_; first | refine cN ?_ | (refine gD ?_; first | refine cI ?_ | refine cJ ?_) | refine CondN.dec (fun hc => ?_) (fun hc => ?_)) | (refine gB ?_; refine .last ?_)) <;> conv => whnf)
  · have hv := Tm.vs_1 hc
    have hu : a.use.length = 0 := by unfold Tm.use; rw [if_neg (by omega)]; rfl
    refine CallN.view (has03_ok (l := l0) (n := a.num)) rfl ?_ ?_
    · refine .cons (.row (l := l0) plainI ?_ rfl) (.cons (.same rfl) .nil)
      simp [rowF]
    conv => whnf
    repeat' ((first | (refine gF ?_; refine CallN.fn (refArgs_ok) ?_) | (refine gC ?_; first | refine .not ?_ | (refine gD ?_; refine cI ?_) | refine CondN.dec (fun hc => ?_) (fun hc => ?_)) | (refine gB ?_; refine .last ?_)) <;> conv => whnf)
    · rw [hv, show addVs l0 [a.num] = l0 from addV_in hc]
      refine LoopP.count (fb := false) 0 (fun st_ _ => st_) (fun _ => True) trivial (EndN.refl _) (fun j hj => by omega) (fun _ => ?_)
      conv => whnf
      repeat' ((first | (refine gC ?_; (refine gD ?_; refine cJ ?_)) | (refine gL ?_; refine .map ?_)) <;> conv => whnf)
      refine RetP.cutS (own := own ++ [rowF (AV.int .i64) 1 k0 l0]) rfl (Nat.le_refl _) ?_ ?_ ?_
      · simp [envLt, AV.lt, AV.lt1, AV.lt0, AV.flat1]
      · exact boxesLt_app (boxesLt_le (by simp) ho) rowF_lt
      · exact RetP.slot ⟨[], k0, hk0, rfl, rfl, rfl⟩
    · refine AppN.one (l := l0) plainI (by simp [rowF]) rfl hk0 (by omega) (fun k2 hk2 => ?_)
      rw [setLast2]
      conv => whnf
      skip
      refine BxAt.of (cs := [.int .i64 a.kind, .int .i64 a.num, .str a.name, .sl .no (a.args.map Tm.av)]) (by simp [boxCells, Box.cs?]) ?_
      conv => whnf
      repeat' ((refine gF ?_; refine CallN.fn (refArgs_ok) ?_) <;> conv => whnf)
      rw [hv, show addVs l0 [a.num] = l0 ++ [a.num] from addV_out hc]
      refine LoopP.count (fb := false) 0 (fun st_ _ => st_) (fun _ => True) trivial (EndN.refl _) (fun j hj => by omega) (fun _ => ?_)
      conv => whnf
      repeat' ((first | (refine gC ?_; (refine gD ?_; refine cJ ?_)) | (refine gL ?_; refine .map ?_)) <;> conv => whnf)
      refine RetP.slot ⟨[.dead, .cells [.int .i64 a.kind, .int .i64 a.num, .str a.name, .sl .no (a.args.map Tm.av)]], k2, hk2, rfl, ?_, ?_⟩
      · simp [St.get, envGet]
      · simp
  · refine LoopP.by (fb := false) (fun st_ (q : Nat × Nat × List Box) => ⟨[(0, .bsl (own.length + q.2.2.length) (addVs (l0) (Tm.vss (a.use.take q.1))).length q.2.1), (5, slA Tm.av a.use), (6, .int .i64 q.1)], own ++ (q.2.2 ++ [rowF (AV.int .i64) 1 q.2.1 (addVs (l0) (Tm.vss (a.use.take q.1)))]), st_.lo⟩) (fun q => q.1 ≤ a.use.length ∧ (addVs (l0) (Tm.vss (a.use.take q.1))).length ≤ q.2.1 ∧ boxesLt (own.length + q.2.2.length) q.2.2 = true) (fun q => a.use.length - q.1) (0, k0, []) ⟨Nat.zero_le _, by simp [Tm.vss, addVs, *], rfl⟩ ?_ ?_
    · refine EndN.cutS (own := own ++ [rowF (AV.int .i64) 1 k0 l0]) rfl (Nat.le_refl _) ?_ ?_ ?_
      · simp [envLt, AV.lt, AV.lt1, AV.lt0, AV.flat1]
      · exact boxesLt_app (boxesLt_le (by simp) ho) rowF_lt
      · refine EndN.atS ?_ rfl rfl
        conv => whnf
        repeat' ((first | (refine gV ?_; first | refine vE ?_ | refine vI ?_ | (refine WkN.norm ?_ ?_; (focus (simp [AV.norm, AV.norm1, Tm.vss, addVs]; done)))) | exact True.intro) <;> conv => whnf)
    · rintro ⟨j, k1, J⟩ ⟨hj1, hj2, hJ⟩
      dsimp only at hj1 hj2 hJ ⊢
      by_cases hlt : j < a.use.length
      · obtain ⟨x, hxj⟩ : ∃ x, a.use[j]? = some x := ⟨_, List.getElem?_eq_getElem hlt⟩
        have hsp := Tm.vss_split hxj
        have htk := Tm.vss_take hxj
        have hle := congrArg List.length hsp
        simp only [List.length_append] at hle
        have hle2 := addVs_len (Tm.vss (a.use.take j)) (l0)
        have hI := ih x (mem_use (List.mem_of_getElem? hxj)) (own ++ J) (addVs (l0) (Tm.vss (a.use.take j))) k1 (by rw [List.length_append]; exact boxesLt_app (boxesLt_le (Nat.le_add_right _ _) ho) hJ) hj2 (by rw [Tm.vs_2 hc] at hb; omega)
        rw [List.length_append, List.append_assoc] at hI
        conv => whnf
        repeat' ((first | (refine gC ?_; (refine gD ?_; refine cI ?_)) | (refine gL ?_; refine .map ?_) | (refine gI ?_; (refine gT ?_; refine iA ?_))) <;> conv => whnf)
        refine CallN.raw hI ?_
        rintro r bs' ⟨J2, k2, hk2, hJ2, rfl, rfl⟩
        conv => whnf
        repeat' ((refine gW ?_; refine wI ?_) <;> conv => whnf)
        refine ⟨(j + 1, k2, J ++ J2), ⟨⟨hlt, ?_, ?_⟩, by simp only; omega⟩, ?_⟩
        · dsimp only; rw [htk, addVs_app]; exact hk2
        · dsimp only
          rw [List.length_append, ← Nat.add_assoc]
          rw [List.length_append] at hJ2
          exact boxesLt_app (boxesLt_le (Nat.le_add_right _ _) hJ) hJ2
        · dsimp only
          rw [htk, addVs_app]
          refine EndN.atS ?_ (by simp) rfl
          conv => whnf
          repeat' ((first | (refine gV ?_; first | refine vE ?_ | refine vI ?_ | (refine WkN.norm ?_ ?_; (focus (simp [AV.norm, AV.norm1, Nat.add_assoc]; done)))) | exact True.intro) <;> conv => whnf)
      · obtain rfl : j = a.use.length := by omega
        rw [List.take_length] at hj2
        conv => whnf
        repeat' ((first | (refine gC ?_; (refine gD ?_; refine cJ ?_)) | (refine gL ?_; refine .map ?_)) <;> conv => whnf)
        rw [List.take_length, Tm.vs_2 hc]
        exact RetP.slot ⟨J, k1, hj2, hJ, rfl, rfl⟩
set_option maxRecDepth 100000 in
theorem rvars0_of (a : Tm) (own : List Box) (ho : boxesLt own.length own = true) (hb : a.vs.length ≤ 1000000) : AM.Sem Tryz.prog 85 [.sl .full [], a.avw] own (VRes own (addVs [] a.vs)) := by
  have ih : ∀ t ∈ a.args, ∀ (own : List Box) (l : List Int) (k : Nat), boxesLt own.length own = true → l.length ≤ k → l.length + t.vs.length ≤ 1000000 →
    AM.Sem Tryz.prog 85 [.bsl own.length l.length k, t.avw] (own ++ [rowF (AV.int .i64) 1 k l]) (VRes own (addVs l t.vs)) := fun t _ => rvars_of t
  have hb : ([] : List Int).length + a.vs.length ≤ 1000000 := by simpa using hb
  refine Sem.assume fun hg0 _ => ?_
  have hg := (good_tm (hg0 a.avw (by simp) rfl)).2.1
  have hgu : a.use.length ≤ 140737488355328 := by unfold Tm.use; split <;> simp [hg]
  refine opS_constraintref03_vars (by simp) ?_
  conv => whnf
  repeat' ((first | (refine gF ?_; first | refine CallN.fn (refArgs_ok) ?_ | refine CallN.fn (has03_ok (l := []) (n := a.num)) ?_) | (refine gC ?_; first | refine cN ?_ | refine .not ?_ | (refine gD ?_; first | refine cI ?_ | refine cJ ?_) | refine CondN.dec (fun hc => ?_) (fun hc => ?_)) | (refine gB ?_; refine .last ?_)) <;> conv => whnf)
  · cases hc
  · have hv := Tm.vs_1 (t := a) (by assumption)
    have hu : a.use.length = 0 := by unfold Tm.use; rw [if_neg (by omega)]; rfl
    refine AppN.nilRow (l' := [a.num]) plainI (by simp) (fun k2 hk2 => ?_)
    conv => whnf
    repeat' ((first | (refine gF ?_; refine CallN.fn (refArgs_ok) ?_) | (refine gB ?_; refine .last2 ?_)) <;> conv => whnf)
    rw [hv, show addVs [] [a.num] = [a.num] from rfl]
    refine LoopP.count (fb := false) 0 (fun st_ _ => st_) (fun _ => True) trivial (EndN.refl _) (fun j hj => by omega) (fun _ => ?_)
    conv => whnf
    repeat' ((first | (refine gC ?_; (refine gD ?_; refine cJ ?_)) | (refine gL ?_; refine .map ?_)) <;> conv => whnf)
    refine RetP.slot ⟨[.cells [.int .i64 a.kind, .int .i64 a.num, .str a.name, .sl .no (a.args.map Tm.av)]], k2, hk2, rfl, ?_, ?_⟩
    · simp [St.get, envGet]
    · simp
  · refine LoopP.by (fb := false) (fun st_ (q : Nat × Nat × List Box) => ⟨[(0, .bsl (own.length + q.2.2.length) (addVs ([]) (Tm.vss (a.use.take q.1))).length q.2.1), (5, slA Tm.av a.use), (6, .int .i64 q.1)], own ++ (q.2.2 ++ [rowF (AV.int .i64) 1 q.2.1 (addVs ([]) (Tm.vss (a.use.take q.1)))]), st_.lo⟩) (fun q => q.1 ≤ a.use.length ∧ (addVs ([]) (Tm.vss (a.use.take q.1))).length ≤ q.2.1 ∧ boxesLt (own.length + q.2.2.length) q.2.2 = true) (fun q => a.use.length - q.1) (0, 0, []) ⟨Nat.zero_le _, by simp [Tm.vss, addVs, *], rfl⟩ ?_ ?_
    · refine EndN.cutS (own := own) rfl (Nat.le_refl _) rfl ho ?_
      refine EndN.toRow 0 rfl ?_
      refine EndN.atS ?_ rfl rfl
      conv => whnf
      repeat' ((first | (refine gV ?_; first | refine vE ?_ | refine vI ?_ | (refine WkN.norm ?_ ?_; (focus (simp [AV.norm, AV.norm1, Tm.vss, addVs]; done)))) | exact True.intro) <;> conv => whnf)
    · rintro ⟨j, k1, J⟩ ⟨hj1, hj2, hJ⟩
      dsimp only at hj1 hj2 hJ ⊢
      by_cases hlt : j < a.use.length
      · obtain ⟨x, hxj⟩ : ∃ x, a.use[j]? = some x := ⟨_, List.getElem?_eq_getElem hlt⟩
        have hsp := Tm.vss_split hxj
        have htk := Tm.vss_take hxj
        have hle := congrArg List.length hsp
        simp only [List.length_append] at hle
        have hle2 := addVs_len (Tm.vss (a.use.take j)) ([])
        have hI := ih x (mem_use (List.mem_of_getElem? hxj)) (own ++ J) (addVs ([]) (Tm.vss (a.use.take j))) k1 (by rw [List.length_append]; exact boxesLt_app (boxesLt_le (Nat.le_add_right _ _) ho) hJ) hj2 (by rw [Tm.vs_2 hc] at hb; omega)
        rw [List.length_append, List.append_assoc] at hI
        conv => whnf
        repeat' ((first | (refine gC ?_; (refine gD ?_; refine cI ?_)) | (refine gL ?_; refine .map ?_) | (refine gI ?_; (refine gT ?_; refine iA ?_))) <;> conv => whnf)
        refine CallN.raw hI ?_
        rintro r bs' ⟨J2, k2, hk2, hJ2, rfl, rfl⟩
        conv => whnf
        repeat' ((refine gW ?_; refine wI ?_) <;> conv => whnf)
        refine ⟨(j + 1, k2, J ++ J2), ⟨⟨hlt, ?_, ?_⟩, by simp only; omega⟩, ?_⟩
        · dsimp only; rw [htk, addVs_app]; exact hk2
        · dsimp only
          rw [List.length_append, ← Nat.add_assoc]
          rw [List.length_append] at hJ2
          exact boxesLt_app (boxesLt_le (Nat.le_add_right _ _) hJ) hJ2
        · dsimp only
          rw [htk, addVs_app]
          refine EndN.atS ?_ (by simp) rfl
          conv => whnf
          repeat' ((first | (refine gV ?_; first | refine vE ?_ | refine vI ?_ | (refine WkN.norm ?_ ?_; (focus (simp [AV.norm, AV.norm1, Nat.add_assoc]; done)))) | exact True.intro) <;> conv => whnf)
      · obtain rfl : j = a.use.length := by omega
        rw [List.take_length] at hj2
        conv => whnf
        repeat' ((first | (refine gC ?_; (refine gD ?_; refine cJ ?_)) | (refine gL ?_; refine .map ?_)) <;> conv => whnf)
        rw [List.take_length, Tm.vs_2 hc]
        exact RetP.slot ⟨J, k1, hj2, hJ, rfl, rfl⟩
set_option maxRecDepth 100000 in
theorem varsOf_ok {l : List Tm} (hb : (Tm.vss l).length ≤ 100000) : Fun Tryz.prog 72 [slA Tm.av l] (slA intA (firsts (Tm.vss l))) := by
  refine Fun.assume rfl fun hg0 => ?_
  have hg := (good_sla (hg0 (slA Tm.av l) (by simp))).1
  refine Fun.of (opS_constraintref03_VarsOf (by simp) ?_) rfl rfl
  conv => whnf
  skip
  refine LoopP.by (fb := false) (fun st_ (q : Nat × Nat × List Box) => ⟨[(0, slA Tm.av l), (3, .bsl q.2.2.length (addVs [] (Tm.vss (l.take q.1))).length q.2.1), (4, .int .i64 q.1)], q.2.2 ++ [rowF (AV.int .i64) 1 q.2.1 (addVs [] (Tm.vss (l.take q.1)))], st_.lo⟩) (fun q => q.1 ≤ l.length ∧ (addVs [] (Tm.vss (l.take q.1))).length ≤ q.2.1 ∧ boxesLt q.2.2.length q.2.2 = true) (fun q => l.length - q.1) (0, 0, []) ⟨Nat.zero_le _, by simp [Tm.vss, addVs], rfl⟩ ?_ ?_
  · refine EndN.toRow 3 rfl ?_
    refine EndN.atS ?_ rfl rfl
    conv => whnf
    repeat' ((first | (refine gV ?_; first | refine vE ?_ | refine vI ?_ | (refine WkN.norm ?_ ?_; (focus (simp [AV.norm, AV.norm1, Tm.vss, addVs]; done)))) | exact True.intro) <;> conv => whnf)
  · rintro ⟨j, k1, J⟩ ⟨hj1, hj2, hJ⟩
    dsimp only at hj1 hj2 hJ ⊢
    by_cases hlt : j < l.length
    · obtain ⟨x, hxj⟩ : ∃ x, l[j]? = some x := ⟨_, List.getElem?_eq_getElem hlt⟩
      have hsp := Tm.vss_split hxj
      have htk := Tm.vss_take hxj
      have hle := congrArg List.length hsp
      simp only [List.length_append] at hle
      have hle2 := addVs_len (Tm.vss (l.take j)) []
      simp only [List.length_nil] at hle2
      conv => whnf
      repeat' ((first | (refine gC ?_; (refine gD ?_; refine cI ?_)) | (refine gL ?_; refine .map ?_) | (refine gI ?_; (refine gT ?_; refine iA ?_))) <;> conv => whnf)
      refine CallN.raw (rvars_of x J (addVs [] (Tm.vss (l.take j))) k1 hJ hj2 (by omega)) ?_
      rintro r bs' ⟨J2, k2, hk2, hJ2, rfl, rfl⟩
      conv => whnf
      repeat' ((refine gW ?_; refine wI ?_) <;> conv => whnf)
      refine ⟨(j + 1, k2, J ++ J2), ⟨⟨hlt, ?_, ?_⟩, by simp only; omega⟩, ?_⟩
      · dsimp only; rw [htk, addVs_app]; exact hk2
      · dsimp only
        rw [List.length_append]
        exact boxesLt_app (boxesLt_le (Nat.le_add_right _ _) hJ) hJ2
      · dsimp only
        rw [htk, addVs_app]
        refine EndN.atS ?_ (by simp) rfl
        conv => whnf
        repeat' ((first | (refine gV ?_; first | refine vE ?_ | refine vI ?_ | (refine WkN.norm ?_ ?_; (focus (simp [AV.norm, AV.norm1, ]; done)))) | exact True.intro) <;> conv => whnf)
    · obtain rfl : j = l.length := by omega
      rw [List.take_length] at hj2
      conv => whnf
      repeat' ((first | (refine gC ?_; (refine gD ?_; refine cJ ?_)) | (refine gL ?_; refine .map ?_)) <;> conv => whnf)
      refine RetP.froze (l := addVs [] (Tm.vss l)) plainI rfl (by simp [rowF]) (by rw [List.take_length]) ?_
      exact RetP.slot rfl
set_option maxRecDepth 100000 in
theorem refVars_ok {t : Tm} (hb : t.vs.length ≤ 100000) : Fun Tryz.prog 74 [t.avw] (slA intA (firsts t.vs)) := by
  refine Fun.of (opS_constraintref03_Vars (by simp) ?_) rfl rfl
  conv => whnf
  repeat' ((refine gB ?_; refine .last ?_) <;> conv => whnf)
  refine CallN.raw (rvars0_of t _ rfl (by omega)) ?_
  rintro r bs' ⟨J, k, hk, hJ, rfl, rfl⟩
  conv => whnf
  skip
  refine RetP.froze (l := addVs [] t.vs) plainI rfl (by simp [rowF, Nat.add_comm 1]) rfl ?_
  exact RetP.slot rfl
end Go.CK

