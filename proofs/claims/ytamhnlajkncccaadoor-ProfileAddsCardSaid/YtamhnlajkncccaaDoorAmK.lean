/-
  THE ABSTRACT MACHINE, 19: iterators that have boxes of their own, and loops over them. No function of the program is named here. By an AI agent.
-/
import Derived.Test.YtamhnlajkncccaaDoorAmJ
set_option linter.unusedSimpArgs false
set_option linter.unusedVariables false
namespace Go.AM
open Go.CK Go.RowKit

/-- Function gf with the values lb bound is an iterator: it hands on the values of xs, in their order, till it is told to stop. It may have boxes of its own (cs) behind the others while it does so. -/
def IterF (P : Program) (gf : FuncId) (lb : List AV) (xs : List (List AV)) : Prop :=
  ∀ (b : Nat) (bs : List Box) (J : List (List AV) → List Box → Prop) (Jx : List Box → Prop), b < bs.length → (∀ pre bs', J pre bs' → bs'.length = bs.length ∧ boxesLt bs.length bs' = true) → (∀ bs', Jx bs' → bs'.length = bs.length ∧ boxesLt bs.length bs' = true) →
    (∀ pre y rest bs' cs, pre ++ y :: rest = xs → J pre bs' → SemY P b y (bs' ++ cs) fun r bs2 => ∃ own, bs2 = own ++ cs ∧ ((r = .bool true ∧ J (pre ++ [y]) own) ∨ (r = .bool false ∧ Jx own))) → J [] bs →
    Sem P gf (.yl b :: lb) bs fun _ bs' => J xs bs' ∨ Jx bs'

theorem lt0_le {m n : Nat} (hmn : m ≤ n) {x : AV} (h : x.lt0 m = true) : x.lt0 n = true := by
  cases x <;> first | exact h | (simp only [AV.lt0, decide_eq_true_eq] at h ⊢; omega)
theorem lt1_le {m n : Nat} (hmn : m ≤ n) {x : AV} (h : x.lt1 m = true) : x.lt1 n = true := by
  cases x with
  | fn f xs ys =>
    simp only [AV.lt1, Bool.and_eq_true, List.all_eq_true] at h ⊢
    exact ⟨fun y hy => lt0_le hmn (h.1 y hy), fun y hy => lt0_le hmn (h.2 y hy)⟩
  | _ => simp only [AV.lt1] at h ⊢; exact lt0_le hmn h
theorem lt2_le {m n : Nat} (hmn : m ≤ n) {x : AV} (h : x.lt2 m = true) : x.lt2 n = true := by
  cases x with
  | agg cs => simp only [AV.lt2, List.all_eq_true] at h ⊢; exact fun y hy => lt1_le hmn (h y hy)
  | _ => simp only [AV.lt2] at h ⊢; exact lt1_le hmn h
theorem lt_le {m n : Nat} (hmn : m ≤ n) {x : AV} (h : x.lt m = true) : x.lt n = true := by
  cases x with
  | agg cs => simp only [AV.lt, List.all_eq_true] at h ⊢; exact fun y hy => lt1_le hmn (h y hy)
  | tup cs => simp only [AV.lt, List.all_eq_true] at h ⊢; exact fun y hy => lt2_le hmn (h y hy)
  | ept cs => rfl
  | sl o l => rfl
  | _ => simp only [AV.lt] at h ⊢; exact lt1_le hmn h
theorem boxesLt_le {m n : Nat} (hmn : m ≤ n) : ∀ {bs : List Box}, boxesLt m bs = true → boxesLt n bs = true
  | [], _ => rfl
  | .cells cs :: r, h => by
    simp only [boxesLt, Bool.and_eq_true, List.all_eq_true] at h ⊢
    exact ⟨fun x hx => lt_le hmn (h.1 x hx), boxesLt_le hmn h.2⟩
  | .dead :: r, h => by simp only [boxesLt] at h ⊢; exact boxesLt_le hmn h
  | .loop x :: r, h => by simp only [boxesLt] at h ⊢; exact boxesLt_le hmn h
  | .mp x :: r, h => by simp only [boxesLt] at h ⊢; exact boxesLt_le hmn h
  | .row ds :: r, h => by
    simp only [boxesLt, Bool.and_eq_true, List.all_eq_true] at h ⊢
    exact ⟨fun x hx => lt_le hmn (h.1 x hx), boxesLt_le hmn h.2⟩
theorem boxesLt_app {n : Nat} : ∀ {bs cs : List Box}, boxesLt n bs = true → boxesLt n cs = true → boxesLt n (bs ++ cs) = true
  | [], _, _, h => h
  | .cells ds :: r, cs, h, k => by
    simp only [boxesLt, Bool.and_eq_true, List.cons_append] at h ⊢
    exact ⟨h.1, boxesLt_app h.2 k⟩
  | .dead :: r, cs, h, k => by simp only [boxesLt, List.cons_append] at h ⊢; exact boxesLt_app h k
  | .loop x :: r, cs, h, k => by simp only [boxesLt, List.cons_append] at h ⊢; exact boxesLt_app h k
  | .mp x :: r, cs, h, k => by simp only [boxesLt, List.cons_append] at h ⊢; exact boxesLt_app h k
  | .row ds :: r, cs, h, k => by
    simp only [boxesLt, Bool.and_eq_true, List.cons_append] at h ⊢
    exact ⟨h.1, boxesLt_app h.2 k⟩
theorem boxesLt_snoc {own : List Box} (h : boxesLt own.length own = true) (x : LB) : boxesLt (own.length + 1) (own ++ [.loop x]) = true := boxesLt_app (boxesLt_le (Nat.le_succ _) h) rfl

theorem IterF.use {P : Program} {gf : FuncId} {lb : List AV} {xs : List (List AV)} (hi : IterF P gf lb xs) (b : Nat) (bs : List Box) (J : List (List AV) → List Box → Prop) (Jx : List Box → Prop) (hb : b < bs.length)
    (hJ : ∀ pre bs', J pre bs' → bs'.length = bs.length ∧ boxesLt bs.length bs' = true) (hJx : ∀ bs', Jx bs' → bs'.length = bs.length ∧ boxesLt bs.length bs' = true) (hy : ∀ y ∈ xs, ∀ v ∈ y, v.lt bs.length = true)
    (hr : ∀ pre y rest bs, pre ++ y :: rest = xs → J pre bs → SemY P b y bs fun r bs' => (r = .bool true ∧ J (pre ++ [y]) bs') ∨ (r = .bool false ∧ Jx bs')) (h0 : J [] bs) :
    Sem P gf (.yl b :: lb) bs fun _ bs' => J xs bs' ∨ Jx bs' := by
  refine hi b bs J Jx hb hJ hJx (fun pre y rest bs' cs hxs hj => ?_) h0
  obtain ⟨hl, hlt⟩ := hJ pre bs' hj
  have := (hr pre y rest bs' hxs hj).frame (by rw [hl]; exact hlt) (fun v hv => by rw [hl]; exact hy y (by rw [← hxs]; simp) v hv) (fun r bs2 hq => by
    rcases hq with ⟨rfl, hq⟩ | ⟨rfl, hq⟩
    · obtain ⟨h1, h2⟩ := hJ _ _ hq
      exact ⟨rfl, by rw [hl, ← h1, List.take_length]; rw [h1]; exact h2⟩
    · obtain ⟨h1, h2⟩ := hJx _ hq
      exact ⟨rfl, by rw [hl, ← h1, List.take_length]; rw [h1]; exact h2⟩) cs
  intro E G a0 w args lo h1 h2 h3
  obtain ⟨f, tmps, assign, body, h4, h5⟩ := this E G a0 w args lo h1 h2 h3
  refine ⟨f, tmps, assign, body, h4, fun rd n => (h5 rd n).mono ?_⟩
  rintro e w' ⟨v, r, bs2, G', rfl, ⟨own, hq, rfl⟩, h6⟩
  refine ⟨v, r, _, G', rfl, ⟨own, ?_, ?_⟩, h6⟩
  · have : own.length = bs'.length := by
      rcases hq with ⟨_, hq⟩ | ⟨_, hq⟩
      · rw [hl]; exact (hJ _ _ hq).1
      · rw [hl]; exact (hJx _ hq).1
    rw [← this, List.take_length]
  · exact hq

theorem RangeN.byF {P : Program} {g : Opd} {ps : List Nat} {a b : RC} {s : St} {Q : AX → St → Prop} (s0 : St) {gf : FuncId} {lb : List AV} {xs : List (List AV)} (hw : EndN s s0) (hg : s0.ev g = .fn (.func gf) [] lb) (hbd : hasBody P gf = true) (hi : IterF P gf (lb.map AV.norm) xs) (hlen : ∀ y ∈ xs, y.length = ps.length)
    (I : List (List AV) → List Box → Prop) (Ix : AX → List Box → Prop) (hI2 : ∀ pre own, I pre own → boxesLt own.length own = true) (hIx2 : ∀ e own, Ix e own → boxesLt own.length own = true) (hy : ∀ y ∈ xs, y.all (fun v => v.lt 0) = true) (h0 : I [] s0.bs) (hI : ∀ pre own, I pre own → own.length = s0.bs.length) (hIx : ∀ e own, Ix e own → own.length = s0.bs.length)
    (round : ∀ x pre y rest own, pre ++ y :: rest = xs → I pre own → (⟨putAll (deownEnv s0.env) ps y, own ++ [.loop x], own.length + 1⟩ : St).fo true fun s1 => a.go P true s1 (asgN x s0.bs.length fun s2 => b.go P true s2 fun e s3 => RoundN s3 e fun e own => match e with | .normal => I (pre ++ [y]) own | e => Ix e own))
    (done : ∀ own, I xs own → (⟨s0.env, own ++ [.dead], s0.lo⟩ : St).fo true fun s' => Q .normal s') (stop : ∀ e own, Ix e own → (⟨s0.env, own ++ [.dead], s0.lo⟩ : St).fo true fun s' => Q e s') :
    RangeN P g ps (fun s Q => a.go P true s Q) (fun s Q => b.go P true s Q) s Q := by
  refine ⟨⟨s0, hw.out, ?_⟩⟩
  rw [hg]
  refine ⟨hbd, fun x hx => ?_⟩
  have hbl : ∀ own (y : LB), own.length = s0.bs.length → boxLoop (own ++ [.loop y]) s0.bs.length = some y := fun own y h => by rw [boxLoop_snoc, if_pos h.symm]
  have hS := hi.use s0.bs.length (s0.bs ++ [Box.loop x]) (fun pre bs => ∃ own, I pre own ∧ bs = own ++ [Box.loop x])
    (fun bs => ∃ e own, Ix e own ∧ ((e = .ret ∧ bs = own ++ [Box.loop (x.done .ret)]) ∨ ∃ id, e = .exit id ∧ bs = own ++ [Box.loop (x.done (.exit id))])) (by simp) ?_ ?_ (fun y hyx v hv => lt_le (Nat.zero_le _) (List.all_eq_true.1 (hy y hyx) v hv)) ?_ ⟨_, h0, rfl⟩
  refine ⟨_, hS, ?_⟩
  rotate_left 3
  · rintro pre y rest bs hxs ⟨own, hown, rfl⟩
    have hl := hI pre own hown
    refine hx y _ _ (hbl own x hl) (hlen y (by rw [← hxs]; simp)) ?_
    have hr := round x pre y rest own hxs hown
    rw [St.fo_eq, RC.go_eq] at hr
    unfold roundW
    simp only [RC.go_eq, List.length_append, List.length_cons, List.length_nil, Nat.zero_add]
    refine RC.wp_mono (fun e s1 h1 => ?_) hr
    cases e with
    | ret => exact h1
    | exit id => exact h1
    | normal =>
      obtain ⟨h2, h3⟩ := h1
      refine ⟨h2, ?_⟩
      rw [St.fo_eq, RC.go_eq] at h3
      refine RC.wp_mono (fun e s3 h4 => ?_) h3
      obtain ⟨s4, own', hw4, hb4, hJ⟩ := h4.out
      refine ⟨s4, hw4, ?_⟩
      cases e with
      | normal =>
        simp only [roundQ, hb4]
        exact .inl ⟨trivial, own', hJ, set_snoc (hI _ _ hJ) _ _⟩
      | ret =>
        simp only [roundQ, hb4]
        exact .inr ⟨trivial, .ret, own', hJ, .inl ⟨rfl, set_snoc (hIx _ _ hJ) _ _⟩⟩
      | exit id =>
        simp only [roundQ, hb4]
        exact .inr ⟨trivial, .exit id, own', hJ, .inr ⟨id, rfl, set_snoc (hIx _ _ hJ) _ _⟩⟩
  · rintro r bs' (⟨own, hown, rfl⟩ | ⟨e, own, hown, hb⟩)
    · have hl := hI _ own hown
      refine .inl ⟨hbl own x hl, ?_⟩
      rw [set_snoc hl]
      have := done own hown
      rwa [St.fo_eq] at this
    · have hl := hIx _ own hown
      have hs := stop e own hown
      rw [St.fo_eq] at hs
      rcases hb with ⟨rfl, rfl⟩ | ⟨id, rfl, rfl⟩
      · exact .inr (.inl ⟨hbl own _ hl, by rw [set_snoc hl]; exact hs⟩)
      · exact .inr (.inr ⟨id, hbl own _ hl, by rw [set_snoc hl]; exact hs⟩)
  · rintro pre bs' ⟨own, hown, rfl⟩
    have hl := hI pre own hown
    exact ⟨by simp [hl], by rw [List.length_append, List.length_singleton, ← hl]; exact boxesLt_snoc (hI2 pre own hown) x⟩
  · rintro bs' ⟨e, own, hown, hb⟩
    have hl := hIx e own hown
    rcases hb with ⟨_, rfl⟩ | ⟨id, _, rfl⟩
    · exact ⟨by simp [hl], by rw [List.length_append, List.length_singleton, ← hl]; exact boxesLt_snoc (hIx2 e own hown) _⟩
    · exact ⟨by simp [hl], by rw [List.length_append, List.length_singleton, ← hl]; exact boxesLt_snoc (hIx2 e own hown) _⟩
theorem EndN.eqS {s t : St} (h1 : s.env = t.env) (h2 : s.bs = t.bs) (h3 : s.lo = t.lo) : EndN s t := by
  obtain ⟨a, b, c⟩ := s
  obtain ⟨a', b', c'⟩ := t
  simp only at h1 h2 h3
  subst h1 h2 h3
  exact ⟨Weak.refl _⟩
end Go.AM
