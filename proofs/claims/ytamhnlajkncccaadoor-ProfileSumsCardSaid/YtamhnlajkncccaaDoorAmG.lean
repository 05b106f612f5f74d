/-
  THE ABSTRACT MACHINE, 16: iterators, and loops over them. No function of the program is named here. By an AI agent.
-/
import Derived.Test.YtamhnlajkncccaaDoorAmF
set_option linter.unusedSimpArgs false
set_option linter.unusedVariables false
namespace Go.AM
open Go.CK Go.RowKit

/-- Function gf with the values lb bound is an iterator: it hands on the values of xs, in their order, till it is told to stop. -/
def Iter (P : Program) (gf : FuncId) (lb : List AV) (xs : List (List AV)) : Prop :=
  ∀ (b : Nat) (bs : List Box) (J : List (List AV) → List Box → Prop) (Jx : List Box → Prop),
    (∀ pre y rest bs, pre ++ y :: rest = xs → J pre bs → SemY P b y bs fun r bs' => (r = .bool true ∧ J (pre ++ [y]) bs') ∨ (r = .bool false ∧ Jx bs')) → J [] bs →
    Sem P gf (.yl b :: lb) bs fun _ bs' => J xs bs' ∨ Jx bs'

/-- a round's end -/
structure RoundN (s : St) (e : AX) (J : AX → List Box → Prop) : Prop where
  out : ∃ s3 own, Weak s s3 ∧ s3.bs = own ++ [.dead] ∧ J e own
theorem RoundN.by {s : St} {e : AX} {J : AX → List Box → Prop} (own : List Box) (lo : Nat) (h : EndN s ⟨[], own ++ [.dead], lo⟩) (hJ : J e own) : RoundN s e J := ⟨_, own, h.out, rfl, hJ⟩
/-- behind the round's assignments -/
def asgN (x : LB) (n : Nat) (K : St → Prop) : AX → St → Prop
  | .normal, s => boxLoop s.bs n = some x ∧ (⟨s.env, s.bs.set n .dead, s.lo⟩ : St).fo true K
  | _, _ => False

theorem EndN.drop {s t : St} (h : EndN ⟨[], s.bs, s.lo⟩ t) : EndN s t := ⟨by
  refine (Weak.keep s []).trans ?_
  have : ∀ e : List (Nat × AV), envKeep (fun k => mem k []) e = [] := fun e => by
    induction e with
    | nil => rfl
    | cons p e ih => obtain ⟨k, v⟩ := p; simpa [envKeep, mem] using ih
  have he : s.keep [] = ⟨[], s.bs, s.lo⟩ := by simp only [St.keep, this]
  rw [he]; exact h.out⟩
theorem EndN.claimB {s t : St} (b off z : Nat) {l : List AV} (h0 : s.at (.bx b off) = some (.sl .full l)) (hz : ∀ y ∈ l, y.cells.length = z) (h : EndN (s.upd (.bx b off) (.sl (.own z) l)) t) : EndN s t :=
  ⟨Weak.trans (fun _ G _ _ hs => ⟨G, hs.claim h0 hz⟩) h.out⟩

theorem set_snoc {own : List Box} {n : Nat} (h : own.length = n) (x y : Box) : (own ++ [x]).set n y = own ++ [y] := by
  subst h; simp

theorem RangeN.by {P : Program} {g : Opd} {ps : List Nat} {a b : RC} {s : St} {Q : AX → St → Prop} (s0 : St) {gf : FuncId} {lb : List AV} {xs : List (List AV)} (hw : EndN s s0) (hg : s0.ev g = .fn (.func gf) [] lb) (hbd : hasBody P gf = true) (hi : Iter P gf (lb.map AV.norm) xs) (hlen : ∀ y ∈ xs, y.length = ps.length)
    (I : List (List AV) → List Box → Prop) (Ix : AX → List Box → Prop) (h0 : I [] s0.bs) (hI : ∀ pre own, I pre own → own.length = s0.bs.length) (hIx : ∀ e own, Ix e own → own.length = s0.bs.length)
    (round : ∀ x pre y rest own, pre ++ y :: rest = xs → I pre own → (⟨putAll (deownEnv s0.env) ps y, own ++ [.loop x], own.length + 1⟩ : St).fo true fun s1 => a.go P true s1 (asgN x s0.bs.length fun s2 => b.go P true s2 fun e s3 => RoundN s3 e fun e own => match e with | .normal => I (pre ++ [y]) own | e => Ix e own))
    (done : ∀ own, I xs own → (⟨s0.env, own ++ [.dead], s0.lo⟩ : St).fo true fun s' => Q .normal s') (stop : ∀ e own, Ix e own → (⟨s0.env, own ++ [.dead], s0.lo⟩ : St).fo true fun s' => Q e s') :
    RangeN P g ps (fun s Q => a.go P true s Q) (fun s Q => b.go P true s Q) s Q := by
  refine ⟨⟨s0, hw.out, ?_⟩⟩
  rw [hg]
  refine ⟨hbd, fun x hx => ?_⟩
  have hbl : ∀ own (y : LB), own.length = s0.bs.length → boxLoop (own ++ [.loop y]) s0.bs.length = some y := fun own y h => by rw [boxLoop_snoc, if_pos h.symm]
  have hS := hi s0.bs.length (s0.bs ++ [Box.loop x]) (fun pre bs => ∃ own, I pre own ∧ bs = own ++ [Box.loop x])
    (fun bs => ∃ e own, Ix e own ∧ ((e = .ret ∧ bs = own ++ [Box.loop (x.done .ret)]) ∨ ∃ id, e = .exit id ∧ bs = own ++ [Box.loop (x.done (.exit id))])) ?_ ⟨_, h0, rfl⟩
  refine ⟨_, hS, ?_⟩
  rotate_left
  · rintro pre y rest bs hxs ⟨own, hown, rfl⟩
    have hl := hI pre own hown
    refine hx y _ _ (hbl own x hl) (hlen y (by rw [← hxs]; simp)) ?_
    have hr := round x pre y rest own hxs hown
    rw [St.fo_eq, RC.go_eq] at hr
    unfold roundW
    simp only [RC.go_eq, List.length_append, List.length_cons, List.length_nil, Nat.zero_add]
    refine RC.wp_mono (fun e s1 h1 => ?_) hr
    cases e with
    | ret => exact h1
    | exit id => exact h1
    | normal =>
      obtain ⟨h2, h3⟩ := h1
      refine ⟨h2, ?_⟩
      rw [St.fo_eq, RC.go_eq] at h3
      refine RC.wp_mono (fun e s3 h4 => ?_) h3
      obtain ⟨s4, own', hw4, hb4, hJ⟩ := h4.out
      refine ⟨s4, hw4, ?_⟩
      cases e with
      | normal =>
        simp only [roundQ, hb4]
        exact .inl ⟨trivial, own', hJ, set_snoc (hI _ _ hJ) _ _⟩
      | ret =>
        simp only [roundQ, hb4]
        exact .inr ⟨trivial, .ret, own', hJ, .inl ⟨rfl, set_snoc (hIx _ _ hJ) _ _⟩⟩
      | exit id =>
        simp only [roundQ, hb4]
        exact .inr ⟨trivial, .exit id, own', hJ, .inr ⟨id, rfl, set_snoc (hIx _ _ hJ) _ _⟩⟩
  · rintro r bs' (⟨own, hown, rfl⟩ | ⟨e, own, hown, hb⟩)
    · have hl := hI _ own hown
      refine .inl ⟨hbl own x hl, ?_⟩
      rw [set_snoc hl]
      have := done own hown
      rwa [St.fo_eq] at this
    · have hl := hIx _ own hown
      have hs := stop e own hown
      rw [St.fo_eq] at hs
      rcases hb with ⟨rfl, rfl⟩ | ⟨id, rfl, rfl⟩
      · exact .inr (.inl ⟨hbl own _ hl, by rw [set_snoc hl]; exact hs⟩)
      · exact .inr (.inr ⟨id, hbl own _ hl, by rw [set_snoc hl]; exact hs⟩)
end Go.AM
