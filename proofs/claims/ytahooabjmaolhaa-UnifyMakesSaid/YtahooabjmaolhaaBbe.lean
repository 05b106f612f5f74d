/-
  Texts of this claim joined (wip/gen/bundle.py), those declarations only that are needed: UlI UlJ UnX FunC Read RdUni. By an AI agent.
-/
import Derived.Test.YtahooabjmaolhaaBbd
import Derived.Test.YtahooabjmaolhaaBaq
import Derived.Test.YtahooabjmaolhaaRows
import Derived.Test.YtahooabjmaolhaaBaa
import Derived.ProofKit
import Derived.OpenShut
import Derived.ShutString
import Derived.ChangeOld
import Derived.JoinedCond
import Derived.Deep.Slices
import Derived.Lib.SmallJoins
set_option linter.unusedVariables false
set_option linter.unusedSimpArgs false
namespace Go.CK
open Go.AM
mutual
theorem lft_nodes : ∀ (t : Tm) (n d : Int), 0 ≤ lft t n d → lft t n d = n - t.nodes
  | .mk k m s l, n, d, h => by
    rw [lft] at h ⊢
    split at h
    · omega
    · rename_i hc
      rw [if_neg hc, lfts_nodes l _ _ h]
      simp only [Tm.nodes]; omega
theorem lfts_nodes : ∀ (l : List Tm) (n d : Int), 0 ≤ lfts l n d → lfts l n d = n - Tm.nodess l
  | [], n, d, h => by simp [lfts, Tm.nodess]
  | t :: r, n, d, h => by
    rw [lfts] at h ⊢
    split at h
    · omega
    · rename_i hc
      rw [if_neg hc, lfts_nodes r _ _ h, lft_nodes t n d (by omega)]
      simp only [Tm.nodess]; omega
end
theorem small_nodes {t : Tm} (h : t.small = true) : t.nodes ≤ 1000 := by
  unfold Tm.small at h
  have h := of_decide_eq_true h
  have := lft_nodes t 1000 100 h
  omega
/-- a substitution as a function -/
def subB (b : List Bnd) (v : Int) : Tm := match lookB b v with
  | some t => t
  | none => varT v
theorem appR_app (b : List Bnd) (t : Tm) : t.cv → appR b t = app (subB b) t := by
  induction t using Tm.ind_all with
  | h k n s l ih =>
  generalize ha : Tm.mk k n s l = t
  replace ih : ∀ x ∈ t.args, x.cv → appR b x = app (subB b) x := by subst ha; exact ih
  clear ha
  intro hc
  by_cases h1 : t.kind = 1
  · rw [appR_1 h1, app_1 h1, subB]
    cases hl : lookB b t.num with
    | some u => rfl
    | none => exact cv_var hc h1
  · by_cases h2 : t.kind = 2
    · rw [appR_2 h2, app_2 h2]
      congr 1
      exact List.map_congr_left fun x hx => ih x hx (cv_args hc hx)
    · rw [appR_3 h1 h2, app_3 h1 h2]
theorem lookB_mem : ∀ {b : List Bnd} {v : Int} {t : Tm}, lookB b v = some t → (⟨v, t⟩ : Bnd) ∈ b
  | x :: b, v, t, h => by
    rw [lookB] at h
    split at h
    · rename_i hv
      cases h
      subst hv
      exact List.mem_cons_self ..
    · exact List.mem_cons_of_mem _ (lookB_mem h)
theorem lookB_none : ∀ {b : List Bnd} {v : Int}, lookB b v = none → ∀ t, ¬ (⟨v, t⟩ : Bnd) ∈ b
  | [], v, _, t, h => by cases h
  | x :: b, v, h, t, hm => by
    rw [lookB] at h
    split at h
    · cases h
    · rename_i hv
      rcases List.mem_cons.1 hm with e | hm
      · rw [← e] at hv; exact hv rfl
      · exact lookB_none h t hm
/-- the answer's substitution is the unifier -/
theorem subB_bound {M : Int → Tm} {out : List Bnd} (h : Bound M out) (v : Int) : subB out v = M v := by
  unfold subB
  cases hl : lookB out v with
  | some t => exact ((h.mem v t).1 (lookB_mem hl)).1
  | none =>
    have := lookB_none hl (M v)
    rw [h.mem] at this
    exact (Decidable.byContradiction fun e => this ⟨rfl, fun e2 => e e2.symm⟩)
mutual
theorem app_id : ∀ (A : Int → Tm) (t : Tm), t.cv → app A t = t → ∀ v ∈ t.vs, A v = varT v
  | A, .mk k n s l, hc, h, v, hv => by
    rw [Tm.vs] at hv
    split at hv
    · rename_i h1
      rw [List.mem_singleton] at hv; subst hv
      have := cv_var hc h1
      rw [this, app_var] at h
      exact h
    · rename_i h1
      split at hv
      · rename_i h2
        rw [app, if_neg h1, if_pos h2] at h
        simp only [Tm.mk.injEq, true_and] at h
        exact apps_id A l hc.2 h v hv
      · cases hv
theorem apps_id : ∀ (A : Int → Tm) (l : List Tm), Tm.cvs l → apps A l = l → ∀ v ∈ Tm.vss l, A v = varT v
  | A, [], _, _, v, hv => by simp [Tm.vss] at hv
  | A, t :: r, hc, h, v, hv => by
    simp only [Tm.cvs] at hc
    simp only [apps, List.cons.injEq] at h
    simp only [Tm.vss] at hv
    rcases List.mem_append.1 hv with hv | hv
    · exact app_id A t hc.1 h.1 v hv
    · exact apps_id A r hc.2 h.2 v hv
end
theorem firsts_mem {l : List Int} {v : Int} : v ∈ firsts l ↔ v ∈ l := by
  unfold firsts
  rw [addVs_mem]; simp
theorem ascR_of : ∀ {b : List Bnd} {p : Option Int}, (∀ x ∈ b, prevOk p x.v = true) → (b.map (·.v)).Pairwise (· < ·) → (∀ x ∈ b, 0 ≤ x.v ∧ x.v ≤ 1048576 ∧ x.t.right = true) → ascR p b = true
  | [], p, _, _, _ => rfl
  | x :: l, p, hp, ha, hx => by
    rw [List.map_cons, List.pairwise_cons] at ha
    obtain ⟨h1, h2, h3⟩ := hx x (List.mem_cons_self ..)
    rw [ascR, decide_eq_true ⟨h1, h2⟩, hp x (List.mem_cons_self ..), h3, ascR_of (p := some x.v) (fun y hy => ?_) ha.2 fun y hy => hx y (List.mem_cons_of_mem _ hy)]
    · rfl
    · exact decide_eq_true (ha.1 y.v (List.mem_map_of_mem hy))
theorem right_of {t : Tm} (h : t.form = true) (hf : fits t) : t.right = true := by
  unfold Tm.right vB
  rw [h, Bool.true_and, decide_eq_true_eq]
  have := hf.1; have := hf.2
  omega
/-- the answer is a valid substitution -/
theorem right_out {S : (Int → Tm) → Prop} {M : Int → Tm} {out : List Bnd} (hm : Mgu S M) (hb : Bound M out) (hf : ∀ b ∈ out, fits b.t) (hr : Rng out) : rightB out = true := by
  unfold rightB
  rw [ascR_of (fun _ _ => rfl) hb.asc fun x hx => ⟨(hr x hx).1, (hr x hx).2.1, right_of (hr x hx).2.2 (hf x hx)⟩, Bool.true_and, List.all_eq_true]
  rintro ⟨v, t⟩ hx
  unfold freeB
  rw [List.all_eq_true]
  intro w hw
  rw [firsts_mem] at hw
  have ht := ((hb.mem v t).1 hx).1
  have hid : app M t = t := by
    have := hm.gen M hm.sol v
    rw [← ht] at this; exact this.symm
  have hMw := app_id M t (by rw [ht]; exact hm.cv v) hid w hw
  cases hl : lookB out w with
  | none => rfl
  | some u =>
    have := ((hb.mem w u).1 (lookB_mem hl)).2
    exact absurd hMw this
mutual
theorem vs_nodes : ∀ t : Tm, t.vs.length ≤ t.nodes
  | .mk k n s l => by
    have := vss_nodes l
    rw [Tm.vs, Tm.nodes]
    split
    · simp
    · split
      · omega
      · simp
theorem vss_nodes : ∀ l : List Tm, (Tm.vss l).length ≤ Tm.nodess l
  | [] => by simp [Tm.vss]
  | t :: r => by
    have := vs_nodes t
    have := vss_nodes r
    simp only [Tm.vss, Tm.nodess, List.length_append]; omega
end
end Go.CK

set_option linter.unusedVariables false
set_option linter.unusedSimpArgs false
namespace Go.CK
open Go.AM
/-- what the code's answer is -/
def Said (a b : List Tm) (out : List Bnd) (e : Int) : Prop := (if (a.all Tm.right && b.all Tm.right) = true then (if a.length = b.length then Ans (Eqs (a.zip b)) out e else out = [] ∧ e = 9) else out = [] ∧ e = 2) ∧ Rng out
theorem said_ex {a b : List Tm} (hN : Tm.nodess a + Tm.nodess b ≤ 100000) : ∃ out e, allF fN fF a b = some (out, e) ∧ Said a b out e := allF_law hN
mutual
theorem form_nodes : ∀ t : Tm, t.form = true → t.nodes ≤ t.sz
  | .mk k n s l, h => by
    have hl := forms_nodes l (form_args h)
    rw [Tm.nodes, Tm.sz]
    split
    · omega
    · rename_i h2
      have : l = [] := by
        by_cases h0 : k = 0
        · rw [form_0 (t := .mk k n s l) h0, decide_eq_true_eq] at h
          exact List.eq_nil_of_length_eq_zero h.2.2.2
        · by_cases h1 : k = 1
          · rw [form_1 (t := .mk k n s l) h1, decide_eq_true_eq] at h
            exact List.eq_nil_of_length_eq_zero h.2.2.2
          · rw [form_3 (t := .mk k n s l) h0 h1 h2] at h; cases h
      subst this
      simp only [Tm.nodess]; omega
theorem forms_nodes : ∀ l : List Tm, Tm.forms l = true → Tm.nodess l ≤ Tm.szs l
  | [], _ => Nat.le_refl _
  | t :: r, h => by
    simp only [Tm.forms, Bool.and_eq_true] at h
    have := form_nodes t h.1
    have := forms_nodes r h.2
    simp only [Tm.nodess, Tm.szs]; omega
end
theorem ans_nodes {S : (Int → Tm) → Prop} {out : List Bnd} {e : Int} (h : Ans S out e) (hr : Rng out) : ∀ x ∈ out, x.t.nodes ≤ 200 := by
  intro x hx
  rcases h with ⟨_, rfl, _⟩ | ⟨M, hM, ⟨_, hf, _⟩ | ⟨_, rfl, _⟩⟩
  · cases hx
  · have := form_nodes x.t (hr x hx).2.2
    have := (hf x hx).1
    omega
  · cases hx
theorem said_nodes {a b : List Tm} {out : List Bnd} {e : Int} (h : Said a b out e) : ∀ x ∈ out, x.t.nodes ≤ 200 := by
  obtain ⟨h, hr⟩ := h
  split at h
  · split at h
    · exact ans_nodes h hr
    · rw [h.1]; intro x hx; cases hx
  · rw [h.1]; intro x hx; cases hx
theorem eqs_one {a b : Tm} {σ : Int → Tm} : Eqs [(a, b)] σ ↔ app σ a = app σ b := by
  unfold Eqs; simp
theorem said_yes {a b : Tm} {out : List Bnd} {e : Int} (h : Said [a] [b] out e) (ha : a.right = true) (hb : b.right = true) : Ans (Eqs [(a, b)]) out e := by
  have h := h.1
  rw [if_pos (by simp [ha, hb]), if_pos (show [a].length = [b].length from rfl)] at h
  exact h
theorem said_no {a b : Tm} {out : List Bnd} {e : Int} (h : Said [a] [b] out e) (ha : ¬ (a.right = true ∧ b.right = true)) : out = [] ∧ e = 2 := by
  have h := h.1
  rw [if_neg (by simpa using ha)] at h
  exact h
theorem makes_law {a b : Tm} {m n : List Bnd} {e d : Int} (h : Said [a] [b] m e) (h' : Said [b] [a] n d) : m = n ∧ e = d ∧ (¬ e = 0 → m = []) ∧ (e = 0 → rightB m = true ∧ (appR m a).cmp (appR m b) = 0) := by
  by_cases hr : a.right = true ∧ b.right = true
  · obtain ⟨ha, hb⟩ := hr
    have q := said_yes h ha hb
    have q' := said_yes h' hb ha
    have q' : Ans (Eqs [(a, b)]) n d := q'.congr fun σ => by rw [eqs_one, eqs_one]; exact eq_comm
    obtain ⟨e1, e2⟩ := q.one q'
    refine ⟨e1, e2, fun he => ?_, fun he => ?_⟩
    · rcases q with ⟨_, hm, _⟩ | ⟨M, hM, ⟨_, _, h0⟩ | ⟨_, hm, _⟩⟩
      · exact hm
      · exact absurd h0 he
      · exact hm
    · rcases q with ⟨_, _, h0⟩ | ⟨M, hM, ⟨hB, hf, _⟩ | ⟨_, _, h0⟩⟩
      · rw [h0] at he; exact absurd he (by decide)
      · refine ⟨right_out hM hB hf h.2, ?_⟩
        have hsub : subB m = M := funext fun v => subB_bound hB v
        rw [appR_app m a (form_cv a (right_form ha)), appR_app m b (form_cv b (right_form hb)), hsub, eqs_one.1 hM.sol]
        exact Tm.cmp_refl _
      · rw [h0] at he; exact absurd he (by decide)
  · obtain ⟨rfl, rfl⟩ := said_no h hr
    obtain ⟨rfl, rfl⟩ := said_no h' (fun e => hr ⟨e.2, e.1⟩)
    exact ⟨rfl, rfl, fun _ => rfl, fun he => absurd he (by decide)⟩
end Go.CK

set_option linter.unusedSimpArgs false
set_option linter.unusedVariables false
namespace Go.CK
open Go.AM Go.Proofs
set_option maxHeartbeats 1000000 in
set_option maxRecDepth 100000 in
theorem UnifyMakes_ok (a b : Tm) : Fun Try.prog 5 [a.avw, b.avw] (.bool true) := by
  have sa := Small_ok a
  have sb := Small_ok b
  cases ha : a.small with
  | false =>
    rw [ha] at sa
    refine Fun.of (op_constraintlaw07_UnifyMakes (by simp) ?_) rfl rfl
    conv => whnf
    conv => whnf
    repeat' ((first | (refine gF ?_; first | refine CallN.fn (sa) ?_ | refine CallN.fn (awake_ok) ?_) | (refine gC ?_; first | refine cY ?_ | refine cN ?_ | refine .not ?_) | refine RetP.nrm ?_) <;> conv => whnf)
  | true =>
  rw [ha] at sa
  cases hb : b.small with
  | false =>
    rw [hb] at sb
    refine Fun.of (op_constraintlaw07_UnifyMakes (by simp) ?_) rfl rfl
    conv => whnf
    conv => whnf
    repeat' ((first | (refine gF ?_; first | refine CallN.fn (sa) ?_ | refine CallN.fn (sb) ?_ | refine CallN.fn (awake_ok) ?_) | (refine gC ?_; first | refine cY ?_ | refine cN ?_ | refine .not ?_) | refine RetP.nrm ?_) <;> conv => whnf)
  | true =>
  rw [hb] at sb
  have na := small_nodes ha
  have nb := small_nodes hb
  obtain ⟨m, e, u1, s1⟩ := said_ex (a := [a]) (b := [b]) (by simp only [Tm.nodess]; omega)
  obtain ⟨n, d, u2, s2⟩ := said_ex (a := [b]) (b := [a]) (by simp only [Tm.nodess]; omega)
  have hU1 := Unify_ok u1 (by omega)
  have hU2 := Unify_ok u2 (by omega)
  obtain ⟨rfl, rfl, h1, h2⟩ := makes_law s1 s2
  have hsm := same6_ok m m
  rw [sameB_refl] at hsm
  have hmn : ∀ x ∈ m, x.t.nodes ≤ 1000000 ∧ x.t.vs.length ≤ 100000 := fun x hx => by
    have := said_nodes s1 x hx
    have := vs_nodes x.t
    omega
  have hr := right6_ok m hmn
  have pa := apply6_ok m a (by omega)
  have pb := apply6_ok m b (by omega)
  have hsame := same3_ok (appR m a) (appR m b)
  by_cases he : e = 0
  · obtain ⟨r1, r2⟩ := h2 he
    rw [r1] at hr
    rw [r2] at hsame
    rw [decide_eq_true rfl] at hsame
    obtain rfl := he
    refine Fun.of (op_constraintlaw07_UnifyMakes (by simp) ?_) rfl rfl
    conv => whnf
    conv => whnf
    repeat' ((first | (refine gF ?_; first | refine CallN.fn (sa) ?_ | refine CallN.fn (sb) ?_ | refine CallN.fn (hU1) ?_ | refine CallN.fn (hU2) ?_ | refine CallN.fn (hsm) ?_) | (refine gG ?_; first | refine CallP.fn (hr) ?_ | refine CallP.fn (pa) ?_ | refine CallP.fn (pb) ?_ | refine CallP.fn (hsame) ?_ | refine CallP.fn (awake_ok) ?_) | (refine gC ?_; first | refine cY ?_ | refine .not ?_ | (refine gD ?_; refine cI ?_)) | refine RetP.nrm ?_) <;> conv => whnf)
  · obtain rfl := h1 he
    refine Fun.of (op_constraintlaw07_UnifyMakes (by simp) ?_) rfl rfl
    conv => whnf
    conv => whnf
    repeat' ((first | (refine gF ?_; first | refine CallN.fn (sa) ?_ | refine CallN.fn (sb) ?_ | refine CallN.fn (hU1) ?_ | refine CallN.fn (hU2) ?_ | refine CallN.fn (hsm) ?_ | refine CallN.fn (awake_ok) ?_) | (refine gC ?_; first | refine cY ?_ | refine .not ?_ | (refine gD ?_; first | refine cI ?_ | refine cJ ?_ | refine cId ?_)) | (refine gL ?_; refine .map ?_) | refine RetP.nrm ?_) <;> conv => whnf)
theorem unifyMakes_law {a b : Tm} : Fun Try.prog 5 [a.av, b.av] (.bool true) := by
  rw [Tm.av_w, Tm.av_w]; exact UnifyMakes_ok a b
end Go.CK

namespace Go.CK
open Go.RowKit Go.AM

def AllFV (M : Hp) : List AV → List Value → Prop
  | [], [] => True
  | x :: xs, v :: vs => FV M x v ∧ AllFV M xs vs
  | _, _ => False
theorem AllFV.len {M : Hp} : ∀ {xs : List AV} {vs : List Value}, AllFV M xs vs → vs.length = xs.length
  | [], [], _ => rfl
  | _ :: xs, _ :: vs, h => by simp [AllFV.len h.2]
  | [], _ :: _, h => h.elim
  | _ :: _, [], h => h.elim
theorem AllFV.get {M : Hp} : ∀ {xs : List AV} {vs : List Value}, AllFV M xs vs → ∀ j (h : j < xs.length) v, vs[j]? = some v → FV M xs[j] v
  | [], [], _, j, h, _, _ => by cases h
  | _ :: xs, _ :: vs, h, 0, _, v, hv => by
    simp only [List.getElem?_cons_zero, Option.some.injEq] at hv
    subst hv; exact h.1
  | _ :: xs, _ :: vs, h, j + 1, hj, v, hv => AllFV.get h.2 j (by simpa using hj) v (by simpa using hv)
  | [], _ :: _, h, _, _, _, _ => h.elim
  | _ :: _, [], h, _, _, _, _ => h.elim
theorem Fun.calls {P : Program} {f : FuncId} {vals : List AV} {b : Bool} (h : Fun P f vals (.bool b)) {w : World} {args : List Value} (ha : AllFV (Hp.of w) vals args) :
    Calls P f args.toArray w fun e w' => e = .returned (.bool b) ∧ Ext w w' := by
  refine (((h []).mono (Q' := fun r _ => r = .bool b) fun r bs hq => hq.1).calls (Hp.le_refl _) ha.len ha.get).mono ?_
  rintro e w' ⟨v, r, bs', M', σ, n, rfl, rfl, hv, hx, _⟩
  exact ⟨by rw [hv.inv_bool], hx⟩
end Go.CK

namespace Go.CK
open Go.RowKit Go.Proofs Go.ChangeShapes Go.WideShapes Go.ChangeAt
open Go.Proofs.Ytahooabjmaolhaa.Rows (uptoBulk uptoBulkAll uptoSmall)

theorem bulk_one {H : Type} (d : DataW H) : 1 ≤ uptoBulk d := by
  cases d with
  | lit l => cases l <;> simp [uptoBulk]
  | nil => simp [uptoBulk]
  | ptr d => simp [uptoBulk]
  | slice elems spare => simp [uptoBulk]
  | agg parts => simp [uptoBulk]
  | iface t d => simp [uptoBulk]
  | map entries => simp [uptoBulk]
  | held h => simp [uptoBulk]

theorem bulk_part {H : Type} {d : DataW H} {l : List (DataW H)} (h : d ∈ l) : uptoBulk d ≤ uptoBulkAll l := by
  induction l with
  | nil => cases h
  | cons x r ih =>
    simp only [uptoBulkAll]
    cases List.mem_cons.1 h with
    | inl e => subst e; omega
    | inr e => have := ih e; omega

theorem bulk_len {H : Type} (l : List (DataW H)) : l.length ≤ uptoBulkAll l := by
  induction l with
  | nil => simp [uptoBulkAll]
  | cons x r ih => have := bulk_one x; simp only [uptoBulkAll, List.length_cons]; omega

theorem bulk_bound {H : Type} {l : List (DataW H)} (hk : uptoSmall H l = true) : uptoBulkAll l ≤ 1048576 := of_decide_eq_true hk

section
variable {H : Type} {enc : TypeId × Value → H} {P : Program} {W : World} {spare : Nat → Bool} {held : Bool}

/-- a slice that came in reads as a list -/
theorem sl_of {α : Type} {T e : TypeId} {sz N : Nat} (hu : P.underlying T = some (.slice e)) (hsz : P.cellsOf e = sz) (hp : 0 < sz) (R : List Value → α → Prop) (hN : 0 ≤ N)
    (ih : ∀ (cs : List Value) (d : DataW H) (ps : List MemPlace) (fuel : Nat), DataW.trod enc P W 0 spare held fuel e cs = some (d, ps) → uptoBulk d < N → ∃ x, R cs x)
    {fuel : Nat} {cs : List Value} {d : DataW H} {ps : List MemPlace} (h : DataW.trod enc P W 0 spare held fuel T cs = some (d, ps)) (hb : uptoBulk d ≤ N) :
    ∃ (a : Option Addr) (l : List α) (cap : Nat), cs = [.slice a l.length cap] ∧ l.length ≤ cap ∧ Sl (Hp.of W) sz R a l ∧ l.length ≤ N := by
  subst hsz
  rcases Deep.open_slice hu h with ⟨rfl, _⟩ | ⟨a, len, cap, m, n, D, Pl, rfl, _, hlc, hcm, hm, hx, hel⟩
  · exact ⟨none, [], 0, rfl, by simp, Sl.nil, by simp⟩
  · simp only [Prod.mk.injEq] at hx
    obtain ⟨rfl, _⟩ := hx
    have hlm : len ≤ m := by rw [hm]; split <;> omega
    simp only [uptoBulk] at hb
    have hlen := bulk_len ((List.range len).map D)
    rw [List.length_map, List.length_range] at hlen
    have hD : ∀ i, i < len → ∃ x cs', W.cells? 0 (a.add (i * P.cellsOf e)) (P.cellsOf e) = some cs' ∧ R cs' x := fun i hi => by
      obtain ⟨cs', h1, h2⟩ := hel i (by omega)
      have hbi : uptoBulk (D i) ≤ uptoBulkAll ((List.range len).map D) := bulk_part (List.mem_map.2 ⟨i, by simpa using hi, rfl⟩)
      obtain ⟨x, hx⟩ := ih cs' (D i) (Pl i) n h2 (by omega)
      exact ⟨x, cs', h1, hx⟩
    refine ⟨some a, List.ofFn (fun i : Fin len => (hD i.1 i.2).choose), cap, by simp, by simpa using hlc, ⟨by simp only [List.length_ofFn];unfold maxLen at hcm;unfold lim;omega, fun i hi => ?_⟩, by simp; omega⟩
    rw [List.length_ofFn] at hi
    have hspot : a.spot = none := by
      obtain ⟨cs', h1, _⟩ := hel 0 (by omega)
      obtain ⟨_, h2, h3⟩ := World.cells?_some h1
      have h4 := h3 0 hp
      rw [List.getElem?_eq_getElem (by omega)] at h4
      simp only [Nat.zero_mul] at h4
      have h5 : (a.add 0).add 0 = a := by simp [Addr.add]
      rw [h5] at h4
      cases hs : a.spot with
      | none => rfl
      | some k =>
        simp only [World.cell?, hs] at h4
        split at h4 <;> simp at h4
    obtain ⟨cs', h1, h2⟩ := (hD i hi).choose_spec
    obtain ⟨_, h3, h4⟩ := World.cells?_some h1
    have ha : a = ⟨a.block, a.off, none⟩ := by cases a; simp only at hspot; subst hspot; rfl
    refine ⟨a.block, a.off, cs', by rw [← ha], h3, fun j x hj => ?_, by simpa using h2⟩
    have hj2 : j < P.cellsOf e := by rw [← h3]; exact (List.getElem?_eq_some_iff.1 hj).1
    have h5 := h4 j hj2
    rw [Deep.add_add] at h5
    have h6 : a.add (i * P.cellsOf e + j) = ⟨a.block, a.off + i * P.cellsOf e + j, none⟩ := by
      unfold Addr.add
      split
      · rename_i h0
        rw [ha]; simp; omega
      · simp
    rw [h6, hj] at h5
    exact h5
end

theorem cellsInt : Try.prog.cellsOf 3 = 1 := by kernel_rfl
theorem cellsStr : Try.prog.cellsOf 9 = 1 := by kernel_rfl
theorem cellsTms : Try.prog.cellsOf 22 = 1 := by kernel_rfl
theorem cellsTm : Try.prog.cellsOf 24 = 4 := by kernel_rfl

section
variable {H : Type} {enc : TypeId × Value → H} {W : World} {spare : Nat → Bool} {held : Bool}

theorem int_of {fuel : Nat} {cs : List Value} {d : DataW H} {ps : List MemPlace} (h : DataW.trod enc Try.prog W 0 spare held fuel 3 cs = some (d, ps)) : ∃ n, cs = [.int .i64 n] ∧ IntOk n := by
  obtain ⟨n, h1, _, h3⟩ := DataW.trod_int Try.underlying3 h
  exact ⟨n, h1, IntOk.of_wf h3⟩

theorem str_of {N fuel : Nat} {cs : List Value} {d : DataW H} {ps : List MemPlace} (h : DataW.trod enc Try.prog W 0 spare held fuel 9 cs = some (d, ps)) (hb : uptoBulk d ≤ N) : ∃ s : ByteArray, cs = [.string s] ∧ s.size ≤ lim := by
 obtain⟨s,h1,_,h3⟩:=DataW.trod_string Try.underlying9 h;exact ⟨s,h1,by unfold maxLen at h3;unfold lim;omega⟩

set_option maxRecDepth 100000 in
/-- a term that came in -/
theorem tm_of : ∀ (N : Nat), 0 ≤ N → ∀ (cs : List Value) (d : DataW H) (ps : List MemPlace) (fuel : Nat), DataW.trod enc Try.prog W 0 spare held fuel 24 cs = some (d, ps) → uptoBulk d ≤ N → ∃ t, RTm (Hp.of W) cs t := by
  intro N
  induction N using Nat.strongRecOn with
  | _ N ih =>
  intro hN cs d ps fuel h hb
  obtain ⟨y0, y1, y2, y3, n, hx, hl, h0, h1, h2, h3⟩ := Joins.trod_struct4 Try.underlying24 h
  simp only [Prod.mk.injEq] at hx
  obtain ⟨rfl, _⟩ := hx
  rw [cellsTm] at hl
  match cs, hl with
  | [c0, c1, c2, c3], _ =>
    simp only [cellsInt, cellsStr, cellsTms, List.drop_zero, List.drop_succ_cons, List.take_succ_cons, List.take_zero] at h0 h1 h2 h3
    simp only [uptoBulk, uptoBulkAll] at hb
    have := bulk_one y3.1
    obtain ⟨k, e0, ik⟩ := int_of h0
    obtain ⟨m, e1, im⟩ := int_of h1
    obtain ⟨s, e2, is⟩ := str_of (N := N) h2 (by omega)
    obtain ⟨a, l, cap, e3, hlc, hsl, _⟩ := sl_of (N := N - 1) Try.underlying22 cellsTm (by omega) (RTm (Hp.of W)) (by omega) (fun cs d ps fuel h hb => ih (N - 1) (by omega) (by omega) cs d ps fuel h (by omega)) h3 (by omega)
    simp only [List.cons.injEq, and_true] at e0 e1 e2 e3
    subst e0; subst e1; subst e2; subst e3
    exact ⟨.mk k m s l, RTm.intro ik im is hlc hsl⟩
end
end Go.CK

namespace Go.CK
open Go.RowKit Go.Proofs Go.ChangeShapes Go.WideShapes Go.ChangeAt
open Go.Proofs.Ytahooabjmaolhaa.Rows (uptoBulk uptoBulkAll uptoSmall)
section
variable {H : Type} {enc : TypeId × Value → H} {W : World} {spare : Nat → Bool} {held : Bool}
end
end Go.CK

