/-
  Texts of this claim joined (wip/gen/bundle.py), those declarations only that are needed: UlI UlJ UnX FunC Read RdUni. By an AI agent.
-/
import Derived.Test.YtahooabjmaolhaaBbd
import Derived.Test.YtahooabjmaolhaaBaq
import Derived.Test.YtahooabjmaolhaaRows
import Derived.Test.YtahooabjmaolhaaBaa
import Derived.ProofKit
import Derived.OpenShut
import Derived.ShutString
import Derived.ChangeOld
import Derived.JoinedCond
import Derived.Deep.Slices
import Derived.Lib.SmallJoins
set_option linter.unusedSimpArgs false
set_option linter.unusedVariables false
namespace Go.CK
open Go.AM
mutual
theorem lft_nodes : ∀ (t : Tm) (n d : Int), 0 ≤ lft t n d → lft t n d = n - t.nodes
  | .mk k m s l, n, d, h => by
    rw [lft] at h ⊢
    split at h
    · omega
    · rename_i hc
      rw [if_neg hc, lfts_nodes l _ _ h]
      simp only [Tm.nodes]; omega
theorem lfts_nodes : ∀ (l : List Tm) (n d : Int), 0 ≤ lfts l n d → lfts l n d = n - Tm.nodess l
  | [], n, d, h => by simp [lfts, Tm.nodess]
  | t :: r, n, d, h => by
    rw [lfts] at h ⊢
    split at h
    · omega
    · rename_i hc
      rw [if_neg hc, lfts_nodes r _ _ h, lft_nodes t n d (by omega)]
      simp only [Tm.nodess]; omega
end
theorem small_nodes {t : Tm} (h : t.small = true) : t.nodes ≤ 1000 := by
  unfold Tm.small at h
  have h := of_decide_eq_true h
  have := lft_nodes t 1000 100 h
  omega
/-- a substitution as a function -/
def subB (b : List Bnd) (v : Int) : Tm := match lookB b v with
  | some t => t
  | none => varT v
theorem appR_app (b : List Bnd) (t : Tm) : t.cv → appR b t = app (subB b) t := by
  induction t using Tm.ind_all with
  | h k n s l ih =>
  generalize ha : Tm.mk k n s l = t
  replace ih : ∀ x ∈ t.args, x.cv → appR b x = app (subB b) x := by subst ha; exact ih
  clear ha
  intro hc
  by_cases h1 : t.kind = 1
  · rw [appR_1 h1, app_1 h1, subB]
    cases hl : lookB b t.num with
    | some u => rfl
    | none => exact cv_var hc h1
  · by_cases h2 : t.kind = 2
    · rw [appR_2 h2, app_2 h2]
      congr 1
      exact List.map_congr_left fun x hx => ih x hx (cv_args hc hx)
    · rw [appR_3 h1 h2, app_3 h1 h2]
theorem lookB_mem : ∀ {b : List Bnd} {v : Int} {t : Tm}, lookB b v = some t → (⟨v, t⟩ : Bnd) ∈ b
  | x :: b, v, t, h => by
    rw [lookB] at h
    split at h
    · rename_i hv
      cases h
      subst hv
      exact List.mem_cons_self ..
    · exact List.mem_cons_of_mem _ (lookB_mem h)
mutual
theorem form_app {σ : Int → Tm} : ∀ (t : Tm), t.form = true → (∀ v ∈ t.vs, (σ v).form = true) → (app σ t).form = true
  | .mk k n s l, h, hv => by
    by_cases h1 : k = 1
    · subst h1
      rw [app, if_pos rfl]
      exact hv n (by rw [Tm.vs, if_pos rfl]; exact List.mem_singleton.2 rfl)
    · by_cases h2 : k = 2
      · subst h2
        rw [app, if_neg h1, if_pos rfl]
        have hf := forms_app l (form_args h) (fun v hm => hv v (by rw [Tm.vs, if_neg h1, if_pos rfl]; exact hm))
        have := form_fn (t := .mk 2 n s l) (l := apps σ l) rfl h (by rw [apps_map, List.length_map]; rfl) hf
        exact this
      · rw [app, if_neg h1, if_neg h2]; exact h
theorem forms_app {σ : Int → Tm} : ∀ (l : List Tm), Tm.forms l = true → (∀ v ∈ Tm.vss l, (σ v).form = true) → Tm.forms (apps σ l) = true
  | [], _, _ => rfl
  | t :: r, h, hv => by
    simp only [Tm.forms, Bool.and_eq_true] at h
    simp only [apps, Tm.forms, Bool.and_eq_true]
    exact ⟨form_app t h.1 fun v hm => hv v (by simp only [Tm.vss]; exact List.mem_append_left _ hm), forms_app r h.2 fun v hm => hv v (by simp only [Tm.vss]; exact List.mem_append_right _ hm)⟩
end
mutual
theorem vs_range : ∀ (t : Tm), t.form = true → ∀ v ∈ t.vs, 0 ≤ v ∧ v ≤ 1048576
  | .mk k n s l, h, v, hv => by
    rw [Tm.vs] at hv
    split at hv
    · rename_i h1
      rw [List.mem_singleton] at hv; subst hv
      have := form_var h h1
      exact ⟨this.1, this.2.1⟩
    · split at hv
      · exact vss_range l (form_args h) v hv
      · cases hv
theorem vss_range : ∀ (l : List Tm), Tm.forms l = true → ∀ v ∈ Tm.vss l, 0 ≤ v ∧ v ≤ 1048576
  | [], _, v, hv => by simp [Tm.vss] at hv
  | t :: r, h, v, hv => by
    simp only [Tm.forms, Bool.and_eq_true] at h
    simp only [Tm.vss] at hv
    rcases List.mem_append.1 hv with hv | hv
    · exact vs_range t h.1 v hv
    · exact vss_range r h.2 v hv
end
theorem varT_form {v : Int} (h : 0 ≤ v ∧ v ≤ 1048576) : (varT v).form = true := by
  rw [form_1 (t := varT v) rfl, decide_eq_true_eq]
  exact ⟨h.1, h.2, rfl, rfl⟩
theorem orI_zero {a b : Int} (h : orI a b = 0) : a = 0 ∧ b = 0 := by
  unfold orI at h
  split at h
  · exact ⟨by assumption, h⟩
  · contradiction
theorem cmps_eq : ∀ (l m : List Tm), (∀ x ∈ l, ∀ b : Tm, x.form = true → b.form = true → x.cmp b = 0 → x = b) → Tm.forms l = true → Tm.forms m = true → Tm.cmps l m = 0 → l = m
  | [], m, _, _, _, h => by
    rw [Tm.cmps, cmpI_z] at h
    exact (List.eq_nil_of_length_eq_zero (by omega)).symm
  | x :: l, [], _, _, _, h => by rw [Tm.cmps] at h; exact absurd h (by decide)
  | x :: l, y :: m, ih, hl, hm, h => by
    simp only [Tm.forms, Bool.and_eq_true] at hl hm
    rw [Tm.cmps] at h
    have h := orI_zero h
    rw [ih x (List.mem_cons_self ..) y hl.1 hm.1 h.1, cmps_eq l m (fun z hz => ih z (List.mem_cons_of_mem _ hz)) hl.2 hm.2 h.2]
theorem cmp_form (a : Tm) : ∀ b : Tm, a.form = true → b.form = true → a.cmp b = 0 → a = b := by
  induction a using Tm.ind_all with
  | h k n s l ih =>
  intro b ha hb h
  obtain ⟨k2, n2, s2, l2⟩ := b
  rw [Tm.cmp] at h
  have h := orI_zero h
  simp only [Tm.kind, Tm.num, Tm.name, Tm.args, cmpI_z] at h
  obtain ⟨hr, h⟩ := h
  by_cases h0 : k = 0
  · subst h0
    have hk : k2 = 0 := by unfold rankI at hr; repeat' split at hr <;> try omega
    subst hk
    rw [if_pos (by decide), cmpI_z] at h
    rw [form_0 rfl, decide_eq_true_eq] at ha hb
    simp only [Tm.kind, Tm.num, Tm.name, Tm.args, List.length_eq_zero_iff] at ha hb
    rw [h, ha.2.2.1, hb.2.2.1, ha.2.2.2, hb.2.2.2]
  · by_cases h1 : k = 1
    · subst h1
      have hk : k2 = 1 := by unfold rankI at hr; repeat' split at hr <;> try omega
      subst hk
      rw [if_pos (by decide), cmpI_z] at h
      rw [form_1 rfl, decide_eq_true_eq] at ha hb
      simp only [Tm.kind, Tm.num, Tm.name, Tm.args, List.length_eq_zero_iff] at ha hb
      rw [h, ha.2.2.1, hb.2.2.1, ha.2.2.2, hb.2.2.2]
    · by_cases h2 : k = 2
      · subst h2
        have hk : k2 = 2 := by unfold rankI at hr; repeat' split at hr <;> try omega
        subst hk
        rw [if_neg (by decide), if_pos (by decide)] at h
        have h3 := orI_zero h
        have h4 := orI_zero h3.2
        rw [form_2 rfl] at ha hb
        rw [Bool.and_eq_true, Bool.and_eq_true] at ha hb
        rw [cmpS_z] at h4
        have e1 : n = 0 := (of_decide_eq_true ha.1).1
        have e2 : n2 = 0 := (of_decide_eq_true hb.1).1
        rw [e1, e2, h4.1, cmps_eq l l2 (fun x hx b h1 h2 h3 => ih x hx b h1 h2 h3) ha.2.2 hb.2.2 h4.2]
      · rw [form_3 (t := .mk k n s l) h0 h1 h2] at ha; cases ha
mutual
theorem vs_nodes : ∀ t : Tm, t.vs.length ≤ t.nodes
  | .mk k n s l => by
    have := vss_nodes l
    rw [Tm.vs, Tm.nodes]
    split
    · simp
    · split
      · omega
      · simp
theorem vss_nodes : ∀ l : List Tm, (Tm.vss l).length ≤ Tm.nodess l
  | [] => by simp [Tm.vss]
  | t :: r => by
    have := vs_nodes t
    have := vss_nodes r
    simp only [Tm.vss, Tm.nodess, List.length_append]; omega
end
end Go.CK

namespace Go.CK
open Go.AM
/-- what the code's answer is -/
def Said (a b : List Tm) (out : List Bnd) (e : Int) : Prop := (if (a.all Tm.right && b.all Tm.right) = true then (if a.length = b.length then Ans (Eqs (a.zip b)) out e else out = [] ∧ e = 9) else out = [] ∧ e = 2) ∧ Rng out
theorem said_ex {a b : List Tm} (hN : Tm.nodess a + Tm.nodess b ≤ 100000) : ∃ out e, allF fN fF a b = some (out, e) ∧ Said a b out e := allF_law hN
theorem asc_len : ∀ {l : List Int} {lo : Int}, l.Pairwise (· < ·) → (∀ x ∈ l, lo ≤ x ∧ x ≤ 1048576) → lo ≤ 1048577 → (l.length : Int) ≤ 1048577 - lo
  | [], lo, _, _, h => by simp only [List.length_nil]; omega
  | x :: l, lo, h, hb, h0 => by
    rw [List.pairwise_cons] at h
    have h1 := hb x (List.mem_cons_self ..)
    have := asc_len (l := l) (lo := x + 1) h.2 (fun y hy => by
      have := h.1 y hy
      have := hb y (List.mem_cons_of_mem _ hy)
      omega) (by omega)
    rw [List.length_cons]; omega
theorem said_len {a b : List Tm} {out : List Bnd} {e : Int} (h : Said a b out e) : out.length ≤ 1048577 := by
  obtain ⟨h, hr⟩ := h
  have key : ∀ S, Ans S out e → out.length ≤ 1048577 := fun S h => by
    rcases h with ⟨_, rfl, _⟩ | ⟨M, hM, ⟨hB, _, _⟩ | ⟨_, rfl, _⟩⟩
    · simp
    · have := asc_len (lo := 0) hB.asc (fun x hx => by
        obtain ⟨c, hc, rfl⟩ := List.mem_map.1 hx
        exact ⟨(hr c hc).1, (hr c hc).2.1⟩) (by omega)
      rw [List.length_map] at this; omega
    · simp
  split at h
  · split at h
    · exact key _ h
    · rw [h.1]; simp
  · rw [h.1]; simp
mutual
theorem form_nodes : ∀ t : Tm, t.form = true → t.nodes ≤ t.sz
  | .mk k n s l, h => by
    have hl := forms_nodes l (form_args h)
    rw [Tm.nodes, Tm.sz]
    split
    · omega
    · rename_i h2
      have : l = [] := by
        by_cases h0 : k = 0
        · rw [form_0 (t := .mk k n s l) h0, decide_eq_true_eq] at h
          exact List.eq_nil_of_length_eq_zero h.2.2.2
        · by_cases h1 : k = 1
          · rw [form_1 (t := .mk k n s l) h1, decide_eq_true_eq] at h
            exact List.eq_nil_of_length_eq_zero h.2.2.2
          · rw [form_3 (t := .mk k n s l) h0 h1 h2] at h; cases h
      subst this
      simp only [Tm.nodess]; omega
theorem forms_nodes : ∀ l : List Tm, Tm.forms l = true → Tm.nodess l ≤ Tm.szs l
  | [], _ => Nat.le_refl _
  | t :: r, h => by
    simp only [Tm.forms, Bool.and_eq_true] at h
    have := form_nodes t h.1
    have := forms_nodes r h.2
    simp only [Tm.nodess, Tm.szs]; omega
end
theorem ans_nodes {S : (Int → Tm) → Prop} {out : List Bnd} {e : Int} (h : Ans S out e) (hr : Rng out) : ∀ x ∈ out, x.t.nodes ≤ 200 := by
  intro x hx
  rcases h with ⟨_, rfl, _⟩ | ⟨M, hM, ⟨_, hf, _⟩ | ⟨_, rfl, _⟩⟩
  · cases hx
  · have := form_nodes x.t (hr x hx).2.2
    have := (hf x hx).1
    omega
  · cases hx
theorem said_nodes {a b : List Tm} {out : List Bnd} {e : Int} (h : Said a b out e) : ∀ x ∈ out, x.t.nodes ≤ 200 := by
  obtain ⟨h, hr⟩ := h
  split at h
  · split at h
    · exact ans_nodes h hr
    · rw [h.1]; intro x hx; cases hx
  · rw [h.1]; intro x hx; cases hx
theorem eqs_one {a b : Tm} {σ : Int → Tm} : Eqs [(a, b)] σ ↔ app σ a = app σ b := by
  unfold Eqs; simp
theorem said_yes {a b : Tm} {out : List Bnd} {e : Int} (h : Said [a] [b] out e) (ha : a.right = true) (hb : b.right = true) : Ans (Eqs [(a, b)]) out e := by
  have h := h.1
  rw [if_pos (by simp [ha, hb]), if_pos (show [a].length = [b].length from rfl)] at h
  exact h
theorem ascR_mem : ∀ {b : List Bnd} {p : Option Int}, ascR p b = true → ∀ x ∈ b, x.t.right = true
  | y :: b, p, h, x, hx => by
    rw [ascR] at h
    simp only [Bool.and_eq_true] at h
    rcases List.mem_cons.1 hx with rfl | hx
    · exact h.2.2.1
    · exact ascR_mem h.2.2.2 x hx
theorem subB_form {s : List Bnd} (hs : rightB s = true) {v : Int} (hv : 0 ≤ v ∧ v ≤ 1048576) : (subB s v).form = true := by
  unfold subB
  cases hl : lookB s v with
  | none => exact varT_form hv
  | some t =>
    unfold rightB at hs
    rw [Bool.and_eq_true] at hs
    exact right_form (ascR_mem hs.1 _ (lookB_mem hl))
theorem general_law {a b : Tm} {s m : List Bnd} {e : Int} (ha : a.right = true) (hb : b.right = true) (hs : rightB s = true) (hc : (appR s a).cmp (appR s b) = 0) (h : Said [a] [b] m e) : (e = 6 ∧ m = []) ∨ (e = 0 ∧ ∀ c ∈ m, appR s (varT c.v) = appR s c.t) := by
  have fa := right_form ha
  have fb := right_form hb
  rw [appR_app s a (form_cv a fa), appR_app s b (form_cv b fb)] at hc
  have hσ : Eqs [(a, b)] (subB s) := eqs_one.2 (cmp_form _ _ (form_app a fa fun v hv => subB_form hs (vs_range a fa v hv)) (form_app b fb fun v hv => subB_form hs (vs_range b fb v hv)) hc)
  rcases said_yes h ha hb with ⟨hn, _, _⟩ | ⟨M, hM, ⟨hB, hf, h0⟩ | ⟨_, hm, h6⟩⟩
  · exact absurd hσ (hn _)
  · refine .inr ⟨h0, fun c hc => ?_⟩
    have ht := ((hB.mem c.v c.t).1 hc).1
    rw [appR_app s _ (varT_cv _), app_var, appR_app s _ (by rw [ht]; exact hM.cv _), ht]
    exact hM.gen _ hσ _
  · exact .inl ⟨h6, hm⟩
end Go.CK

namespace Go.CK
open Go.AM Go.Proofs
theorem smallS_nodes {s : List Bnd} (h : (s.all fun c => c.t.small) = true) : ∀ x ∈ s, x.t.nodes ≤ 1000000 ∧ x.t.vs.length ≤ 100000 := fun x hx => by
  have := small_nodes (List.all_eq_true.1 h x hx)
  have := vs_nodes x.t
  omega
set_option maxHeartbeats 4000000 in
set_option maxRecDepth 100000 in
theorem UnifyGeneral_ok (a b : Tm) (s : List Bnd) : Fun Try.prog 6 [a.avw, b.avw, .sl .no (s.map Bnd.av)] (.bool true) := by
  have sa := Small_ok a
  have sb := Small_ok b
  refine Fun.of (Sem.assume fun hg0 _ => ?_) rfl rfl
  have hg := (good_sla (hg0 (.sl .no (s.map Bnd.av)) (by simp) rfl)).1
  cases ha : a.small with
  | false =>
    rw [ha] at sa
    refine op_constraintlaw07_UnifyGeneral (by simp) ?_
    conv => whnf
    repeat' ((first | (refine gF ?_; first | refine CallN.fn (sa) ?_ | refine CallN.fn (awake_ok) ?_) | (refine gC ?_; first | refine cY ?_ | refine cN ?_ | refine .not ?_) | refine RetP.nrm ?_) <;> conv => whnf)
  | true =>
  rw [ha] at sa
  cases hb : b.small with
  | false =>
    rw [hb] at sb
    refine op_constraintlaw07_UnifyGeneral (by simp) ?_
    conv => whnf
    repeat' ((first | (refine gF ?_; first | refine CallN.fn (sa) ?_ | refine CallN.fn (sb) ?_ | refine CallN.fn (awake_ok) ?_) | (refine gC ?_; first | refine cY ?_ | refine cN ?_ | refine .not ?_) | refine RetP.nrm ?_) <;> conv => whnf)
  | true =>
  rw [hb] at sb
  have na := small_nodes ha
  have nb := small_nodes hb
  by_cases h40 : s.length ≤ 40
  rotate_left
  · have h402 : ¬ ((s.length : Int) ≤ 40) := by omega
    refine op_constraintlaw07_UnifyGeneral (by simp) ?_
    conv => whnf
    repeat' ((first | (refine gF ?_; first | refine CallN.fn (sa) ?_ | refine CallN.fn (sb) ?_ | refine CallN.fn (awake_ok) ?_) | (refine gC ?_; first | refine cY ?_ | refine .not ?_ | (refine gD ?_; refine cI ?_)) | (refine gL ?_; refine .map ?_) | refine RetP.nrm ?_) <;> conv => whnf)
  have h402 : ((s.length : Int) ≤ 40) := by omega
  have ra := right3_ok a (by omega)
  have rb := right3_ok b (by omega)
  cases har : a.right with
  | false =>
    rw [har] at ra
    refine op_constraintlaw07_UnifyGeneral (by simp) ?_
    conv => whnf
    repeat' ((first | (refine gF ?_; first | refine CallN.fn (sa) ?_ | refine CallN.fn (sb) ?_) | (refine gC ?_; first | refine cY ?_ | refine .not ?_ | (refine gD ?_; refine cJ ?_)) | (refine gL ?_; refine .map ?_)) <;> conv => whnf)
    refine LoopP.by (fb := true) (fun _ (j : Nat) => ⟨[(2, .sl .no (s.map Bnd.av)), (3, .ptr 0 0), (4, .ptr 1 0), (26, .int .i64 (s.length : Int)), (27, .int .i64 (j : Int))], [.cells [.int .i64 a.kind, .int .i64 a.num, .str a.name, .sl .no (a.args.map Tm.av)], .cells [.int .i64 b.kind, .int .i64 b.num, .str b.name, .sl .no (b.args.map Tm.av)]], 0⟩) (fun j => j ≤ s.length) (fun j => s.length - j) 0 (Nat.zero_le _) ?_ ?_
    · refine EndN.at_ ?_ rfl
      conv => whnf
      refine And.intro ?_ ?_ <;> conv => whnf
      all_goals repeat' ((first | (refine gV ?_; first | refine vE ?_ | refine vI ?_) | (refine gX ?_; refine xB ?_) | exact True.intro) <;> conv => whnf)
    · rintro j q1
      by_cases hj : j < s.length
      · obtain ⟨x, hx⟩ : ∃ x, s[j]? = some x := ⟨_, List.getElem?_eq_getElem hj⟩
        have hs := Small_ok x.t
        cases hc : x.t.small with
        | true =>
          rw [hc] at hs
          conv => whnf
          repeat' ((first | (refine gF ?_; refine CallN.fn (hs) ?_) | (refine gC ?_; first | refine cY ?_ | refine .not ?_ | (refine gD ?_; refine cI ?_)) | (refine gW ?_; refine wI ?_) | (refine gI ?_; (refine gM ?_; refine iE ?_))) <;> conv => whnf)
          refine ⟨j + 1, ⟨hj, by omega⟩, ?_⟩
          refine EndN.at_ ?_ rfl
          conv => whnf
          refine And.intro ?_ ?_ <;> conv => whnf
          all_goals repeat' ((first | (refine gV ?_; first | refine vE ?_ | refine vI ?_) | (refine gX ?_; refine xB ?_) | exact True.intro) <;> conv => whnf)
        | false =>
          rw [hc] at hs
          conv => whnf
          repeat' ((first | (refine gF ?_; first | refine CallN.fn (hs) ?_ | refine CallN.fn (awake_ok) ?_) | (refine gC ?_; first | refine cN ?_ | refine .not ?_ | (refine gD ?_; refine cI ?_)) | (refine gI ?_; (refine gM ?_; refine iE ?_)) | refine RetP.nrm ?_) <;> conv => whnf)
      · obtain rfl : j = s.length := by omega
        conv => whnf
        repeat' ((first | (refine gF ?_; refine CallN.fn (awake_ok) ?_) | (refine gG ?_; refine CallP.fn (ra) ?_) | (refine gC ?_; first | refine cY ?_ | refine cN ?_ | refine .not ?_ | (refine gD ?_; refine cJ ?_)) | refine RetP.nrm ?_) <;> conv => whnf)
  | true =>
  rw [har] at ra
  cases hbr : b.right with
  | false =>
    rw [hbr] at rb
    refine op_constraintlaw07_UnifyGeneral (by simp) ?_
    conv => whnf
    repeat' ((first | (refine gF ?_; first | refine CallN.fn (sa) ?_ | refine CallN.fn (sb) ?_) | (refine gC ?_; first | refine cY ?_ | refine .not ?_ | (refine gD ?_; refine cJ ?_)) | (refine gL ?_; refine .map ?_)) <;> conv => whnf)
    refine LoopP.by (fb := true) (fun _ (j : Nat) => ⟨[(2, .sl .no (s.map Bnd.av)), (3, .ptr 0 0), (4, .ptr 1 0), (26, .int .i64 (s.length : Int)), (27, .int .i64 (j : Int))], [.cells [.int .i64 a.kind, .int .i64 a.num, .str a.name, .sl .no (a.args.map Tm.av)], .cells [.int .i64 b.kind, .int .i64 b.num, .str b.name, .sl .no (b.args.map Tm.av)]], 0⟩) (fun j => j ≤ s.length) (fun j => s.length - j) 0 (Nat.zero_le _) ?_ ?_
    · refine EndN.at_ ?_ rfl
      conv => whnf
      refine And.intro ?_ ?_ <;> conv => whnf
      all_goals repeat' ((first | (refine gV ?_; first | refine vE ?_ | refine vI ?_) | (refine gX ?_; refine xB ?_) | exact True.intro) <;> conv => whnf)
    · rintro j q1
      by_cases hj : j < s.length
      · obtain ⟨x, hx⟩ : ∃ x, s[j]? = some x := ⟨_, List.getElem?_eq_getElem hj⟩
        have hs := Small_ok x.t
        cases hc : x.t.small with
        | true =>
          rw [hc] at hs
          conv => whnf
          repeat' ((first | (refine gF ?_; refine CallN.fn (hs) ?_) | (refine gC ?_; first | refine cY ?_ | refine .not ?_ | (refine gD ?_; refine cI ?_)) | (refine gW ?_; refine wI ?_) | (refine gI ?_; (refine gM ?_; refine iE ?_))) <;> conv => whnf)
          refine ⟨j + 1, ⟨hj, by omega⟩, ?_⟩
          refine EndN.at_ ?_ rfl
          conv => whnf
          refine And.intro ?_ ?_ <;> conv => whnf
          all_goals repeat' ((first | (refine gV ?_; first | refine vE ?_ | refine vI ?_) | (refine gX ?_; refine xB ?_) | exact True.intro) <;> conv => whnf)
        | false =>
          rw [hc] at hs
          conv => whnf
          repeat' ((first | (refine gF ?_; first | refine CallN.fn (hs) ?_ | refine CallN.fn (awake_ok) ?_) | (refine gC ?_; first | refine cN ?_ | refine .not ?_ | (refine gD ?_; refine cI ?_)) | (refine gI ?_; (refine gM ?_; refine iE ?_)) | refine RetP.nrm ?_) <;> conv => whnf)
      · obtain rfl : j = s.length := by omega
        conv => whnf
        repeat' ((first | (refine gF ?_; refine CallN.fn (awake_ok) ?_) | (refine gG ?_; first | refine CallP.fn (ra) ?_ | refine CallP.fn (rb) ?_) | (refine gC ?_; first | refine cY ?_ | refine cN ?_ | refine .not ?_ | (refine gD ?_; refine cJ ?_)) | refine RetP.nrm ?_) <;> conv => whnf)
  | true =>
  rw [hbr] at rb
  obtain ⟨m, e, u1, s1⟩ := said_ex (a := [a]) (b := [b]) (by simp only [Tm.nodess]; omega)
  have hU1 := Unify_ok u1 (by omega)
  have hU2 := Unifiable_ok u1 (by omega)
  have hml := said_len s1
  refine op_constraintlaw07_UnifyGeneral (by simp) ?_
  conv => whnf
  repeat' ((first | (refine gF ?_; first | refine CallN.fn (sa) ?_ | refine CallN.fn (sb) ?_) | (refine gC ?_; first | refine cY ?_ | refine .not ?_ | (refine gD ?_; refine cJ ?_)) | (refine gL ?_; refine .map ?_)) <;> conv => whnf)
  refine LoopP.by (fb := true) (fun _ (j : Nat) => ⟨[(2, .sl .no (s.map Bnd.av)), (3, .ptr 0 0), (4, .ptr 1 0), (26, .int .i64 (s.length : Int)), (27, .int .i64 (j : Int))], [.cells [.int .i64 a.kind, .int .i64 a.num, .str a.name, .sl .no (a.args.map Tm.av)], .cells [.int .i64 b.kind, .int .i64 b.num, .str b.name, .sl .no (b.args.map Tm.av)]], 0⟩) (fun j => j ≤ s.length ∧ (s.drop j).all (fun c => c.t.small) = s.all fun c => c.t.small) (fun j => s.length - j) 0 ⟨Nat.zero_le _, rfl⟩ ?_ ?_
  · refine EndN.at_ ?_ rfl
    conv => whnf
    refine And.intro ?_ ?_ <;> conv => whnf
    all_goals repeat' ((first | (refine gV ?_; first | refine vE ?_ | refine vI ?_) | (refine gX ?_; refine xB ?_) | exact True.intro) <;> conv => whnf)
  · rintro j ⟨q1, q2⟩
    by_cases hj : j < s.length
    · obtain ⟨x, hx⟩ : ∃ x, s[j]? = some x := ⟨_, List.getElem?_eq_getElem hj⟩
      rw [List.drop_eq_getElem_cons hj, (List.getElem?_eq_some_iff.1 hx).2, List.all_cons] at q2
      have hs := Small_ok x.t
      cases hc : x.t.small with
      | true =>
        rw [hc] at hs
        rw [hc, Bool.true_and] at q2
        conv => whnf
        repeat' ((first | (refine gF ?_; refine CallN.fn (hs) ?_) | (refine gC ?_; first | refine cY ?_ | refine .not ?_ | (refine gD ?_; refine cI ?_)) | (refine gW ?_; refine wI ?_) | (refine gI ?_; (refine gM ?_; refine iE ?_))) <;> conv => whnf)
        refine ⟨j + 1, ⟨⟨hj, q2⟩, by omega⟩, ?_⟩
        refine EndN.at_ ?_ rfl
        conv => whnf
        refine And.intro ?_ ?_ <;> conv => whnf
        all_goals repeat' ((first | (refine gV ?_; first | refine vE ?_ | refine vI ?_) | (refine gX ?_; refine xB ?_) | exact True.intro) <;> conv => whnf)
      | false =>
        rw [hc] at hs
        conv => whnf
        repeat' ((first | (refine gF ?_; first | refine CallN.fn (hs) ?_ | refine CallN.fn (awake_ok) ?_) | (refine gC ?_; first | refine cN ?_ | refine .not ?_ | (refine gD ?_; refine cI ?_)) | (refine gI ?_; (refine gM ?_; refine iE ?_)) | refine RetP.nrm ?_) <;> conv => whnf)
    · obtain rfl : j = s.length := by omega
      rw [List.drop_length, List.all_nil] at q2
      have hsn := smallS_nodes q2.symm
      have hr := right6_ok s hsn
      cases hsr : rightB s with
      | false =>
        rw [hsr] at hr
        conv => whnf
        repeat' ((first | (refine gF ?_; refine CallN.fn (awake_ok) ?_) | (refine gG ?_; first | refine CallP.fn (ra) ?_ | refine CallP.fn (rb) ?_ | refine CallP.fn (hr) ?_) | (refine gC ?_; first | refine cY ?_ | refine cN ?_ | refine .not ?_ | (refine gD ?_; refine cJ ?_)) | refine RetP.nrm ?_) <;> conv => whnf)
      | true =>
      rw [hsr] at hr
      have pa := apply6_ok s a (by omega)
      have pb := apply6_ok s b (by omega)
      have hsame := same3_ok (appR s a) (appR s b)
      by_cases hc : (appR s a).cmp (appR s b) = 0
      rotate_left
      · rw [decide_eq_false hc] at hsame
        conv => whnf
        repeat' ((first | (refine gF ?_; refine CallN.fn (awake_ok) ?_) | (refine gG ?_; first | refine CallP.fn (ra) ?_ | refine CallP.fn (rb) ?_ | refine CallP.fn (hr) ?_ | refine CallP.fn (pa) ?_ | refine CallP.fn (pb) ?_ | refine CallP.fn (hsame) ?_) | (refine gC ?_; first | refine cY ?_ | refine cN ?_ | refine .not ?_ | (refine gD ?_; refine cJ ?_)) | refine RetP.nrm ?_) <;> conv => whnf)
      rw [decide_eq_true hc] at hsame
      rcases general_law har hbr hsr hc s1 with ⟨rfl, rfl⟩ | ⟨rfl, hg2⟩
      · rw [show unifiableB 6 = true from rfl] at hU2
        conv => whnf
        repeat' ((first | (refine gF ?_; first | refine CallN.fn (hU1) ?_ | refine CallN.fn (hU2) ?_ | refine CallN.fn (awake_ok) ?_) | (refine gG ?_; first | refine CallP.fn (ra) ?_ | refine CallP.fn (rb) ?_ | refine CallP.fn (hr) ?_ | refine CallP.fn (pa) ?_ | refine CallP.fn (pb) ?_ | refine CallP.fn (hsame) ?_) | (refine gC ?_; first | refine cY ?_ | refine .not ?_ | (refine gD ?_; first | refine cI ?_ | refine cJ ?_)) | refine RetP.nrm ?_) <;> conv => whnf)
      · rw [show unifiableB 0 = true from rfl] at hU2
        conv => whnf
        repeat' ((first | (refine gF ?_; first | refine CallN.fn (hU1) ?_ | refine CallN.fn (hU2) ?_) | (refine gG ?_; first | refine CallP.fn (ra) ?_ | refine CallP.fn (rb) ?_ | refine CallP.fn (hr) ?_ | refine CallP.fn (pa) ?_ | refine CallP.fn (pb) ?_ | refine CallP.fn (hsame) ?_) | (refine gC ?_; first | refine cY ?_ | refine .not ?_ | (refine gD ?_; first | refine cI ?_ | refine cJ ?_)) | (refine gL ?_; refine .map ?_)) <;> conv => whnf)
        refine LoopP.by (fb := true) (fun _ (j : Nat) => ⟨[(2, .sl .no (s.map Bnd.av)), (8, .sl .no (m.map Bnd.av)), (81, .int .i64 (m.length : Int)), (82, .int .i64 (j : Int))], [], 0⟩) (fun j => j ≤ m.length) (fun j => m.length - j) 0 (Nat.zero_le _) ?_ ?_
        · refine EndN.lay [] (by repeat' (first | exact rfl | exact atB_row plainN _ _ | exact atB_row plainPr _ _ | exact atB_row plainTmA _ _ | refine okO_cons ?_ ?_ | refine okO_none ?_ | refine allB_cons ?_ ?_)) ?_
          conv => whnf
          refine EndN.at_ ?_ rfl
          conv => whnf
          refine And.intro ?_ ?_ <;> conv => whnf
          all_goals repeat' ((first | (refine gV ?_; first | refine vE ?_ | refine vI ?_) | exact True.intro) <;> conv => whnf)
        · rintro j q1
          by_cases hj : j < m.length
          · obtain ⟨x, hx⟩ : ∃ x, m[j]? = some x := ⟨_, List.getElem?_eq_getElem hj⟩
            have qa := apply6_ok s (varT x.v) (by simp [varT, Tm.nodes, Tm.nodess])
            have qb := apply6_ok s x.t (by have := said_nodes s1 x (List.mem_of_getElem? hx); omega)
            have hsame2 := same3_ok (appR s (varT x.v)) (appR s x.t)
            rw [hg2 x (List.mem_of_getElem? hx), Tm.cmp_refl, decide_eq_true rfl] at hsame2
            rw [hg2 x (List.mem_of_getElem? hx)] at qa
            conv => whnf
            repeat' ((first | (refine gG ?_; first | refine CallP.fn (v7_ok _) ?_ | refine CallP.fn (qa) ?_ | refine CallP.fn (qb) ?_ | refine CallP.fn (hsame2) ?_) | (refine gC ?_; first | refine cY ?_ | refine .not ?_ | (refine gD ?_; refine cI ?_)) | (refine gW ?_; refine wI ?_) | (refine gI ?_; (refine gM ?_; refine iE ?_))) <;> conv => whnf)
            refine ⟨j + 1, ⟨hj, by omega⟩, ?_⟩
            refine EndN.lay [] (by repeat' (first | exact rfl | exact atB_row plainN _ _ | exact atB_row plainPr _ _ | exact atB_row plainTmA _ _ | refine okO_cons ?_ ?_ | refine okO_none ?_ | refine allB_cons ?_ ?_)) ?_
            conv => whnf
            refine EndN.at_ ?_ rfl
            conv => whnf
            refine And.intro ?_ ?_ <;> conv => whnf
            all_goals repeat' ((first | (refine gV ?_; first | refine vE ?_ | refine vI ?_) | exact True.intro) <;> conv => whnf)
          · obtain rfl : j = m.length := by omega
            conv => whnf
            repeat' ((first | (refine gF ?_; refine CallN.fn (awake_ok) ?_) | (refine gC ?_; (refine gD ?_; refine cJ ?_)) | refine RetP.nrm ?_) <;> conv => whnf)
def Bd.bnd (x : Bd) : Bnd := ⟨x.var, x.term⟩
theorem unifyGeneral_law {a b : Tm} {s : List Bd} : Fun Try.prog 6 [a.av, b.av, slA Bd.av s] (.bool true) := by
  have h := UnifyGeneral_ok a b (s.map Bd.bnd)
  rw [List.map_map] at h
  rw [Tm.av_w, Tm.av_w]; exact h
end Go.CK

namespace Go.CK
open Go.RowKit Go.AM

def AllFV (M : Hp) : List AV → List Value → Prop
  | [], [] => True
  | x :: xs, v :: vs => FV M x v ∧ AllFV M xs vs
  | _, _ => False
theorem AllFV.len {M : Hp} : ∀ {xs : List AV} {vs : List Value}, AllFV M xs vs → vs.length = xs.length
  | [], [], _ => rfl
  | _ :: xs, _ :: vs, h => by simp [AllFV.len h.2]
  | [], _ :: _, h => h.elim
  | _ :: _, [], h => h.elim
theorem AllFV.get {M : Hp} : ∀ {xs : List AV} {vs : List Value}, AllFV M xs vs → ∀ j (h : j < xs.length) v, vs[j]? = some v → FV M xs[j] v
  | [], [], _, j, h, _, _ => by cases h
  | _ :: xs, _ :: vs, h, 0, _, v, hv => by
    simp only [List.getElem?_cons_zero, Option.some.injEq] at hv
    subst hv; exact h.1
  | _ :: xs, _ :: vs, h, j + 1, hj, v, hv => AllFV.get h.2 j (by simpa using hj) v (by simpa using hv)
  | [], _ :: _, h, _, _, _, _ => h.elim
  | _ :: _, [], h, _, _, _, _ => h.elim
theorem Fun.calls {P : Program} {f : FuncId} {vals : List AV} {b : Bool} (h : Fun P f vals (.bool b)) {w : World} {args : List Value} (ha : AllFV (Hp.of w) vals args) :
    Calls P f args.toArray w fun e w' => e = .returned (.bool b) ∧ Ext w w' := by
  refine (((h []).mono (Q' := fun r _ => r = .bool b) fun r bs hq => hq.1).calls (Hp.le_refl _) ha.len ha.get).mono ?_
  rintro e w' ⟨v, r, bs', M', σ, n, rfl, rfl, hv, hx, _⟩
  exact ⟨by rw [hv.inv_bool], hx⟩
end Go.CK

namespace Go.CK
open Go.RowKit Go.Proofs Go.ChangeShapes Go.WideShapes Go.ChangeAt
open Go.Proofs.Ytahooabjmaolhaa.Rows (uptoBulk uptoBulkAll uptoSmall)

theorem bulk_one {H : Type} (d : DataW H) : 1 ≤ uptoBulk d := by
  cases d with
  | lit l => cases l <;> simp [uptoBulk]
  | nil => simp [uptoBulk]
  | ptr d => simp [uptoBulk]
  | slice elems spare => simp [uptoBulk]
  | agg parts => simp [uptoBulk]
  | iface t d => simp [uptoBulk]
  | map entries => simp [uptoBulk]
  | held h => simp [uptoBulk]

theorem bulk_part {H : Type} {d : DataW H} {l : List (DataW H)} (h : d ∈ l) : uptoBulk d ≤ uptoBulkAll l := by
  induction l with
  | nil => cases h
  | cons x r ih =>
    simp only [uptoBulkAll]
    cases List.mem_cons.1 h with
    | inl e => subst e; omega
    | inr e => have := ih e; omega

theorem bulk_len {H : Type} (l : List (DataW H)) : l.length ≤ uptoBulkAll l := by
  induction l with
  | nil => simp [uptoBulkAll]
  | cons x r ih => have := bulk_one x; simp only [uptoBulkAll, List.length_cons]; omega

theorem bulk_bound {H : Type} {l : List (DataW H)} (hk : uptoSmall H l = true) : uptoBulkAll l ≤ 1048576 := of_decide_eq_true hk

section
variable {H : Type} {enc : TypeId × Value → H} {P : Program} {W : World} {spare : Nat → Bool} {held : Bool}

/-- a slice that came in reads as a list -/
theorem sl_of {α : Type} {T e : TypeId} {sz N : Nat} (hu : P.underlying T = some (.slice e)) (hsz : P.cellsOf e = sz) (hp : 0 < sz) (R : List Value → α → Prop) (hN : 0 ≤ N)
    (ih : ∀ (cs : List Value) (d : DataW H) (ps : List MemPlace) (fuel : Nat), DataW.trod enc P W 0 spare held fuel e cs = some (d, ps) → uptoBulk d < N → ∃ x, R cs x)
    {fuel : Nat} {cs : List Value} {d : DataW H} {ps : List MemPlace} (h : DataW.trod enc P W 0 spare held fuel T cs = some (d, ps)) (hb : uptoBulk d ≤ N) :
    ∃ (a : Option Addr) (l : List α) (cap : Nat), cs = [.slice a l.length cap] ∧ l.length ≤ cap ∧ Sl (Hp.of W) sz R a l ∧ l.length ≤ N := by
  subst hsz
  rcases Deep.open_slice hu h with ⟨rfl, _⟩ | ⟨a, len, cap, m, n, D, Pl, rfl, _, hlc, hcm, hm, hx, hel⟩
  · exact ⟨none, [], 0, rfl, by simp, Sl.nil, by simp⟩
  · simp only [Prod.mk.injEq] at hx
    obtain ⟨rfl, _⟩ := hx
    have hlm : len ≤ m := by rw [hm]; split <;> omega
    simp only [uptoBulk] at hb
    have hlen := bulk_len ((List.range len).map D)
    rw [List.length_map, List.length_range] at hlen
    have hD : ∀ i, i < len → ∃ x cs', W.cells? 0 (a.add (i * P.cellsOf e)) (P.cellsOf e) = some cs' ∧ R cs' x := fun i hi => by
      obtain ⟨cs', h1, h2⟩ := hel i (by omega)
      have hbi : uptoBulk (D i) ≤ uptoBulkAll ((List.range len).map D) := bulk_part (List.mem_map.2 ⟨i, by simpa using hi, rfl⟩)
      obtain ⟨x, hx⟩ := ih cs' (D i) (Pl i) n h2 (by omega)
      exact ⟨x, cs', h1, hx⟩
    refine ⟨some a, List.ofFn (fun i : Fin len => (hD i.1 i.2).choose), cap, by simp, by simpa using hlc, ⟨by simp only [List.length_ofFn];unfold maxLen at hcm;unfold lim;omega, fun i hi => ?_⟩, by simp; omega⟩
    rw [List.length_ofFn] at hi
    have hspot : a.spot = none := by
      obtain ⟨cs', h1, _⟩ := hel 0 (by omega)
      obtain ⟨_, h2, h3⟩ := World.cells?_some h1
      have h4 := h3 0 hp
      rw [List.getElem?_eq_getElem (by omega)] at h4
      simp only [Nat.zero_mul] at h4
      have h5 : (a.add 0).add 0 = a := by simp [Addr.add]
      rw [h5] at h4
      cases hs : a.spot with
      | none => rfl
      | some k =>
        simp only [World.cell?, hs] at h4
        split at h4 <;> simp at h4
    obtain ⟨cs', h1, h2⟩ := (hD i hi).choose_spec
    obtain ⟨_, h3, h4⟩ := World.cells?_some h1
    have ha : a = ⟨a.block, a.off, none⟩ := by cases a; simp only at hspot; subst hspot; rfl
    refine ⟨a.block, a.off, cs', by rw [← ha], h3, fun j x hj => ?_, by simpa using h2⟩
    have hj2 : j < P.cellsOf e := by rw [← h3]; exact (List.getElem?_eq_some_iff.1 hj).1
    have h5 := h4 j hj2
    rw [Deep.add_add] at h5
    have h6 : a.add (i * P.cellsOf e + j) = ⟨a.block, a.off + i * P.cellsOf e + j, none⟩ := by
      unfold Addr.add
      split
      · rename_i h0
        rw [ha]; simp; omega
      · simp
    rw [h6, hj] at h5
    exact h5
end

theorem cellsInt : Try.prog.cellsOf 3 = 1 := by kernel_rfl
theorem cellsStr : Try.prog.cellsOf 9 = 1 := by kernel_rfl
theorem cellsTms : Try.prog.cellsOf 22 = 1 := by kernel_rfl
theorem cellsTm : Try.prog.cellsOf 24 = 4 := by kernel_rfl

section
variable {H : Type} {enc : TypeId × Value → H} {W : World} {spare : Nat → Bool} {held : Bool}

theorem int_of {fuel : Nat} {cs : List Value} {d : DataW H} {ps : List MemPlace} (h : DataW.trod enc Try.prog W 0 spare held fuel 3 cs = some (d, ps)) : ∃ n, cs = [.int .i64 n] ∧ IntOk n := by
  obtain ⟨n, h1, _, h3⟩ := DataW.trod_int Try.underlying3 h
  exact ⟨n, h1, IntOk.of_wf h3⟩

theorem str_of {N fuel : Nat} {cs : List Value} {d : DataW H} {ps : List MemPlace} (h : DataW.trod enc Try.prog W 0 spare held fuel 9 cs = some (d, ps)) (hb : uptoBulk d ≤ N) : ∃ s : ByteArray, cs = [.string s] ∧ s.size ≤ lim := by
 obtain⟨s,h1,_,h3⟩:=DataW.trod_string Try.underlying9 h;exact ⟨s,h1,by unfold maxLen at h3;unfold lim;omega⟩

set_option maxRecDepth 100000 in
/-- a term that came in -/
theorem tm_of : ∀ (N : Nat), 0 ≤ N → ∀ (cs : List Value) (d : DataW H) (ps : List MemPlace) (fuel : Nat), DataW.trod enc Try.prog W 0 spare held fuel 24 cs = some (d, ps) → uptoBulk d ≤ N → ∃ t, RTm (Hp.of W) cs t := by
  intro N
  induction N using Nat.strongRecOn with
  | _ N ih =>
  intro hN cs d ps fuel h hb
  obtain ⟨y0, y1, y2, y3, n, hx, hl, h0, h1, h2, h3⟩ := Joins.trod_struct4 Try.underlying24 h
  simp only [Prod.mk.injEq] at hx
  obtain ⟨rfl, _⟩ := hx
  rw [cellsTm] at hl
  match cs, hl with
  | [c0, c1, c2, c3], _ =>
    simp only [cellsInt, cellsStr, cellsTms, List.drop_zero, List.drop_succ_cons, List.take_succ_cons, List.take_zero] at h0 h1 h2 h3
    simp only [uptoBulk, uptoBulkAll] at hb
    have := bulk_one y3.1
    obtain ⟨k, e0, ik⟩ := int_of h0
    obtain ⟨m, e1, im⟩ := int_of h1
    obtain ⟨s, e2, is⟩ := str_of (N := N) h2 (by omega)
    obtain ⟨a, l, cap, e3, hlc, hsl, _⟩ := sl_of (N := N - 1) Try.underlying22 cellsTm (by omega) (RTm (Hp.of W)) (by omega) (fun cs d ps fuel h hb => ih (N - 1) (by omega) (by omega) cs d ps fuel h (by omega)) h3 (by omega)
    simp only [List.cons.injEq, and_true] at e0 e1 e2 e3
    subst e0; subst e1; subst e2; subst e3
    exact ⟨.mk k m s l, RTm.intro ik im is hlc hsl⟩
end
end Go.CK

namespace Go.CK
open Go.RowKit Go.Proofs Go.ChangeShapes Go.WideShapes Go.ChangeAt
open Go.Proofs.Ytahooabjmaolhaa.Rows (uptoBulk uptoBulkAll uptoSmall)
section
variable {H : Type} {enc : TypeId × Value → H} {W : World} {spare : Nat → Bool} {held : Bool}
theorem cells_Bd : Try.prog.cellsOf 40 = 5 := by kernel_rfl
set_option maxRecDepth 100000 in
theorem bd_of (N : Nat) (hN : 0 ≤ N) (cs : List Value) (d : DataW H) (ps : List MemPlace) (fuel : Nat) (h : DataW.trod enc Try.prog W 0 spare held fuel 40 cs = some (d, ps)) (hb : uptoBulk d ≤ N) : ∃ x, RBd (Hp.of W) cs x := by
  obtain ⟨y0, y1, n, hx, hl, h0, h1⟩ := trod_struct2 Try.underlying40 h
  simp only [Prod.mk.injEq] at hx
  obtain ⟨rfl, _⟩ := hx
  rw [cells_Bd] at hl
  match cs, hl with
  | [c0, c1, c2, c3, c4], _ =>
    simp only [cellsInt, cellsTm, List.drop_zero, List.drop_succ_cons, List.take_succ_cons, List.take_zero] at h0 h1
    simp only [uptoBulk, uptoBulkAll] at hb
    obtain ⟨v0, e0, i0⟩ := int_of h0
    obtain ⟨v1, e1⟩ := tm_of N hN _ _ _ _ h1 (by omega)
    simp only [List.cons.injEq, and_true] at e0
    subst e0
    exact ⟨⟨v0, v1⟩, _, rfl, i0, e1⟩
set_option maxRecDepth 100000 in
theorem lbd_of (N : Nat) (hN : 0 ≤ N) (cs : List Value) (d : DataW H) (ps : List MemPlace) (fuel : Nat) (h : DataW.trod enc Try.prog W 0 spare held fuel 28 cs = some (d, ps)) (hb : uptoBulk d ≤ N) : ∃ x, RSl 5 RBd (Hp.of W) cs x := by
  obtain ⟨a, l, k, e, h1, h2, _⟩ := sl_of (N := N) Try.underlying28 cells_Bd (by omega) (RBd (Hp.of W)) hN (fun cs d ps fuel h hb => bd_of N hN cs d ps fuel h (by omega)) h hb
  exact ⟨l, a, k, e, h1, h2⟩
end
end Go.CK

