/-
  Texts of this claim joined (wip/gen/bundle.py), those declarations only that are needed: UnT UnU UnW. By an AI agent.
-/
import Derived.Test.YtahooabjmaolhaaBba
import Derived.Test.YtahooabjmaolhaaBav
import Derived.Test.YtahooabjmaolhaaBbc
import Derived.KernelRfl
set_option linter.unusedSimpArgs false
set_option linter.unusedVariables false
namespace Go.CK
open Go.AM Go.Proofs
theorem same3_ok (a b : Tm) : Fun Try.prog 19 [a.avw, b.avw] (.bool (decide (a.cmp b = 0))) := by
  refine Fun.of (op_constraintref03_Same (by simp) ?_) rfl rfl
  conv => whnf
  conv => whnf
  repeat' ((first | (refine gF ?_; refine CallN.fn (refCompare_ok a b) ?_) | refine RetP.nrm ?_) <;> conv => whnf)
def lookB : List Bnd → Int → Option Tm
  | [], _ => none
  | x :: l, v => if x.v = v then some x.t else lookB l v
def lookAV : Option Tm → AV
  | some t => .tup [t.avw, .bool true]
  | none => .tup [(Tm.mk 0 0 ⟨⟨[]⟩⟩ []).avw, .bool false]
theorem lookAV_lt (o : Option Tm) : (lookAV o).lt 0 = true := by cases o <;> rfl
set_option maxRecDepth 100000 in
theorem lookup6_ok (l : List Bnd) (v : Int) : Fun Try.prog 33 [.sl .no (l.map Bnd.av), .int .i64 v] (lookAV (lookB l v)) := by
  refine Fun.of (Sem.assume fun hg0 _ => ?_) rfl (lookAV_lt _)
  have hg := (good_sla (hg0 (.sl .no (l.map Bnd.av)) (by simp) rfl)).1
  refine op_constraintref06_Lookup (by simp) ?_
  conv => whnf
  skip
  refine LoopP.by (fb := true) (fun _ (j : Nat) => ⟨[(0, .sl .no (l.map Bnd.av)), (1, .int .i64 v), (4, .ptr 0 0), (6, .int .i64 (j : Int))], [.cells [.int .i64 0, .int .i64 0, .str ⟨⟨[]⟩⟩, .sl .full []]], 0⟩) (fun j => j ≤ l.length ∧ lookB (l.drop j) v = lookB l v) (fun j => l.length - j) 0 ⟨Nat.zero_le _, rfl⟩ ?_ ?_
  · refine EndN.at_ ?_ rfl
    conv => whnf
    refine And.intro ?_ ?_ <;> conv => whnf
    all_goals repeat' ((first | (refine gV ?_; first | refine vE ?_ | refine vI ?_) | (refine gX ?_; refine xB ?_) | exact True.intro) <;> conv => whnf)
  · rintro j ⟨q1, q2⟩
    by_cases hj : j < l.length
    · obtain ⟨x, hx⟩ : ∃ x, l[j]? = some x := ⟨_, List.getElem?_eq_getElem hj⟩
      rw [List.drop_eq_getElem_cons hj, (List.getElem?_eq_some_iff.1 hx).2, lookB] at q2
      by_cases hv : x.v = v
      · rw [if_pos hv] at q2
        rw [← q2]
        conv => whnf
        repeat' ((first | (refine gC ?_; (refine gD ?_; refine cI ?_)) | (refine gL ?_; refine .map ?_) | (refine gI ?_; (refine gM ?_; refine iE ?_))) <;> conv => whnf)
        conv => whnf
        repeat' (refine RetP.nrm ?_ <;> conv => whnf)
        rfl
      · rw [if_neg hv] at q2
        conv => whnf
        repeat' ((first | (refine gC ?_; (refine gD ?_; first | refine cI ?_ | refine cJ ?_)) | (refine gW ?_; refine wI ?_) | (refine gL ?_; refine .map ?_) | (refine gI ?_; (refine gM ?_; refine iE ?_))) <;> conv => whnf)
        refine ⟨j + 1, ⟨⟨hj, q2⟩, by omega⟩, ?_⟩
        refine EndN.at_ ?_ rfl
        conv => whnf
        refine And.intro ?_ ?_ <;> conv => whnf
        all_goals repeat' ((first | (refine gV ?_; first | refine vE ?_ | refine vI ?_) | (refine gX ?_; refine xB ?_) | exact True.intro) <;> conv => whnf)
    · obtain rfl : j = l.length := by omega
      rw [List.drop_length, lookB] at q2
      rw [← q2]
      conv => whnf
      repeat' ((first | (refine gC ?_; (refine gD ?_; refine cJ ?_)) | (refine gL ?_; refine .map ?_)) <;> conv => whnf)
      conv => whnf
      repeat' (refine RetP.nrm ?_ <;> conv => whnf)
      rfl
mutual
def appR (b : List Bnd) : Tm → Tm
  | .mk k n s l => if k = 1 then (match lookB b n with | some x => x | none => .mk k n s l) else if k = 2 then .mk k n s (appRs b l) else .mk k n s l
def appRs (b : List Bnd) : List Tm → List Tm
  | [] => []
  | t :: r => appR b t :: appRs b r
end
theorem appRs_map (b : List Bnd) : ∀ l : List Tm, appRs b l = l.map (appR b)
  | [] => rfl
  | t :: r => by rw [appRs, appRs_map b r]; rfl
theorem appR_1 {b : List Bnd} {t : Tm} (h : t.kind = 1) : appR b t = match lookB b t.num with | some x => x | none => t := by
  obtain ⟨k, n, s, l⟩ := t
  simp only [Tm.kind] at h
  rw [appR, if_pos h]; rfl
theorem appR_2 {b : List Bnd} {t : Tm} (h : t.kind = 2) : appR b t = .mk t.kind t.num t.name (t.args.map (appR b)) := by
  obtain ⟨k, n, s, l⟩ := t
  simp only [Tm.kind] at h
  rw [appR, if_neg (by omega), if_pos h, appRs_map]; rfl
theorem appR_3 {b : List Bnd} {t : Tm} (h1 : ¬ t.kind = 1) (h2 : ¬ t.kind = 2) : appR b t = t := by
  obtain ⟨k, n, s, l⟩ := t
  simp only [Tm.kind] at h1 h2
  rw [appR, if_neg h1, if_neg h2]
set_option maxRecDepth 100000 in
theorem applyTerms_of {b : List Bnd} {l : List Tm} (hg : l.length ≤ 1000000) (h : ∀ x ∈ l, Fun Try.prog 20 [.sl .no (b.map Bnd.av), x.avw] (appR b x).avw) : Fun Try.prog 34 [.sl .no (b.map Bnd.av), .sl .no (l.map Tm.av)] (.sl .no ((l.map (appR b)).map Tm.av)) := by
  refine Fun.of (Sem.assume fun _ _ => ?_) rfl rfl
  refine op_constraintref06_ApplyTerms (by simp) ?_
  conv => whnf
  skip
  refine LoopP.by (fb := true) (fun _ (j : Nat) => ⟨[(0, .sl .no (b.map Bnd.av)), (1, .sl .no (l.map Tm.av)), (5, .sl (.own 4) (((l.take j).map (appR b)).map Tm.av)), (6, .int .i64 (j : Int))], [], 0⟩) (fun j => j ≤ l.length) (fun j => l.length - j) 0 (Nat.zero_le _) ?_ ?_
  · refine EndN.at_ ?_ rfl
    conv => whnf
    refine And.intro ?_ ?_ <;> conv => whnf
    all_goals repeat' ((first | (refine gV ?_; first | refine vE ?_ | refine vI ?_ | ((refine gK ?_; refine vD ?_ ?_); (focus (simp [AV.norm, AV.norm1, ]; done)))) | exact True.intro) <;> conv => whnf)
  · rintro j q1
    by_cases hj : j < l.length
    · obtain ⟨x, hx⟩ : ∃ x, l[j]? = some x := ⟨_, List.getElem?_eq_getElem hj⟩
      have htk : l.take (j + 1) = l.take j ++ [x] := by rw [List.take_add_one, hx]; rfl
      have hcall := h x (List.mem_of_getElem? hx)
      conv => whnf
      repeat' ((first | (refine gF ?_; refine CallN.fn (hcall) ?_) | (refine gC ?_; (refine gD ?_; refine cI ?_)) | (refine gW ?_; refine wI ?_) | (refine gL ?_; refine .map ?_) | (refine gN ?_; refine nS ?_) | (refine gI ?_; (refine gT ?_; refine iA ?_))) <;> conv => whnf)
      refine ⟨j + 1, ⟨hj, by omega⟩, ?_⟩
      rw [htk]
      refine EndN.at_ ?_ rfl
      conv => whnf
      refine And.intro ?_ ?_ <;> conv => whnf
      all_goals repeat' ((first | (refine gV ?_; first | refine vE ?_ | refine vI ?_ | (refine WkN.sl ?_ ?_; (focus (simp [AV.norm, AV.norm1, Tm.av_w, Tm.avw]; done)))) | exact True.intro) <;> conv => whnf)
    · obtain rfl : j = l.length := by omega
      rw [List.take_of_length_le (Nat.le_refl _)]
      conv => whnf
      repeat' ((first | (refine gC ?_; (refine gD ?_; refine cJ ?_)) | (refine gL ?_; refine .map ?_) | refine RetP.nrm ?_) <;> conv => whnf)
set_option maxRecDepth 100000 in
theorem apply6_ok (b : List Bnd) (t : Tm) : t.nodes ≤ 1000000 → Fun Try.prog 20 [.sl .no (b.map Bnd.av), t.avw] (appR b t).avw := by
  induction t using Tm.ind_all with
  | h k i s l ih =>
  intro hN
  generalize ha : Tm.mk k i s l = t at hN ⊢
  replace ih : ∀ x ∈ t.args, x.nodes ≤ 1000000 → Fun Try.prog 20 [.sl .no (b.map Bnd.av), x.avw] (appR b x).avw := by subst ha; exact ih
  have hnl : Tm.nodess t.args + 1 ≤ t.nodes := by subst ha; simp only [Tm.nodes, Tm.args]; omega
  have hlen := nodess_len t.args
  clear ha
  by_cases h1 : t.kind = 1
  · rw [appR_1 h1]
    have hl := lookup6_ok b t.num
    cases hlk : lookB b t.num with
    | none =>
      rw [hlk] at hl
      have hl : Fun Try.prog 33 [.sl .no (b.map Bnd.av), .int .i64 t.num] (.tup [.agg [.int .i64 0, .int .i64 0, .str ⟨⟨[]⟩⟩, .sl .no []], .bool false]) := hl
      refine Fun.of (op_constraintref06_Apply (by simp) ?_) rfl rfl
      conv => whnf
      conv => whnf
      repeat' ((first | (refine gF ?_; refine CallN.fn (hl) ?_) | (refine gC ?_; first | refine cN ?_ | (refine gD ?_; refine cI ?_))) <;> conv => whnf)
      conv => whnf
      repeat' (refine RetP.nrm ?_ <;> conv => whnf)
      rfl
    | some x =>
      rw [hlk] at hl
      have hl : Fun Try.prog 33 [.sl .no (b.map Bnd.av), .int .i64 t.num] (.tup [.agg [.int .i64 x.kind, .int .i64 x.num, .str x.name, .sl .no (x.args.map Tm.av)], .bool true]) := hl
      refine Fun.of (op_constraintref06_Apply (by simp) ?_) rfl rfl
      conv => whnf
      conv => whnf
      repeat' ((first | (refine gF ?_; refine CallN.fn (hl) ?_) | (refine gC ?_; first | refine cY ?_ | (refine gD ?_; refine cI ?_))) <;> conv => whnf)
      conv => whnf
      repeat' (refine RetP.nrm ?_ <;> conv => whnf)
      rfl
  · by_cases h2 : t.kind = 2
    · rw [appR_2 h2]
      have hl := applyTerms_of (by omega) fun x hx => ih x hx (by have := nodes_mem hx; omega)
      refine Fun.of (op_constraintref06_Apply (by simp) ?_) rfl rfl
      conv => whnf
      conv => whnf
      repeat' ((first | (refine gF ?_; refine CallN.fn (hl) ?_) | (refine gC ?_; (refine gD ?_; first | refine cI ?_ | refine cJ ?_))) <;> conv => whnf)
      conv => whnf
      repeat' (refine RetP.nrm ?_ <;> conv => whnf)
      rfl
    · rw [appR_3 h1 h2]
      refine Fun.of (op_constraintref06_Apply (by simp) ?_) rfl rfl
      conv => whnf
      conv => whnf
      repeat' ((refine gC ?_; (refine gD ?_; refine cJ ?_)) <;> conv => whnf)
      conv => whnf
      repeat' (refine RetP.nrm ?_ <;> conv => whnf)
      rfl
mutual
theorem sz_nodes : ∀ t : Tm, t.sz ≤ t.nodes
  | .mk k n s l => by
    have := szs_nodes l
    simp only [Tm.sz, Tm.nodes]; split <;> omega
theorem szs_nodes : ∀ l : List Tm, Tm.szs l ≤ Tm.nodess l
  | [] => Nat.le_refl _
  | t :: r => by
    have := sz_nodes t; have := szs_nodes r
    simp only [Tm.szs, Tm.nodess]; omega
end
mutual
theorem dep_nodes : ∀ t : Tm, t.dep ≤ t.nodes
  | .mk k n s l => by
    have := deps_nodes l
    simp only [Tm.dep, Tm.nodes]; split <;> omega
theorem deps_nodes : ∀ l : List Tm, Tm.deps l ≤ Tm.nodess l
  | [] => Nat.le_refl _
  | t :: r => by
    have := dep_nodes t; have := deps_nodes r
    simp only [Tm.deps, Tm.nodess]; omega
end
set_option maxRecDepth 100000 in
theorem size3_ok (t : Tm) : t.nodes ≤ 1000000 → Fun Try.prog 36 [t.avw] (.int .i64 (t.sz : Int)) := by
  induction t using Tm.ind_all with
  | h k i s l ih =>
  intro hN
  generalize ha : Tm.mk k i s l = t at hN ⊢
  replace ih : ∀ x ∈ t.args, x.nodes ≤ 1000000 → Fun Try.prog 36 [x.avw] (.int .i64 (x.sz : Int)) := by subst ha; exact ih
  have hnl : Tm.nodess t.args + 1 ≤ t.nodes := by subst ha; simp only [Tm.nodes, Tm.args]; omega
  clear ha
  have hsz : t.sz = 1 + Tm.szs t.use := by
    unfold Tm.use
    by_cases h2 : t.kind = 2
    · rw [if_pos h2, sz_fun h2]
    · rw [if_neg h2, sz_leaf h2]; rfl
  have huse : ∀ x ∈ t.use, x ∈ t.args := fun x hx => by unfold Tm.use at hx; split at hx; exact hx; cases hx
  have hul : Tm.nodess t.use ≤ Tm.nodess t.args := by unfold Tm.use; split; exact Nat.le_refl _; exact Nat.zero_le _
  have hlen := nodess_len t.use
  have hszn := szs_nodes t.use
  rw [hsz]
  refine Fun.of (op_constraintref03_Size (by simp) ?_) rfl rfl
  conv => whnf
  conv => whnf
  repeat' ((refine gF ?_; refine CallN.fn (refArgs_ok) ?_) <;> conv => whnf)
  refine LoopP.by (fb := true) (fun _ (j : Nat) => ⟨[(3, .int .i64 ((1 + Tm.szs (t.use.take j) : Nat) : Int)), (4, .sl .no (t.use.map Tm.av)), (5, .int .i64 (j : Int))], [], 0⟩) (fun j => j ≤ t.use.length) (fun j => t.use.length - j) 0 (Nat.zero_le _) ?_ ?_
  · rw [List.take_zero]
    refine EndN.lay [] (by repeat' (first | exact rfl | exact atB_row plainN _ _ | exact atB_row plainPr _ _ | exact atB_row plainTmA _ _ | refine okO_cons ?_ ?_ | refine okO_none ?_ | refine allB_cons ?_ ?_)) ?_
    conv => whnf
    refine EndN.at_ ?_ rfl
    conv => whnf
    refine And.intro ?_ ?_ <;> conv => whnf
    all_goals repeat' ((first | (refine gV ?_; first | refine vE ?_ | refine vI ?_ | (refine WkN.norm ?_ ?_; (focus (simp [AV.norm, AV.norm1, Tm.szs, Tm.deps]; done)))) | exact True.intro) <;> conv => whnf)
  · rintro j q1
    by_cases hj : j < t.use.length
    · obtain ⟨x, hx⟩ : ∃ x, t.use[j]? = some x := ⟨_, List.getElem?_eq_getElem hj⟩
      have htk : t.use.take (j + 1) = t.use.take j ++ [x] := by rw [List.take_add_one, hx]; rfl
      have hst := szs_take t.use hx
      have hm := nodes_mem (List.mem_of_getElem? hx)
      have hcall := ih x (huse x (List.mem_of_getElem? hx)) (by omega)
      conv => whnf
      repeat' ((first | (refine gF ?_; refine CallN.fn (hcall) ?_) | (refine gC ?_; (refine gD ?_; refine cI ?_)) | (refine gW ?_; refine wI ?_) | (refine gL ?_; refine .map ?_) | (refine gI ?_; (refine gT ?_; refine iA ?_))) <;> conv => whnf)
      refine ⟨j + 1, ⟨hj, by omega⟩, ?_⟩
      rw [htk, szs_snoc]
      refine EndN.at_ ?_ rfl
      conv => whnf
      refine And.intro ?_ ?_ <;> conv => whnf
      all_goals repeat' ((first | (refine gV ?_; first | refine vE ?_ | refine vI ?_) | exact True.intro) <;> conv => whnf)
    · obtain rfl : j = t.use.length := by omega
      rw [List.take_of_length_le (Nat.le_refl _)]
      conv => whnf
      repeat' ((first | (refine gC ?_; (refine gD ?_; refine cJ ?_)) | (refine gL ?_; refine .map ?_) | refine RetP.nrm ?_) <;> conv => whnf)
set_option maxRecDepth 100000 in
theorem depth3_ok (t : Tm) : t.nodes ≤ 1000000 → Fun Try.prog 37 [t.avw] (.int .i64 (t.dep : Int)) := by
  induction t using Tm.ind_all with
  | h k i s l ih =>
  intro hN
  generalize ha : Tm.mk k i s l = t at hN ⊢
  replace ih : ∀ x ∈ t.args, x.nodes ≤ 1000000 → Fun Try.prog 37 [x.avw] (.int .i64 (x.dep : Int)) := by subst ha; exact ih
  have hnl : Tm.nodess t.args + 1 ≤ t.nodes := by subst ha; simp only [Tm.nodes, Tm.args]; omega
  clear ha
  have hsz : t.dep = Tm.deps t.use + 1 := by
    unfold Tm.use
    by_cases h2 : t.kind = 2
    · rw [if_pos h2, dep_fun h2]
    · rw [if_neg h2, dep_leaf h2]; rfl
  have huse : ∀ x ∈ t.use, x ∈ t.args := fun x hx => by unfold Tm.use at hx; split at hx; exact hx; cases hx
  have hul : Tm.nodess t.use ≤ Tm.nodess t.args := by unfold Tm.use; split; exact Nat.le_refl _; exact Nat.zero_le _
  have hlen := nodess_len t.use
  have hdn : Tm.deps t.use ≤ Tm.nodess t.use := deps_nodes t.use
  rw [hsz]
  refine Fun.of (op_constraintref03_Depth (by simp) ?_) rfl rfl
  conv => whnf
  conv => whnf
  repeat' ((refine gF ?_; refine CallN.fn (refArgs_ok) ?_) <;> conv => whnf)
  refine LoopP.by (fb := true) (fun _ (j : Nat) => ⟨[(3, .int .i64 ((Tm.deps (t.use.take j) : Nat) : Int)), (4, .sl .no (t.use.map Tm.av)), (5, .int .i64 (j : Int))], [], 0⟩) (fun j => j ≤ t.use.length) (fun j => t.use.length - j) 0 (Nat.zero_le _) ?_ ?_
  · rw [List.take_zero]
    refine EndN.lay [] (by repeat' (first | exact rfl | exact atB_row plainN _ _ | exact atB_row plainPr _ _ | exact atB_row plainTmA _ _ | refine okO_cons ?_ ?_ | refine okO_none ?_ | refine allB_cons ?_ ?_)) ?_
    conv => whnf
    refine EndN.at_ ?_ rfl
    conv => whnf
    refine And.intro ?_ ?_ <;> conv => whnf
    all_goals repeat' ((first | (refine gV ?_; first | refine vE ?_ | refine vI ?_ | (refine WkN.norm ?_ ?_; (focus (simp [AV.norm, AV.norm1, Tm.szs, Tm.deps]; done)))) | exact True.intro) <;> conv => whnf)
  · rintro j q1
    by_cases hj : j < t.use.length
    · obtain ⟨x, hx⟩ : ∃ x, t.use[j]? = some x := ⟨_, List.getElem?_eq_getElem hj⟩
      have htk : t.use.take (j + 1) = t.use.take j ++ [x] := by rw [List.take_add_one, hx]; rfl
      have hm := nodes_mem (List.mem_of_getElem? hx)
      have hcall := ih x (huse x (List.mem_of_getElem? hx)) (by omega)
      conv => whnf
      repeat' ((first | (refine gF ?_; refine CallN.fn (hcall) ?_) | (refine gC ?_; (refine gD ?_; refine cI ?_)) | (refine gW ?_; refine wI ?_) | (refine gL ?_; refine .map ?_) | (refine gI ?_; (refine gT ?_; refine iA ?_))) <;> conv => whnf)
      refine ⟨j + 1, ⟨hj, by omega⟩, ?_⟩
      rw [htk, deps_snoc]
      refine EndN.at_ ?_ rfl
      conv => whnf
      refine And.intro ?_ ?_ <;> conv => whnf
      all_goals repeat' ((first | (refine gV ?_; first | refine vE ?_ | refine vI ?_) | exact True.intro) <;> conv => whnf)
    · obtain rfl : j = t.use.length := by omega
      rw [List.take_of_length_le (Nat.le_refl _)]
      conv => whnf
      repeat' ((first | (refine gC ?_; (refine gD ?_; refine cJ ?_)) | (refine gW ?_; refine wI ?_) | (refine gL ?_; refine .map ?_) | refine RetP.nrm ?_) <;> conv => whnf)
      rfl
theorem forms_false {l : List Tm} {x : Tm} (h : x ∈ l) (hf : x.form = false) : Tm.forms l = false := by
  rw [Bool.eq_false_iff]
  intro e
  rw [forms_mem e h] at hf; cases hf
set_option maxHeartbeats 1000000 in
set_option maxRecDepth 100000 in
theorem form3_ok (t : Tm) : Fun Try.prog 35 [t.avw] (.bool t.form) := by
  induction t using Tm.ind_all with
  | h k i s l ih =>
  generalize ha : Tm.mk k i s l = t
  replace ih : ∀ x ∈ t.args, Fun Try.prog 35 [x.avw] (.bool x.form) := by subst ha; exact ih
  clear ha
  refine Fun.assume rfl fun hg0 => ?_
  have hg := (good_tm (hg0 t.avw (by simp))).2.1
  by_cases hk2 : t.kind = 2
  · rw [form_2 hk2]
    have hoo := oper2_ok t.name
    have hro := right2_ok t.name
    by_cases h3 : t.num = 0
    rotate_left
    · rw [decide_eq_false (fun e => h3 e.1), Bool.false_and]
      cases hop : operB t.name <;> rw [hop] at hoo
      all_goals
        refine Fun.of (op_constraintref03_form (by simp) ?_) rfl rfl
        conv => whnf
        conv => whnf
        repeat' ((first | (refine gF ?_; refine CallN.fn (hoo) ?_) | (refine gC ?_; first | refine cY ?_ | refine cN ?_ | refine .not ?_ | (refine gD ?_; first | refine cI ?_ | refine cJ ?_)) | (refine gL ?_; refine .map ?_) | refine RetP.nrm ?_) <;> conv => whnf)
        try rfl
    by_cases h6 : t.args.length ≤ 6
    · rw [decide_eq_true (show t.num = 0 ∧ t.args.length ≤ 6 from ⟨h3, h6⟩), Bool.true_and]
      by_cases hol : operB t.name = true ∧ t.args.length = 2
      · obtain ⟨hop, h2⟩ := hol
        rw [hop, decide_eq_true h2, Bool.true_and, Bool.or_true, Bool.true_and]
        rw [hop] at hoo
        refine Fun.of (op_constraintref03_form (by simp) ?_) rfl rfl
        conv => whnf
        conv => whnf
        repeat' ((first | (refine gF ?_; refine CallN.fn (hoo) ?_) | (refine gC ?_; first | refine cY ?_ | refine cN ?_ | refine .not ?_ | (refine gD ?_; first | refine cI ?_ | refine cJ ?_)) | (refine gL ?_; refine .map ?_)) <;> conv => whnf)
        refine LoopP.by (fb := true) (fun _ (j : Nat) => ⟨[(1, .ptr 0 0), (4, .int .i64 (j : Int))], [.cells [.int .i64 t.kind, .int .i64 t.num, .str t.name, .sl .no (t.args.map Tm.av)]], 0⟩) (fun j => j ≤ t.args.length ∧ Tm.forms (t.args.take j) = true) (fun j => t.args.length - j) 0 ⟨Nat.zero_le _, rfl⟩ ?_ ?_
        · refine EndN.at_ ?_ rfl
          conv => whnf
          refine And.intro ?_ ?_ <;> conv => whnf
          all_goals repeat' ((first | (refine gV ?_; first | refine vE ?_ | refine vI ?_) | (refine gX ?_; refine xB ?_) | exact True.intro) <;> conv => whnf)
        · rintro j ⟨q1, q2⟩
          by_cases hj : j < t.args.length
          · obtain ⟨x, hx⟩ : ∃ x, t.args[j]? = some x := ⟨_, List.getElem?_eq_getElem hj⟩
            have htk : t.args.take (j + 1) = t.args.take j ++ [x] := by rw [List.take_add_one, hx]; rfl
            have hcall := ih x (List.mem_of_getElem? hx)
            cases hxf : x.form with
            | false =>
              rw [hxf] at hcall
              conv => whnf
              repeat' ((first | (refine gF ?_; refine CallN.fn (hcall) ?_) | (refine gC ?_; first | refine cN ?_ | refine .not ?_ | (refine gD ?_; refine cI ?_)) | (refine gL ?_; refine .map ?_) | (refine gI ?_; (refine gT ?_; refine iA ?_)) | refine RetP.nrm ?_) <;> conv => whnf)
              exact congrArg AV.bool (forms_false (List.mem_of_getElem? hx) hxf).symm
            | true =>
              rw [hxf] at hcall
              conv => whnf
              repeat' ((first | (refine gF ?_; refine CallN.fn (hcall) ?_) | (refine gC ?_; first | refine cY ?_ | refine .not ?_ | (refine gD ?_; refine cI ?_)) | (refine gW ?_; refine wI ?_) | (refine gL ?_; refine .map ?_) | (refine gI ?_; (refine gT ?_; refine iA ?_))) <;> conv => whnf)
              refine ⟨j + 1, ⟨⟨hj, by rw [htk, forms_snoc, q2, hxf]; rfl⟩, by omega⟩, ?_⟩
              refine EndN.at_ ?_ rfl
              conv => whnf
              refine And.intro ?_ ?_ <;> conv => whnf
              all_goals repeat' ((first | (refine gV ?_; first | refine vE ?_ | refine vI ?_) | (refine gX ?_; refine xB ?_) | exact True.intro) <;> conv => whnf)
          · obtain rfl : j = t.args.length := by omega
            rw [List.take_of_length_le (Nat.le_refl _)] at q2
            conv => whnf
            repeat' ((first | (refine gC ?_; (refine gD ?_; refine cJ ?_)) | (refine gL ?_; refine .map ?_) | refine RetP.nrm ?_) <;> conv => whnf)
            exact congrArg AV.bool q2.symm
      · have hob : (operB t.name && decide (t.args.length = 2)) = false := by
          rw [Bool.eq_false_iff]; intro e
          rw [Bool.and_eq_true, decide_eq_true_eq] at e; exact hol e
        rw [hob, Bool.or_false]
        cases hnr : nameR t.name with
        | false =>
          rw [hnr] at hro
          rw [Bool.false_and]
          cases hop : operB t.name with
          | false =>
            rw [hop] at hoo
            refine Fun.of (op_constraintref03_form (by simp) ?_) rfl rfl
            conv => whnf
            conv => whnf
            repeat' ((first | (refine gF ?_; first | refine CallN.fn (hoo) ?_ | refine CallN.fn (hro) ?_) | (refine gC ?_; first | refine cY ?_ | refine cN ?_ | refine .not ?_ | (refine gD ?_; first | refine cI ?_ | refine cJ ?_)) | refine RetP.nrm ?_) <;> conv => whnf)
          | true =>
            rw [hop] at hoo
            have h2 : ¬ t.args.length = 2 := fun e => hol ⟨hop, e⟩
            refine Fun.of (op_constraintref03_form (by simp) ?_) rfl rfl
            conv => whnf
            conv => whnf
            repeat' ((first | (refine gF ?_; first | refine CallN.fn (hoo) ?_ | refine CallN.fn (hro) ?_) | (refine gC ?_; first | refine cY ?_ | refine cN ?_ | refine .not ?_ | (refine gD ?_; first | refine cI ?_ | refine cJ ?_)) | (refine gL ?_; refine .map ?_) | refine RetP.nrm ?_) <;> conv => whnf)
        | true =>
          rw [hnr] at hro
          rw [Bool.true_and]
          cases hop : operB t.name with
          | false =>
            rw [hop] at hoo
            refine Fun.of (op_constraintref03_form (by simp) ?_) rfl rfl
            conv => whnf
            conv => whnf
            repeat' ((first | (refine gF ?_; first | refine CallN.fn (hoo) ?_ | refine CallN.fn (hro) ?_) | (refine gC ?_; first | refine cY ?_ | refine cN ?_ | refine .not ?_ | (refine gD ?_; first | refine cI ?_ | refine cJ ?_)) | (refine gL ?_; refine .map ?_)) <;> conv => whnf)
            refine LoopP.by (fb := true) (fun _ (j : Nat) => ⟨[(1, .ptr 0 0), (4, .int .i64 (j : Int))], [.cells [.int .i64 t.kind, .int .i64 t.num, .str t.name, .sl .no (t.args.map Tm.av)]], 0⟩) (fun j => j ≤ t.args.length ∧ Tm.forms (t.args.take j) = true) (fun j => t.args.length - j) 0 ⟨Nat.zero_le _, rfl⟩ ?_ ?_
            · refine EndN.at_ ?_ rfl
              conv => whnf
              refine And.intro ?_ ?_ <;> conv => whnf
              all_goals repeat' ((first | (refine gV ?_; first | refine vE ?_ | refine vI ?_) | (refine gX ?_; refine xB ?_) | exact True.intro) <;> conv => whnf)
            · rintro j ⟨q1, q2⟩
              by_cases hj : j < t.args.length
              · obtain ⟨x, hx⟩ : ∃ x, t.args[j]? = some x := ⟨_, List.getElem?_eq_getElem hj⟩
                have htk : t.args.take (j + 1) = t.args.take j ++ [x] := by rw [List.take_add_one, hx]; rfl
                have hcall := ih x (List.mem_of_getElem? hx)
                cases hxf : x.form with
                | false =>
                  rw [hxf] at hcall
                  conv => whnf
                  repeat' ((first | (refine gF ?_; refine CallN.fn (hcall) ?_) | (refine gC ?_; first | refine cN ?_ | refine .not ?_ | (refine gD ?_; refine cI ?_)) | (refine gL ?_; refine .map ?_) | (refine gI ?_; (refine gT ?_; refine iA ?_)) | refine RetP.nrm ?_) <;> conv => whnf)
                  exact congrArg AV.bool (forms_false (List.mem_of_getElem? hx) hxf).symm
                | true =>
                  rw [hxf] at hcall
                  conv => whnf
                  repeat' ((first | (refine gF ?_; refine CallN.fn (hcall) ?_) | (refine gC ?_; first | refine cY ?_ | refine .not ?_ | (refine gD ?_; refine cI ?_)) | (refine gW ?_; refine wI ?_) | (refine gL ?_; refine .map ?_) | (refine gI ?_; (refine gT ?_; refine iA ?_))) <;> conv => whnf)
                  refine ⟨j + 1, ⟨⟨hj, by rw [htk, forms_snoc, q2, hxf]; rfl⟩, by omega⟩, ?_⟩
                  refine EndN.at_ ?_ rfl
                  conv => whnf
                  refine And.intro ?_ ?_ <;> conv => whnf
                  all_goals repeat' ((first | (refine gV ?_; first | refine vE ?_ | refine vI ?_) | (refine gX ?_; refine xB ?_) | exact True.intro) <;> conv => whnf)
              · obtain rfl : j = t.args.length := by omega
                rw [List.take_of_length_le (Nat.le_refl _)] at q2
                conv => whnf
                repeat' ((first | (refine gC ?_; (refine gD ?_; refine cJ ?_)) | (refine gL ?_; refine .map ?_) | refine RetP.nrm ?_) <;> conv => whnf)
                exact congrArg AV.bool q2.symm
          | true =>
            rw [hop] at hoo
            have h2 : ¬ t.args.length = 2 := fun e => hol ⟨hop, e⟩
            refine Fun.of (op_constraintref03_form (by simp) ?_) rfl rfl
            conv => whnf
            conv => whnf
            repeat' ((first | (refine gF ?_; first | refine CallN.fn (hoo) ?_ | refine CallN.fn (hro) ?_) | (refine gC ?_; first | refine cY ?_ | refine .not ?_ | (refine gD ?_; first | refine cI ?_ | refine cJ ?_)) | (refine gL ?_; refine .map ?_)) <;> conv => whnf)
            refine LoopP.by (fb := true) (fun _ (j : Nat) => ⟨[(1, .ptr 0 0), (4, .int .i64 (j : Int))], [.cells [.int .i64 t.kind, .int .i64 t.num, .str t.name, .sl .no (t.args.map Tm.av)]], 0⟩) (fun j => j ≤ t.args.length ∧ Tm.forms (t.args.take j) = true) (fun j => t.args.length - j) 0 ⟨Nat.zero_le _, rfl⟩ ?_ ?_
            · refine EndN.at_ ?_ rfl
              conv => whnf
              refine And.intro ?_ ?_ <;> conv => whnf
              all_goals repeat' ((first | (refine gV ?_; first | refine vE ?_ | refine vI ?_) | (refine gX ?_; refine xB ?_) | exact True.intro) <;> conv => whnf)
            · rintro j ⟨q1, q2⟩
              by_cases hj : j < t.args.length
              · obtain ⟨x, hx⟩ : ∃ x, t.args[j]? = some x := ⟨_, List.getElem?_eq_getElem hj⟩
                have htk : t.args.take (j + 1) = t.args.take j ++ [x] := by rw [List.take_add_one, hx]; rfl
                have hcall := ih x (List.mem_of_getElem? hx)
                cases hxf : x.form with
                | false =>
                  rw [hxf] at hcall
                  conv => whnf
                  repeat' ((first | (refine gF ?_; refine CallN.fn (hcall) ?_) | (refine gC ?_; first | refine cN ?_ | refine .not ?_ | (refine gD ?_; refine cI ?_)) | (refine gL ?_; refine .map ?_) | (refine gI ?_; (refine gT ?_; refine iA ?_)) | refine RetP.nrm ?_) <;> conv => whnf)
                  exact congrArg AV.bool (forms_false (List.mem_of_getElem? hx) hxf).symm
                | true =>
                  rw [hxf] at hcall
                  conv => whnf
                  repeat' ((first | (refine gF ?_; refine CallN.fn (hcall) ?_) | (refine gC ?_; first | refine cY ?_ | refine .not ?_ | (refine gD ?_; refine cI ?_)) | (refine gW ?_; refine wI ?_) | (refine gL ?_; refine .map ?_) | (refine gI ?_; (refine gT ?_; refine iA ?_))) <;> conv => whnf)
                  refine ⟨j + 1, ⟨⟨hj, by rw [htk, forms_snoc, q2, hxf]; rfl⟩, by omega⟩, ?_⟩
                  refine EndN.at_ ?_ rfl
                  conv => whnf
                  refine And.intro ?_ ?_ <;> conv => whnf
                  all_goals repeat' ((first | (refine gV ?_; first | refine vE ?_ | refine vI ?_) | (refine gX ?_; refine xB ?_) | exact True.intro) <;> conv => whnf)
              · obtain rfl : j = t.args.length := by omega
                rw [List.take_of_length_le (Nat.le_refl _)] at q2
                conv => whnf
                repeat' ((first | (refine gC ?_; (refine gD ?_; refine cJ ?_)) | (refine gL ?_; refine .map ?_) | refine RetP.nrm ?_) <;> conv => whnf)
                exact congrArg AV.bool q2.symm
    · rw [decide_eq_false (fun e => h6 e.2), Bool.false_and]
      have h2 : ¬ t.args.length = 2 := by omega
      cases hnr : nameR t.name <;> rw [hnr] at hro <;> cases hop : operB t.name <;> rw [hop] at hoo
      all_goals
        refine Fun.of (op_constraintref03_form (by simp) ?_) rfl rfl
        conv => whnf
        conv => whnf
        repeat' ((first | (refine gF ?_; first | refine CallN.fn (hoo) ?_ | refine CallN.fn (hro) ?_) | (refine gC ?_; first | refine cY ?_ | refine cN ?_ | refine .not ?_ | (refine gD ?_; first | refine cI ?_ | refine cJ ?_)) | (refine gL ?_; refine .map ?_) | refine RetP.nrm ?_) <;> conv => whnf)
        try rfl
  · by_cases hk0 : t.kind = 0
    · rw [form_0 hk0]
      refine Fun.of (op_constraintref03_form (by simp) ?_) rfl rfl
      conv => whnf
      conv => whnf
      repeat' ((first | (refine gC ?_; first | refine cN ?_ | (refine gD ?_; first | refine cI ?_ | refine cJ ?_) | refine CondN.le (fun hc => ?_) (fun hc => ?_) | refine CondN.dec (fun hc => ?_) (fun hc => ?_)) | (refine gL ?_; refine .map ?_) | refine RetP.nrm ?_) <;> conv => whnf)
      all_goals
        refine congrArg AV.bool ?_
        symm
        first
          | (rw [decide_eq_decide]; exact ⟨fun h => by omega, fun h => ⟨by omega, by omega, by assumption, by omega⟩⟩)
          | (rw [decide_eq_decide]; exact ⟨fun ⟨_, _, _, h⟩ => by omega, fun h => ⟨by omega, by omega, by assumption, by omega⟩⟩)
          | (rw [decide_eq_false_iff_not]; rintro ⟨e1, e2, e3, e4⟩; first | omega | contradiction)
          | (rw [decide_eq_true_iff]; exact ⟨by omega, by omega, by assumption, by omega⟩)
    · by_cases hk1 : t.kind = 1
      · rw [form_1 hk1]
        refine Fun.of (op_constraintref03_form (by simp) ?_) rfl rfl
        conv => whnf
        conv => whnf
        repeat' ((first | (refine gC ?_; first | refine cN ?_ | (refine gD ?_; first | refine cI ?_ | refine cJ ?_) | refine CondN.le (fun hc => ?_) (fun hc => ?_) | refine CondN.dec (fun hc => ?_) (fun hc => ?_)) | (refine gL ?_; refine .map ?_) | refine RetP.nrm ?_) <;> conv => whnf)
        all_goals
          refine congrArg AV.bool ?_
          symm
          first
            | (rw [decide_eq_decide]; exact ⟨fun h => by omega, fun h => ⟨by omega, by omega, by assumption, by omega⟩⟩)
            | (rw [decide_eq_decide]; exact ⟨fun ⟨_, _, _, h⟩ => by omega, fun h => ⟨by omega, by omega, by assumption, by omega⟩⟩)
            | (rw [decide_eq_false_iff_not]; rintro ⟨e1, e2, e3, e4⟩; first | omega | contradiction)
            | (rw [decide_eq_true_iff]; exact ⟨by omega, by omega, by assumption, by omega⟩)
      · rw [form_3 hk0 hk1 hk2]
        refine Fun.of (op_constraintref03_form (by simp) ?_) rfl rfl
        conv => whnf
        conv => whnf
        repeat' ((first | (refine gC ?_; (refine gD ?_; refine cJ ?_)) | refine RetP.nrm ?_) <;> conv => whnf)
theorem right3_ok (t : Tm) (hN : t.nodes ≤ 1000000) : Fun Try.prog 21 [t.avw] (.bool t.right) := by
  have h1 := form3_ok t
  have h2 := size3_ok t hN
  have h3 := depth3_ok t hN
  have he : t.right = (t.form && (decide ((t.sz : Int) ≤ 200) && decide ((t.dep : Int) ≤ 20))) := by
    unfold Tm.right vB; rw [Bool.decide_and]
  rw [he]
  cases hf : t.form <;> rw [hf] at h1
  all_goals
    refine Fun.of (op_constraintref03_Right (by simp) ?_) rfl rfl
    conv => whnf
    conv => whnf
    repeat' ((first | (refine gF ?_; first | refine CallN.fn (h1) ?_ | refine CallN.fn (h2) ?_ | refine CallN.fn (h3) ?_) | (refine gC ?_; first | refine cY ?_ | refine cN ?_ | (refine gD ?_; first | refine cI ?_ | refine cJ ?_) | refine CondN.le (fun hc => ?_) (fun hc => ?_)) | refine RetP.nrm ?_) <;> conv => whnf)
    all_goals (first | rfl | (refine congrArg AV.bool ?_; first | (simp [*]; done) | (simp [*]; omega)))
end Go.CK

namespace Go.CK
open Go.AM Go.Proofs
def sameB : List Bnd → List Bnd → Bool
  | [], [] => true
  | x :: l, y :: m => decide (x.v = y.v) && (decide (x.t.cmp y.t = 0) && sameB l m)
  | _, _ => false
theorem sameB_len : ∀ {l m : List Bnd}, ¬ l.length = m.length → sameB l m = false
  | [], [], h => absurd rfl h
  | [], _ :: _, _ => rfl
  | _ :: _, [], _ => rfl
  | x :: l, y :: m, h => by
    have := sameB_len (l := l) (m := m) (by simpa using h)
    simp only [sameB, this, Bool.and_false]
theorem sameB_refl : ∀ l : List Bnd, sameB l l = true
  | [] => rfl
  | x :: l => by simp only [sameB, Tm.cmp_refl, sameB_refl l, decide_true, Bool.and_self]
set_option maxRecDepth 100000 in
theorem same6_ok (l m : List Bnd) : Fun Try.prog 12 [.sl .no (l.map Bnd.av), .sl .no (m.map Bnd.av)] (.bool (sameB l m)) := by
  refine Fun.of (Sem.assume fun hg0 _ => ?_) rfl rfl
  have hg := (good_sla (hg0 (.sl .no (l.map Bnd.av)) (by simp) rfl)).1
  by_cases hlm : l.length = m.length
  rotate_left
  · rw [sameB_len hlm]
    refine op_constraintref06_Same (by simp) ?_
    conv => whnf
    repeat' ((first | (refine gC ?_; first | refine .not ?_ | (refine gD ?_; refine cJ ?_)) | (refine gL ?_; refine .map ?_) | refine RetP.nrm ?_) <;> conv => whnf)
  refine op_constraintref06_Same (by simp) ?_
  conv => whnf
  repeat' ((first | (refine gC ?_; first | refine .not ?_ | (refine gD ?_; refine cI ?_)) | (refine gL ?_; refine .map ?_)) <;> conv => whnf)
  refine LoopP.by (fb := true) (fun _ (j : Nat) => ⟨[(0, .sl .no (l.map Bnd.av)), (1, .sl .no (m.map Bnd.av)), (5, .int .i64 (j : Int))], [], 0⟩) (fun j => j ≤ l.length ∧ sameB (l.drop j) (m.drop j) = sameB l m) (fun j => l.length - j) 0 ⟨Nat.zero_le _, rfl⟩ ?_ ?_
  · refine EndN.at_ ?_ rfl
    conv => whnf
    refine And.intro ?_ ?_ <;> conv => whnf
    all_goals repeat' ((first | (refine gV ?_; first | refine vE ?_ | refine vI ?_) | exact True.intro) <;> conv => whnf)
  · rintro j ⟨q1, q2⟩
    by_cases hj : j < l.length
    · obtain ⟨x, hx⟩ : ∃ x, l[j]? = some x := ⟨_, List.getElem?_eq_getElem hj⟩
      obtain ⟨y, hy⟩ : ∃ x, m[j]? = some x := ⟨_, List.getElem?_eq_getElem (by omega)⟩
      rw [List.drop_eq_getElem_cons hj, (List.getElem?_eq_some_iff.1 hx).2, List.drop_eq_getElem_cons (l := m) (i := j) (by omega), (List.getElem?_eq_some_iff.1 hy).2, sameB] at q2
      have hs := same3_ok x.t y.t
      by_cases hv : x.v = y.v
      · by_cases hc : x.t.cmp y.t = 0
        · rw [decide_eq_true hv, decide_eq_true hc, Bool.true_and, Bool.true_and] at q2
          rw [decide_eq_true hc] at hs
          conv => whnf
          repeat' ((first | (refine gG ?_; refine CallP.fn (hs) ?_) | (refine gC ?_; first | refine cY ?_ | refine .not ?_ | (refine gD ?_; refine cI ?_)) | (refine gW ?_; refine wI ?_) | (refine gL ?_; refine .map ?_) | (refine gI ?_; (refine gM ?_; refine iE ?_))) <;> conv => whnf)
          refine ⟨j + 1, ⟨⟨hj, q2⟩, by omega⟩, ?_⟩
          refine EndN.at_ ?_ rfl
          conv => whnf
          refine And.intro ?_ ?_ <;> conv => whnf
          all_goals repeat' ((first | (refine gV ?_; first | refine vE ?_ | refine vI ?_) | exact True.intro) <;> conv => whnf)
        · rw [decide_eq_false hc, Bool.false_and, Bool.and_false] at q2
          rw [decide_eq_false hc] at hs
          rw [← q2]
          conv => whnf
          repeat' ((first | (refine gG ?_; refine CallP.fn (hs) ?_) | (refine gC ?_; first | refine cN ?_ | refine .not ?_ | (refine gD ?_; refine cI ?_)) | (refine gL ?_; refine .map ?_) | (refine gI ?_; (refine gM ?_; refine iE ?_)) | refine RetP.nrm ?_) <;> conv => whnf)
      · rw [decide_eq_false hv, Bool.false_and] at q2
        rw [← q2]
        conv => whnf
        repeat' ((first | (refine gC ?_; first | refine cY ?_ | refine .not ?_ | (refine gD ?_; first | refine cI ?_ | refine cJ ?_)) | (refine gL ?_; refine .map ?_) | (refine gI ?_; (refine gM ?_; refine iE ?_)) | refine RetP.nrm ?_) <;> conv => whnf)
    · obtain rfl : j = l.length := by omega
      rw [List.drop_length, List.drop_of_length_le (by omega), sameB] at q2
      rw [← q2]
      conv => whnf
      repeat' ((first | (refine gC ?_; first | refine cN ?_ | (refine gD ?_; refine cJ ?_)) | (refine gL ?_; refine .map ?_) | refine RetP.nrm ?_) <;> conv => whnf)
theorem addV_len' (l : List Int) (n : Int) : (addV l n).length ≤ l.length + 1 := by unfold addV; split <;> simp
theorem addVs_len' : ∀ (m l : List Int), (addVs l m).length ≤ l.length + m.length
  | [], l => by simp [addVs]
  | n :: m, l => by
    have h1 := addVs_len' m (addV l n)
    have h2 := addV_len' l n
    show (addVs (addV l n) m).length ≤ _
    rw [List.length_cons]; omega
theorem firsts_len (l : List Int) : (firsts l).length ≤ l.length := by
  have := addVs_len' l []
  unfold firsts; simpa using this
/-- no variable of a term is bound -/
def freeB (b : List Bnd) (t : Tm) : Bool := (firsts t.vs).all fun v => (lookB b v).isNone
set_option maxHeartbeats 1000000 in
set_option maxRecDepth 100000 in
theorem apart6_ok (b : List Bnd) (hb : ∀ x ∈ b, x.t.vs.length ≤ 100000) : Fun Try.prog 31 [.sl .no (b.map Bnd.av)] (.bool (b.all fun x => freeB b x.t)) := by
  refine Fun.of (Sem.assume fun hg0 _ => ?_) rfl rfl
  have hg := (good_sla (hg0 (.sl .no (b.map Bnd.av)) (by simp) rfl)).1
  refine op_constraintref06_apart (by simp) ?_
  conv => whnf
  skip
  refine LoopP.by (fb := true) (fun _ (j : Nat) => ⟨[(0, .sl .no (b.map Bnd.av)), (3, .int .i64 (j : Int))], [], 0⟩) (fun j => j ≤ b.length ∧ ((b.drop j).all fun x => freeB b x.t) = b.all fun x => freeB b x.t) (fun j => b.length - j) 0 ⟨Nat.zero_le _, rfl⟩ ?_ ?_
  · refine EndN.at_ ?_ rfl
    conv => whnf
    refine And.intro ?_ ?_ <;> conv => whnf
    all_goals repeat' ((first | (refine gV ?_; first | refine vE ?_ | refine vI ?_) | exact True.intro) <;> conv => whnf)
  · rintro j ⟨q1, q2⟩
    by_cases hj : j < b.length
    · obtain ⟨x, hx⟩ : ∃ x, b[j]? = some x := ⟨_, List.getElem?_eq_getElem hj⟩
      rw [List.drop_eq_getElem_cons hj, (List.getElem?_eq_some_iff.1 hx).2, List.all_cons] at q2
      have hv := refVars_ok (hb x (List.mem_of_getElem? hx))
      obtain ⟨L, hL⟩ : ∃ L, L = firsts x.t.vs := ⟨_, rfl⟩
      have hLl : L.length ≤ 100000 := by rw [hL]; exact Nat.le_trans (firsts_len _) (hb x (List.mem_of_getElem? hx))
      rw [← hL] at hv
      have hfr : freeB b x.t = L.all fun v => (lookB b v).isNone := by rw [hL]; rfl
      conv => whnf
      repeat' ((first | (refine gF ?_; refine CallN.fn (hv) ?_) | (refine gC ?_; (refine gD ?_; refine cI ?_)) | (refine gL ?_; refine .map ?_) | (refine gI ?_; (refine gM ?_; refine iE ?_))) <;> conv => whnf)
      refine LoopP.by (fb := true) (fun _ (i : Nat) => ⟨[(0, .sl .no (b.map Bnd.av)), (3, .int .i64 (j : Int)), (4, .sl .no (L.map intA)), (5, .int .i64 (i : Int))], [], 0⟩) (fun i => i ≤ L.length ∧ ((L.drop i).all fun v => (lookB b v).isNone) = freeB b x.t) (fun i => L.length - i) 0 ⟨Nat.zero_le _, hfr.symm⟩ ?_ ?_
      · refine EndN.at_ ?_ rfl
        conv => whnf
        refine And.intro ?_ ?_ <;> conv => whnf
        all_goals repeat' ((first | (refine gV ?_; first | refine vE ?_ | refine vI ?_) | exact True.intro) <;> conv => whnf)
      · rintro i ⟨r1, r2⟩
        by_cases hi : i < L.length
        · obtain ⟨v, hv2⟩ : ∃ v, L[i]? = some v := ⟨_, List.getElem?_eq_getElem hi⟩
          rw [List.drop_eq_getElem_cons hi, (List.getElem?_eq_some_iff.1 hv2).2, List.all_cons] at r2
          have hl := lookup6_ok b v
          cases hlk : lookB b v with
          | none =>
            rw [hlk] at hl
            have hl : Fun Try.prog 33 [.sl .no (b.map Bnd.av), .int .i64 v] (.tup [.agg [.int .i64 0, .int .i64 0, .str ⟨⟨[]⟩⟩, .sl .no []], .bool false]) := hl
            rw [hlk, Option.isNone_none, Bool.true_and] at r2
            conv => whnf
            repeat' ((first | (refine gF ?_; refine CallN.fn (hl) ?_) | (refine gC ?_; first | refine cN ?_ | (refine gD ?_; refine cI ?_)) | (refine gW ?_; refine wI ?_) | (refine gL ?_; refine .map ?_) | (refine gI ?_; (refine gM ?_; refine iE ?_))) <;> conv => whnf)
            refine ⟨i + 1, ⟨⟨hi, r2⟩, by omega⟩, ?_⟩
            refine EndN.lay [] (by repeat' (first | exact rfl | exact atB_row plainN _ _ | exact atB_row plainPr _ _ | exact atB_row plainTmA _ _ | refine okO_cons ?_ ?_ | refine okO_none ?_ | refine allB_cons ?_ ?_)) ?_
            conv => whnf
            refine EndN.at_ ?_ rfl
            conv => whnf
            refine And.intro ?_ ?_ <;> conv => whnf
            all_goals repeat' ((first | (refine gV ?_; first | refine vE ?_ | refine vI ?_) | exact True.intro) <;> conv => whnf)
          | some y =>
            rw [hlk] at hl
            have hl : Fun Try.prog 33 [.sl .no (b.map Bnd.av), .int .i64 v] (.tup [.agg [.int .i64 y.kind, .int .i64 y.num, .str y.name, .sl .no (y.args.map Tm.av)], .bool true]) := hl
            rw [hlk, Option.isNone_some, Bool.false_and] at r2
            rw [← r2, Bool.false_and] at q2
            rw [← q2]
            conv => whnf
            repeat' ((first | (refine gF ?_; refine CallN.fn (hl) ?_) | (refine gC ?_; first | refine cY ?_ | (refine gD ?_; refine cI ?_)) | (refine gL ?_; refine .map ?_) | (refine gI ?_; (refine gM ?_; refine iE ?_)) | refine RetP.nrm ?_) <;> conv => whnf)
        · obtain rfl : i = L.length := by omega
          rw [List.drop_length, List.all_nil] at r2
          rw [← r2, Bool.true_and] at q2
          conv => whnf
          repeat' ((first | (refine gC ?_; (refine gD ?_; refine cJ ?_)) | (refine gW ?_; refine wI ?_) | (refine gL ?_; refine .map ?_)) <;> conv => whnf)
          refine ⟨j + 1, ⟨⟨hj, q2⟩, by omega⟩, ?_⟩
          refine EndN.at_ ?_ rfl
          conv => whnf
          refine And.intro ?_ ?_ <;> conv => whnf
          all_goals repeat' ((first | (refine gV ?_; first | refine vE ?_ | refine vI ?_) | exact True.intro) <;> conv => whnf)
    · obtain rfl : j = b.length := by omega
      rw [List.drop_length, List.all_nil] at q2
      rw [← q2]
      conv => whnf
      repeat' ((first | (refine gC ?_; (refine gD ?_; refine cJ ?_)) | (refine gL ?_; refine .map ?_) | refine RetP.nrm ?_) <;> conv => whnf)
def prevOk : Option Int → Int → Bool
  | none, _ => true
  | some p, v => decide (p < v)
def ascR : Option Int → List Bnd → Bool
  | _, [] => true
  | p, x :: l => decide (0 ≤ x.v ∧ x.v ≤ 1048576) && (prevOk p x.v && (x.t.right && ascR (some x.v) l))
/-- a valid substitution -/
def rightB (b : List Bnd) : Bool := ascR none b && b.all fun x => freeB b x.t
def prevAt (b : List Bnd) (j : Nat) : Option Int := match j with
  | 0 => none
  | j + 1 => (b[j]?).map (·.v)
set_option maxHeartbeats 1000000 in
set_option maxRecDepth 100000 in
theorem right6_ok (b : List Bnd) (hb : ∀ x ∈ b, x.t.nodes ≤ 1000000 ∧ x.t.vs.length ≤ 100000) : Fun Try.prog 18 [.sl .no (b.map Bnd.av)] (.bool (rightB b)) := by
  refine Fun.of (Sem.assume fun hg0 _ => ?_) rfl rfl
  have hg := (good_sla (hg0 (.sl .no (b.map Bnd.av)) (by simp) rfl)).1
  have hap := apart6_ok b fun x hx => (hb x hx).2
  refine op_constraintref06_Right (by simp) ?_
  conv => whnf
  skip
  refine LoopP.by (fb := true) (fun _ (j : Nat) => ⟨[(0, .sl .no (b.map Bnd.av)), (3, .int .i64 (j : Int))], [], 0⟩) (fun j => j ≤ b.length ∧ ascR (prevAt b j) (b.drop j) = ascR none b) (fun j => b.length - j) 0 ⟨Nat.zero_le _, rfl⟩ ?_ ?_
  · refine EndN.at_ ?_ rfl
    conv => whnf
    refine And.intro ?_ ?_ <;> conv => whnf
    all_goals repeat' ((first | (refine gV ?_; first | refine vE ?_ | refine vI ?_) | exact True.intro) <;> conv => whnf)
  · rintro j ⟨q1, q2⟩
    by_cases hj : j < b.length
    · obtain ⟨x, hx⟩ : ∃ x, b[j]? = some x := ⟨_, List.getElem?_eq_getElem hj⟩
      rw [List.drop_eq_getElem_cons hj, (List.getElem?_eq_some_iff.1 hx).2, ascR] at q2
      have hnext : prevAt b (j + 1) = some x.v := by simp only [prevAt, hx, Option.map_some]
      have hr := right3_ok x.t (hb x (List.mem_of_getElem? hx)).1
      have hfalse : ∀ {z : Bool}, z = ascR none b → z = false → false = rightB b := fun h1 h2 => by unfold rightB; rw [← h1, h2]; rfl
      by_cases h1 : 0 ≤ x.v ∧ x.v ≤ 1048576
      rotate_left
      · rw [decide_eq_false h1, Bool.false_and] at q2
        have hq := hfalse q2 rfl
        rw [← hq]
        by_cases h2 : 0 ≤ x.v
        · have h3 : ¬ x.v ≤ 1048576 := fun e => h1 ⟨h2, e⟩
          conv => whnf
          repeat' ((first | (refine gC ?_; first | refine cY ?_ | (refine gD ?_; first | refine cI ?_ | refine cJ ?_)) | (refine gL ?_; refine .map ?_) | (refine gI ?_; (refine gM ?_; refine iE ?_)) | refine RetP.nrm ?_) <;> conv => whnf)
        · conv => whnf
          repeat' ((first | (refine gC ?_; first | refine cY ?_ | (refine gD ?_; refine cI ?_)) | (refine gL ?_; refine .map ?_) | (refine gI ?_; (refine gM ?_; refine iE ?_)) | refine RetP.nrm ?_) <;> conv => whnf)
      rw [decide_eq_true h1, Bool.true_and] at q2
      obtain ⟨h2, h3⟩ := h1
      cases j with
      | zero =>
        simp only [prevAt, prevOk, Bool.true_and] at q2
        cases hxr : x.t.right with
        | false =>
          rw [hxr] at hr q2
          have hq := hfalse q2 rfl
          rw [← hq]
          conv => whnf
          repeat' ((first | (refine gG ?_; refine CallP.fn (hr) ?_) | (refine gC ?_; first | refine cN ?_ | refine .not ?_ | (refine gD ?_; first | refine cI ?_ | refine cJ ?_)) | (refine gL ?_; refine .map ?_) | (refine gI ?_; (refine gM ?_; refine iE ?_)) | refine RetP.nrm ?_) <;> conv => whnf)
        | true =>
          rw [hxr, Bool.true_and] at q2
          rw [hxr] at hr
          conv => whnf
          repeat' ((first | (refine gG ?_; refine CallP.fn (hr) ?_) | (refine gC ?_; first | refine cY ?_ | refine cN ?_ | refine .not ?_ | (refine gD ?_; first | refine cI ?_ | refine cJ ?_)) | (refine gW ?_; refine wI ?_) | (refine gL ?_; refine .map ?_) | (refine gI ?_; (refine gM ?_; refine iE ?_))) <;> conv => whnf)
          refine ⟨0 + 1, ⟨⟨hj, by rw [hnext]; exact q2⟩, by omega⟩, ?_⟩
          refine EndN.at_ ?_ rfl
          conv => whnf
          refine And.intro ?_ ?_ <;> conv => whnf
          all_goals repeat' ((first | (refine gV ?_; first | refine vE ?_ | refine vI ?_) | exact True.intro) <;> conv => whnf)
      | succ j =>
        obtain ⟨y, hy⟩ : ∃ y, b[j]? = some y := ⟨_, List.getElem?_eq_getElem (by omega)⟩
        have hy2 : b[((((j + 1 : Nat) : Int)) - 1).toNat]? = some y := by rw [show ((((j + 1 : Nat) : Int)) - 1).toNat = j by omega]; exact hy
        simp only [prevAt, hy, Option.map_some, prevOk] at q2
        by_cases h4 : y.v < x.v
        rotate_left
        · rw [decide_eq_false h4, Bool.false_and] at q2
          have hq := hfalse q2 rfl
          rw [← hq]
          conv => whnf
          repeat' ((first | (refine gC ?_; first | refine cY ?_ | (refine gD ?_; first | refine cI ?_ | refine cJ ?_)) | (refine gW ?_; refine wI ?_) | (refine gL ?_; refine .map ?_) | (refine gI ?_; (refine gM ?_; first | refine iE ?_ | refine iF ?_)) | refine RetP.nrm ?_) <;> conv => whnf)
        · rw [decide_eq_true h4, Bool.true_and] at q2
          cases hxr : x.t.right with
          | false =>
            rw [hxr] at hr q2
            have hq := hfalse q2 rfl
            rw [← hq]
            conv => whnf
            repeat' ((first | (refine gG ?_; refine CallP.fn (hr) ?_) | (refine gC ?_; first | refine cN ?_ | refine .not ?_ | (refine gD ?_; first | refine cI ?_ | refine cJ ?_)) | (refine gW ?_; refine wI ?_) | (refine gL ?_; refine .map ?_) | (refine gI ?_; (refine gM ?_; first | refine iE ?_ | refine iF ?_)) | refine RetP.nrm ?_) <;> conv => whnf)
          | true =>
            rw [hxr, Bool.true_and] at q2
            rw [hxr] at hr
            conv => whnf
            repeat' ((first | (refine gG ?_; refine CallP.fn (hr) ?_) | (refine gC ?_; first | refine cY ?_ | refine .not ?_ | (refine gD ?_; first | refine cI ?_ | refine cJ ?_)) | (refine gW ?_; refine wI ?_) | (refine gL ?_; refine .map ?_) | (refine gI ?_; (refine gM ?_; first | refine iE ?_ | refine iF ?_))) <;> conv => whnf)
            refine ⟨j + 1 + 1, ⟨⟨hj, by rw [hnext]; exact q2⟩, by omega⟩, ?_⟩
            refine EndN.at_ ?_ rfl
            conv => whnf
            refine And.intro ?_ ?_ <;> conv => whnf
            all_goals repeat' ((first | (refine gV ?_; first | refine vE ?_ | refine vI ?_) | exact True.intro) <;> conv => whnf)
    · obtain rfl : j = b.length := by omega
      rw [List.drop_length, ascR] at q2
      have he : rightB b = b.all fun x => freeB b x.t := by unfold rightB; rw [← q2, Bool.true_and]
      rw [he]
      conv => whnf
      repeat' ((first | (refine gF ?_; refine CallN.fn (hap) ?_) | (refine gC ?_; (refine gD ?_; refine cJ ?_)) | (refine gL ?_; refine .map ?_) | refine RetP.nrm ?_) <;> conv => whnf)
end Go.CK

namespace Go.CK
open Go.AM Go.Proofs
def insI (x : Int) : List Int → List Int
  | [] => [x]
  | y :: l => if x ≤ y then x :: y :: l else y :: insI x l
def isort : List Int → List Int
  | [] => []
  | x :: l => insI x (isort l)
theorem insI_perm (x : Int) : ∀ l : List Int, (insI x l).Perm (x :: l)
  | [] => .refl _
  | y :: l => by
    unfold insI; split
    · exact .refl _
    · exact ((insI_perm x l).cons y).trans (.swap x y l)
theorem insI_le (x : Int) : ∀ l : List Int, l.Pairwise (· ≤ ·) → (insI x l).Pairwise (· ≤ ·)
  | [], _ => List.pairwise_singleton ..
  | y :: l, h => by
    rw [List.pairwise_cons] at h
    unfold insI; split
    · rename_i hxy
      rw [List.pairwise_cons]
      refine ⟨fun z hz => ?_, List.pairwise_cons.2 h⟩
      rcases List.mem_cons.1 hz with rfl | hz
      · exact hxy
      · have := h.1 z hz; omega
    · rename_i hxy
      rw [List.pairwise_cons]
      refine ⟨fun z hz => ?_, insI_le x l h.2⟩
      rcases List.mem_cons.1 ((insI_perm x l).mem_iff.1 hz) with rfl | hz
      · omega
      · exact h.1 z hz
theorem isort_perm : ∀ l : List Int, (isort l).Perm l
  | [] => .refl _
  | x :: l => (insI_perm x _).trans ((isort_perm l).cons x)
theorem isort_le : ∀ l : List Int, (isort l).Pairwise (· ≤ ·)
  | [] => .nil
  | x :: l => insI_le x _ (isort_le l)
theorem sortL_isort (l : List Int) : sortL l = isort l :=
  List.Perm.eq_of_pairwise (fun a b _ _ h1 h2 => by omega) (sortL_le l) (isort_le l) ((sortL_perm l).trans (isort_perm l).symm)
def solvedI (N f : Nat) (g : Gr) : Option (List Bnd × Int) := match roundM N f (List.range g.nodes.length) g with
  | none => none
  | some (_, false) => some ([], 13)
  | some (g2, true) => match roundS N f (isort (g2.vars.map (·.1))) g2 [] with
    | none => none
    | some (_, none) => some ([], 6)
    | some (_, some out) => some (out, 0)
def allI (N f : Nat) (a b : List Tm) : Option (List Bnd × Int) :=
  if (a.all Tm.right && b.all Tm.right) = true then
    if a.length = b.length then match runF N f gr0 (a.zip b) with
      | none => none
      | some (_, false) => some ([], 13)
      | some (g, true) => solvedI N f g
    else some ([], 9)
  else some ([], 2)
theorem allF_I (N f : Nat) (a b : List Tm) : allF N f a b = allI N f a b := by
  have : solvedF N f = solvedI N f := by
    funext g; unfold solvedF solvedI
    simp only [sortL_isort]
    rfl
  unfold allF allI; rw [this]; rfl
def gTerm : Tm := .mk 2 0 ⟨⟨[103]⟩⟩ [varT 0]
def fTerm (a b : Tm) : Tm := .mk 2 0 ⟨⟨[102]⟩⟩ [a, b]
theorem ex1 : allI 10 100 [fTerm (varT 2) (varT 1)] [fTerm (varT 1) gTerm] = some ([⟨1, gTerm⟩, ⟨2, gTerm⟩], 0) := by kernel_rfl
theorem ex2 : allI 10 100 [varT 3, varT 3] [varT 1, varT 2] = some ([⟨2, varT 1⟩, ⟨3, varT 1⟩], 0) := by kernel_rfl
theorem ex3 : allI 10 100 [varT 0] [gTerm] = some ([], 13) := by kernel_rfl
theorem ex4 : allI 10 100 [varT 0] [varT 1] = some ([⟨1, varT 0⟩], 0) := by kernel_rfl
theorem v7_ok (n : Int) : Fun Try.prog 22 [.int .i64 n] (varT n).avw := by
  refine Fun.of (op_constraintlaw07_v (by simp) ?_) rfl rfl
  conv => whnf
  conv => whnf
  repeat' (refine RetP.nrm ?_ <;> conv => whnf)
  exact rfl
set_option maxRecDepth 100000 in
theorem f7_ok (a b : Tm) : Fun Try.prog 24 [a.avw, b.avw] (fTerm a b).avw := by
  refine Fun.of (op_constraintlaw07_f (by simp) ?_) rfl rfl
  conv => whnf
  conv => whnf
  repeat' (refine RetP.nrm ?_ <;> conv => whnf)
  simp only [fTerm, Tm.avw, Tm.kind, Tm.num, Tm.name, Tm.args, List.map_cons, List.map_nil, Tm.av_w]
set_option maxHeartbeats 4000000 in
set_option maxRecDepth 100000 in
theorem awake_ok : Fun Try.prog 9 [] (.bool true) := by
  have u1 := Unify_ok ((allF_I _ _ _ _).trans ex1) (by decide)
  have u2 := all_ok ((allF_I _ _ _ _).trans ex2) (by decide)
  have u3 := Unify_ok ((allF_I _ _ _ _).trans ex3) (by decide)
  have u4 := Unifiable_ok ((allF_I _ _ _ _).trans ex4) (by decide)
  have u5 := Unifiable_ok ((allF_I _ _ _ _).trans ex3) (by decide)
  rw [show unifiableB 0 = true from rfl] at u4
  rw [show unifiableB 13 = false from rfl] at u5
  have s1 := same6_ok [⟨1, gTerm⟩, ⟨2, gTerm⟩] [⟨1, gTerm⟩, ⟨2, gTerm⟩]
  have s2 := same6_ok [⟨2, varT 1⟩, ⟨3, varT 1⟩] [⟨2, varT 1⟩, ⟨3, varT 1⟩]
  rw [sameB_refl] at s1 s2
  have f1 := f7_ok (varT 2) (varT 1)
  have f2 := f7_ok (varT 1) gTerm
  refine Fun.of (op_constraintlaw07_awake (by simp) ?_) rfl rfl
  conv => whnf
  conv => whnf
  repeat' ((first | (refine gF ?_; first | refine CallN.fn (v7_ok _) ?_ | refine CallN.fn (u2) ?_) | (refine gG ?_; first | refine CallP.fn (v7_ok _) ?_ | refine CallP.fn (f1) ?_ | refine CallP.fn (f2) ?_ | refine CallP.fn (u1) ?_ | refine CallP.fn (u3) ?_ | refine CallP.fn (u4) ?_ | refine CallP.fn (u5) ?_ | refine CallP.fn (s1) ?_ | refine CallP.fn (s2) ?_) | (refine gC ?_; first | refine cY ?_ | (refine gD ?_; refine cI ?_)) | refine RetP.nrm ?_) <;> conv => whnf)
  rfl
end Go.CK

