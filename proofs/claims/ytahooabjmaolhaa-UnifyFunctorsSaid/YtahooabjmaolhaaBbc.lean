/-
  Texts of this claim joined (wip/gen/bundle.py), those declarations only that are needed: UnT UnU UnW UlI UlJ UnX FunC Read RdUni. By an AI agent.
-/
import Derived.Test.YtahooabjmaolhaaBaz
import Derived.Test.YtahooabjmaolhaaBau
import Derived.Test.YtahooabjmaolhaaBbb
import Derived.KernelRfl
import Derived.Test.YtahooabjmaolhaaBaq
import Derived.Test.YtahooabjmaolhaaRows
import Derived.Test.YtahooabjmaolhaaBaa
import Derived.ProofKit
import Derived.OpenShut
import Derived.ShutString
import Derived.ChangeOld
import Derived.JoinedCond
import Derived.Deep.Slices
import Derived.Lib.SmallJoins
set_option linter.unusedSimpArgs false
set_option linter.unusedVariables false
namespace Go.CK
open Go.AM Go.Proofs
theorem same3_ok (a b : Tm) : Fun Try.prog 19 [a.avw, b.avw] (.bool (decide (a.cmp b = 0))) := by
  refine Fun.of (op_constraintref03_Same (by simp) ?_) rfl rfl
  conv => whnf
  conv => whnf
  repeat' ((first | (refine gF ?_; refine CallN.fn (refCompare_ok a b) ?_) | refine RetP.nrm ?_) <;> conv => whnf)
mutual
theorem sz_nodes : ∀ t : Tm, t.sz ≤ t.nodes
  | .mk k n s l => by
    have := szs_nodes l
    simp only [Tm.sz, Tm.nodes]; split <;> omega
theorem szs_nodes : ∀ l : List Tm, Tm.szs l ≤ Tm.nodess l
  | [] => Nat.le_refl _
  | t :: r => by
    have := sz_nodes t; have := szs_nodes r
    simp only [Tm.szs, Tm.nodess]; omega
end
mutual
theorem dep_nodes : ∀ t : Tm, t.dep ≤ t.nodes
  | .mk k n s l => by
    have := deps_nodes l
    simp only [Tm.dep, Tm.nodes]; split <;> omega
theorem deps_nodes : ∀ l : List Tm, Tm.deps l ≤ Tm.nodess l
  | [] => Nat.le_refl _
  | t :: r => by
    have := dep_nodes t; have := deps_nodes r
    simp only [Tm.deps, Tm.nodess]; omega
end
set_option maxRecDepth 100000 in
theorem size3_ok (t : Tm) : t.nodes ≤ 1000000 → Fun Try.prog 36 [t.avw] (.int .i64 (t.sz : Int)) := by
  induction t using Tm.ind_all with
  | h k i s l ih =>
  intro hN
  generalize ha : Tm.mk k i s l = t at hN ⊢
  replace ih : ∀ x ∈ t.args, x.nodes ≤ 1000000 → Fun Try.prog 36 [x.avw] (.int .i64 (x.sz : Int)) := by subst ha; exact ih
  have hnl : Tm.nodess t.args + 1 ≤ t.nodes := by subst ha; simp only [Tm.nodes, Tm.args]; omega
  clear ha
  have hsz : t.sz = 1 + Tm.szs t.use := by
    unfold Tm.use
    by_cases h2 : t.kind = 2
    · rw [if_pos h2, sz_fun h2]
    · rw [if_neg h2, sz_leaf h2]; rfl
  have huse : ∀ x ∈ t.use, x ∈ t.args := fun x hx => by unfold Tm.use at hx; split at hx; exact hx; cases hx
  have hul : Tm.nodess t.use ≤ Tm.nodess t.args := by unfold Tm.use; split; exact Nat.le_refl _; exact Nat.zero_le _
  have hlen := nodess_len t.use
  have hszn := szs_nodes t.use
  rw [hsz]
  refine Fun.of (op_constraintref03_Size (by simp) ?_) rfl rfl
  conv => whnf
  conv => whnf
  repeat' ((refine gF ?_; refine CallN.fn (refArgs_ok) ?_) <;> conv => whnf)
  refine LoopP.by (fb := true) (fun _ (j : Nat) => ⟨[(3, .int .i64 ((1 + Tm.szs (t.use.take j) : Nat) : Int)), (4, .sl .no (t.use.map Tm.av)), (5, .int .i64 (j : Int))], [], 0⟩) (fun j => j ≤ t.use.length) (fun j => t.use.length - j) 0 (Nat.zero_le _) ?_ ?_
  · rw [List.take_zero]
    refine EndN.lay [] (by repeat' (first | exact rfl | exact atB_row plainN _ _ | exact atB_row plainPr _ _ | exact atB_row plainTmA _ _ | refine okO_cons ?_ ?_ | refine okO_none ?_ | refine allB_cons ?_ ?_)) ?_
    conv => whnf
    refine EndN.at_ ?_ rfl
    conv => whnf
    refine And.intro ?_ ?_ <;> conv => whnf
    all_goals repeat' ((first | (refine gV ?_; first | refine vE ?_ | refine vI ?_ | (refine WkN.norm ?_ ?_; (focus (simp [AV.norm, AV.norm1, Tm.szs, Tm.deps]; done)))) | exact True.intro) <;> conv => whnf)
  · rintro j q1
    by_cases hj : j < t.use.length
    · obtain ⟨x, hx⟩ : ∃ x, t.use[j]? = some x := ⟨_, List.getElem?_eq_getElem hj⟩
      have htk : t.use.take (j + 1) = t.use.take j ++ [x] := by rw [List.take_add_one, hx]; rfl
      have hst := szs_take t.use hx
      have hm := nodes_mem (List.mem_of_getElem? hx)
      have hcall := ih x (huse x (List.mem_of_getElem? hx)) (by omega)
      conv => whnf
      repeat' ((first | (refine gF ?_; refine CallN.fn (hcall) ?_) | (refine gC ?_; (refine gD ?_; refine cI ?_)) | (refine gW ?_; refine wI ?_) | (refine gL ?_; refine .map ?_) | (refine gI ?_; (refine gT ?_; refine iA ?_))) <;> conv => whnf)
      refine ⟨j + 1, ⟨hj, by omega⟩, ?_⟩
      rw [htk, szs_snoc]
      refine EndN.at_ ?_ rfl
      conv => whnf
      refine And.intro ?_ ?_ <;> conv => whnf
      all_goals repeat' ((first | (refine gV ?_; first | refine vE ?_ | refine vI ?_) | exact True.intro) <;> conv => whnf)
    · obtain rfl : j = t.use.length := by omega
      rw [List.take_of_length_le (Nat.le_refl _)]
      conv => whnf
      repeat' ((first | (refine gC ?_; (refine gD ?_; refine cJ ?_)) | (refine gL ?_; refine .map ?_) | refine RetP.nrm ?_) <;> conv => whnf)
set_option maxRecDepth 100000 in
theorem depth3_ok (t : Tm) : t.nodes ≤ 1000000 → Fun Try.prog 37 [t.avw] (.int .i64 (t.dep : Int)) := by
  induction t using Tm.ind_all with
  | h k i s l ih =>
  intro hN
  generalize ha : Tm.mk k i s l = t at hN ⊢
  replace ih : ∀ x ∈ t.args, x.nodes ≤ 1000000 → Fun Try.prog 37 [x.avw] (.int .i64 (x.dep : Int)) := by subst ha; exact ih
  have hnl : Tm.nodess t.args + 1 ≤ t.nodes := by subst ha; simp only [Tm.nodes, Tm.args]; omega
  clear ha
  have hsz : t.dep = Tm.deps t.use + 1 := by
    unfold Tm.use
    by_cases h2 : t.kind = 2
    · rw [if_pos h2, dep_fun h2]
    · rw [if_neg h2, dep_leaf h2]; rfl
  have huse : ∀ x ∈ t.use, x ∈ t.args := fun x hx => by unfold Tm.use at hx; split at hx; exact hx; cases hx
  have hul : Tm.nodess t.use ≤ Tm.nodess t.args := by unfold Tm.use; split; exact Nat.le_refl _; exact Nat.zero_le _
  have hlen := nodess_len t.use
  have hdn : Tm.deps t.use ≤ Tm.nodess t.use := deps_nodes t.use
  rw [hsz]
  refine Fun.of (op_constraintref03_Depth (by simp) ?_) rfl rfl
  conv => whnf
  conv => whnf
  repeat' ((refine gF ?_; refine CallN.fn (refArgs_ok) ?_) <;> conv => whnf)
  refine LoopP.by (fb := true) (fun _ (j : Nat) => ⟨[(3, .int .i64 ((Tm.deps (t.use.take j) : Nat) : Int)), (4, .sl .no (t.use.map Tm.av)), (5, .int .i64 (j : Int))], [], 0⟩) (fun j => j ≤ t.use.length) (fun j => t.use.length - j) 0 (Nat.zero_le _) ?_ ?_
  · rw [List.take_zero]
    refine EndN.lay [] (by repeat' (first | exact rfl | exact atB_row plainN _ _ | exact atB_row plainPr _ _ | exact atB_row plainTmA _ _ | refine okO_cons ?_ ?_ | refine okO_none ?_ | refine allB_cons ?_ ?_)) ?_
    conv => whnf
    refine EndN.at_ ?_ rfl
    conv => whnf
    refine And.intro ?_ ?_ <;> conv => whnf
    all_goals repeat' ((first | (refine gV ?_; first | refine vE ?_ | refine vI ?_ | (refine WkN.norm ?_ ?_; (focus (simp [AV.norm, AV.norm1, Tm.szs, Tm.deps]; done)))) | exact True.intro) <;> conv => whnf)
  · rintro j q1
    by_cases hj : j < t.use.length
    · obtain ⟨x, hx⟩ : ∃ x, t.use[j]? = some x := ⟨_, List.getElem?_eq_getElem hj⟩
      have htk : t.use.take (j + 1) = t.use.take j ++ [x] := by rw [List.take_add_one, hx]; rfl
      have hm := nodes_mem (List.mem_of_getElem? hx)
      have hcall := ih x (huse x (List.mem_of_getElem? hx)) (by omega)
      conv => whnf
      repeat' ((first | (refine gF ?_; refine CallN.fn (hcall) ?_) | (refine gC ?_; (refine gD ?_; refine cI ?_)) | (refine gW ?_; refine wI ?_) | (refine gL ?_; refine .map ?_) | (refine gI ?_; (refine gT ?_; refine iA ?_))) <;> conv => whnf)
      refine ⟨j + 1, ⟨hj, by omega⟩, ?_⟩
      rw [htk, deps_snoc]
      refine EndN.at_ ?_ rfl
      conv => whnf
      refine And.intro ?_ ?_ <;> conv => whnf
      all_goals repeat' ((first | (refine gV ?_; first | refine vE ?_ | refine vI ?_) | exact True.intro) <;> conv => whnf)
    · obtain rfl : j = t.use.length := by omega
      rw [List.take_of_length_le (Nat.le_refl _)]
      conv => whnf
      repeat' ((first | (refine gC ?_; (refine gD ?_; refine cJ ?_)) | (refine gW ?_; refine wI ?_) | (refine gL ?_; refine .map ?_) | refine RetP.nrm ?_) <;> conv => whnf)
      rfl
theorem forms_false {l : List Tm} {x : Tm} (h : x ∈ l) (hf : x.form = false) : Tm.forms l = false := by
  rw [Bool.eq_false_iff]
  intro e
  rw [forms_mem e h] at hf; cases hf
set_option maxHeartbeats 1000000 in
set_option maxRecDepth 100000 in
theorem form3_ok (t : Tm) : Fun Try.prog 35 [t.avw] (.bool t.form) := by
  induction t using Tm.ind_all with
  | h k i s l ih =>
  generalize ha : Tm.mk k i s l = t
  replace ih : ∀ x ∈ t.args, Fun Try.prog 35 [x.avw] (.bool x.form) := by subst ha; exact ih
  clear ha
  refine Fun.assume rfl fun hg0 => ?_
  have hg := (good_tm (hg0 t.avw (by simp))).2.1
  by_cases hk2 : t.kind = 2
  · rw [form_2 hk2]
    have hoo := oper2_ok t.name
    have hro := right2_ok t.name
    by_cases h3 : t.num = 0
    rotate_left
    · rw [decide_eq_false (fun e => h3 e.1), Bool.false_and]
      cases hop : operB t.name <;> rw [hop] at hoo
      all_goals
        refine Fun.of (op_constraintref03_form (by simp) ?_) rfl rfl
        conv => whnf
        conv => whnf
        repeat' ((first | (refine gF ?_; refine CallN.fn (hoo) ?_) | (refine gC ?_; first | refine cY ?_ | refine cN ?_ | refine .not ?_ | (refine gD ?_; first | refine cI ?_ | refine cJ ?_)) | (refine gL ?_; refine .map ?_) | refine RetP.nrm ?_) <;> conv => whnf)
        try rfl
    by_cases h6 : t.args.length ≤ 6
    · rw [decide_eq_true (show t.num = 0 ∧ t.args.length ≤ 6 from ⟨h3, h6⟩), Bool.true_and]
      by_cases hol : operB t.name = true ∧ t.args.length = 2
      · obtain ⟨hop, h2⟩ := hol
        rw [hop, decide_eq_true h2, Bool.true_and, Bool.or_true, Bool.true_and]
        rw [hop] at hoo
        refine Fun.of (op_constraintref03_form (by simp) ?_) rfl rfl
        conv => whnf
        conv => whnf
        repeat' ((first | (refine gF ?_; refine CallN.fn (hoo) ?_) | (refine gC ?_; first | refine cY ?_ | refine cN ?_ | refine .not ?_ | (refine gD ?_; first | refine cI ?_ | refine cJ ?_)) | (refine gL ?_; refine .map ?_)) <;> conv => whnf)
        refine LoopP.by (fb := true) (fun _ (j : Nat) => ⟨[(1, .ptr 0 0), (4, .int .i64 (j : Int))], [.cells [.int .i64 t.kind, .int .i64 t.num, .str t.name, .sl .no (t.args.map Tm.av)]], 0⟩) (fun j => j ≤ t.args.length ∧ Tm.forms (t.args.take j) = true) (fun j => t.args.length - j) 0 ⟨Nat.zero_le _, rfl⟩ ?_ ?_
        · refine EndN.at_ ?_ rfl
          conv => whnf
          refine And.intro ?_ ?_ <;> conv => whnf
          all_goals repeat' ((first | (refine gV ?_; first | refine vE ?_ | refine vI ?_) | (refine gX ?_; refine xB ?_) | exact True.intro) <;> conv => whnf)
        · rintro j ⟨q1, q2⟩
          by_cases hj : j < t.args.length
          · obtain ⟨x, hx⟩ : ∃ x, t.args[j]? = some x := ⟨_, List.getElem?_eq_getElem hj⟩
            have htk : t.args.take (j + 1) = t.args.take j ++ [x] := by rw [List.take_add_one, hx]; rfl
            have hcall := ih x (List.mem_of_getElem? hx)
            cases hxf : x.form with
            | false =>
              rw [hxf] at hcall
              conv => whnf
              repeat' ((first | (refine gF ?_; refine CallN.fn (hcall) ?_) | (refine gC ?_; first | refine cN ?_ | refine .not ?_ | (refine gD ?_; refine cI ?_)) | (refine gL ?_; refine .map ?_) | (refine gI ?_; (refine gT ?_; refine iA ?_)) | refine RetP.nrm ?_) <;> conv => whnf)
              exact congrArg AV.bool (forms_false (List.mem_of_getElem? hx) hxf).symm
            | true =>
              rw [hxf] at hcall
              conv => whnf
              repeat' ((first | (refine gF ?_; refine CallN.fn (hcall) ?_) | (refine gC ?_; first | refine cY ?_ | refine .not ?_ | (refine gD ?_; refine cI ?_)) | (refine gW ?_; refine wI ?_) | (refine gL ?_; refine .map ?_) | (refine gI ?_; (refine gT ?_; refine iA ?_))) <;> conv => whnf)
              refine ⟨j + 1, ⟨⟨hj, by rw [htk, forms_snoc, q2, hxf]; rfl⟩, by omega⟩, ?_⟩
              refine EndN.at_ ?_ rfl
              conv => whnf
              refine And.intro ?_ ?_ <;> conv => whnf
              all_goals repeat' ((first | (refine gV ?_; first | refine vE ?_ | refine vI ?_) | (refine gX ?_; refine xB ?_) | exact True.intro) <;> conv => whnf)
          · obtain rfl : j = t.args.length := by omega
            rw [List.take_of_length_le (Nat.le_refl _)] at q2
            conv => whnf
            repeat' ((first | (refine gC ?_; (refine gD ?_; refine cJ ?_)) | (refine gL ?_; refine .map ?_) | refine RetP.nrm ?_) <;> conv => whnf)
            exact congrArg AV.bool q2.symm
      · have hob : (operB t.name && decide (t.args.length = 2)) = false := by
          rw [Bool.eq_false_iff]; intro e
          rw [Bool.and_eq_true, decide_eq_true_eq] at e; exact hol e
        rw [hob, Bool.or_false]
        cases hnr : nameR t.name with
        | false =>
          rw [hnr] at hro
          rw [Bool.false_and]
          cases hop : operB t.name with
          | false =>
            rw [hop] at hoo
            refine Fun.of (op_constraintref03_form (by simp) ?_) rfl rfl
            conv => whnf
            conv => whnf
            repeat' ((first | (refine gF ?_; first | refine CallN.fn (hoo) ?_ | refine CallN.fn (hro) ?_) | (refine gC ?_; first | refine cY ?_ | refine cN ?_ | refine .not ?_ | (refine gD ?_; first | refine cI ?_ | refine cJ ?_)) | refine RetP.nrm ?_) <;> conv => whnf)
          | true =>
            rw [hop] at hoo
            have h2 : ¬ t.args.length = 2 := fun e => hol ⟨hop, e⟩
            refine Fun.of (op_constraintref03_form (by simp) ?_) rfl rfl
            conv => whnf
            conv => whnf
            repeat' ((first | (refine gF ?_; first | refine CallN.fn (hoo) ?_ | refine CallN.fn (hro) ?_) | (refine gC ?_; first | refine cY ?_ | refine cN ?_ | refine .not ?_ | (refine gD ?_; first | refine cI ?_ | refine cJ ?_)) | (refine gL ?_; refine .map ?_) | refine RetP.nrm ?_) <;> conv => whnf)
        | true =>
          rw [hnr] at hro
          rw [Bool.true_and]
          cases hop : operB t.name with
          | false =>
            rw [hop] at hoo
            refine Fun.of (op_constraintref03_form (by simp) ?_) rfl rfl
            conv => whnf
            conv => whnf
            repeat' ((first | (refine gF ?_; first | refine CallN.fn (hoo) ?_ | refine CallN.fn (hro) ?_) | (refine gC ?_; first | refine cY ?_ | refine cN ?_ | refine .not ?_ | (refine gD ?_; first | refine cI ?_ | refine cJ ?_)) | (refine gL ?_; refine .map ?_)) <;> conv => whnf)
            refine LoopP.by (fb := true) (fun _ (j : Nat) => ⟨[(1, .ptr 0 0), (4, .int .i64 (j : Int))], [.cells [.int .i64 t.kind, .int .i64 t.num, .str t.name, .sl .no (t.args.map Tm.av)]], 0⟩) (fun j => j ≤ t.args.length ∧ Tm.forms (t.args.take j) = true) (fun j => t.args.length - j) 0 ⟨Nat.zero_le _, rfl⟩ ?_ ?_
            · refine EndN.at_ ?_ rfl
              conv => whnf
              refine And.intro ?_ ?_ <;> conv => whnf
              all_goals repeat' ((first | (refine gV ?_; first | refine vE ?_ | refine vI ?_) | (refine gX ?_; refine xB ?_) | exact True.intro) <;> conv => whnf)
            · rintro j ⟨q1, q2⟩
              by_cases hj : j < t.args.length
              · obtain ⟨x, hx⟩ : ∃ x, t.args[j]? = some x := ⟨_, List.getElem?_eq_getElem hj⟩
                have htk : t.args.take (j + 1) = t.args.take j ++ [x] := by rw [List.take_add_one, hx]; rfl
                have hcall := ih x (List.mem_of_getElem? hx)
                cases hxf : x.form with
                | false =>
                  rw [hxf] at hcall
                  conv => whnf
                  repeat' ((first | (refine gF ?_; refine CallN.fn (hcall) ?_) | (refine gC ?_; first | refine cN ?_ | refine .not ?_ | (refine gD ?_; refine cI ?_)) | (refine gL ?_; refine .map ?_) | (refine gI ?_; (refine gT ?_; refine iA ?_)) | refine RetP.nrm ?_) <;> conv => whnf)
                  exact congrArg AV.bool (forms_false (List.mem_of_getElem? hx) hxf).symm
                | true =>
                  rw [hxf] at hcall
                  conv => whnf
                  repeat' ((first | (refine gF ?_; refine CallN.fn (hcall) ?_) | (refine gC ?_; first | refine cY ?_ | refine .not ?_ | (refine gD ?_; refine cI ?_)) | (refine gW ?_; refine wI ?_) | (refine gL ?_; refine .map ?_) | (refine gI ?_; (refine gT ?_; refine iA ?_))) <;> conv => whnf)
                  refine ⟨j + 1, ⟨⟨hj, by rw [htk, forms_snoc, q2, hxf]; rfl⟩, by omega⟩, ?_⟩
                  refine EndN.at_ ?_ rfl
                  conv => whnf
                  refine And.intro ?_ ?_ <;> conv => whnf
                  all_goals repeat' ((first | (refine gV ?_; first | refine vE ?_ | refine vI ?_) | (refine gX ?_; refine xB ?_) | exact True.intro) <;> conv => whnf)
              · obtain rfl : j = t.args.length := by omega
                rw [List.take_of_length_le (Nat.le_refl _)] at q2
                conv => whnf
                repeat' ((first | (refine gC ?_; (refine gD ?_; refine cJ ?_)) | (refine gL ?_; refine .map ?_) | refine RetP.nrm ?_) <;> conv => whnf)
                exact congrArg AV.bool q2.symm
          | true =>
            rw [hop] at hoo
            have h2 : ¬ t.args.length = 2 := fun e => hol ⟨hop, e⟩
            refine Fun.of (op_constraintref03_form (by simp) ?_) rfl rfl
            conv => whnf
            conv => whnf
            repeat' ((first | (refine gF ?_; first | refine CallN.fn (hoo) ?_ | refine CallN.fn (hro) ?_) | (refine gC ?_; first | refine cY ?_ | refine .not ?_ | (refine gD ?_; first | refine cI ?_ | refine cJ ?_)) | (refine gL ?_; refine .map ?_)) <;> conv => whnf)
            refine LoopP.by (fb := true) (fun _ (j : Nat) => ⟨[(1, .ptr 0 0), (4, .int .i64 (j : Int))], [.cells [.int .i64 t.kind, .int .i64 t.num, .str t.name, .sl .no (t.args.map Tm.av)]], 0⟩) (fun j => j ≤ t.args.length ∧ Tm.forms (t.args.take j) = true) (fun j => t.args.length - j) 0 ⟨Nat.zero_le _, rfl⟩ ?_ ?_
            · refine EndN.at_ ?_ rfl
              conv => whnf
              refine And.intro ?_ ?_ <;> conv => whnf
              all_goals repeat' ((first | (refine gV ?_; first | refine vE ?_ | refine vI ?_) | (refine gX ?_; refine xB ?_) | exact True.intro) <;> conv => whnf)
            · rintro j ⟨q1, q2⟩
              by_cases hj : j < t.args.length
              · obtain ⟨x, hx⟩ : ∃ x, t.args[j]? = some x := ⟨_, List.getElem?_eq_getElem hj⟩
                have htk : t.args.take (j + 1) = t.args.take j ++ [x] := by rw [List.take_add_one, hx]; rfl
                have hcall := ih x (List.mem_of_getElem? hx)
                cases hxf : x.form with
                | false =>
                  rw [hxf] at hcall
                  conv => whnf
                  repeat' ((first | (refine gF ?_; refine CallN.fn (hcall) ?_) | (refine gC ?_; first | refine cN ?_ | refine .not ?_ | (refine gD ?_; refine cI ?_)) | (refine gL ?_; refine .map ?_) | (refine gI ?_; (refine gT ?_; refine iA ?_)) | refine RetP.nrm ?_) <;> conv => whnf)
                  exact congrArg AV.bool (forms_false (List.mem_of_getElem? hx) hxf).symm
                | true =>
                  rw [hxf] at hcall
                  conv => whnf
                  repeat' ((first | (refine gF ?_; refine CallN.fn (hcall) ?_) | (refine gC ?_; first | refine cY ?_ | refine .not ?_ | (refine gD ?_; refine cI ?_)) | (refine gW ?_; refine wI ?_) | (refine gL ?_; refine .map ?_) | (refine gI ?_; (refine gT ?_; refine iA ?_))) <;> conv => whnf)
                  refine ⟨j + 1, ⟨⟨hj, by rw [htk, forms_snoc, q2, hxf]; rfl⟩, by omega⟩, ?_⟩
                  refine EndN.at_ ?_ rfl
                  conv => whnf
                  refine And.intro ?_ ?_ <;> conv => whnf
                  all_goals repeat' ((first | (refine gV ?_; first | refine vE ?_ | refine vI ?_) | (refine gX ?_; refine xB ?_) | exact True.intro) <;> conv => whnf)
              · obtain rfl : j = t.args.length := by omega
                rw [List.take_of_length_le (Nat.le_refl _)] at q2
                conv => whnf
                repeat' ((first | (refine gC ?_; (refine gD ?_; refine cJ ?_)) | (refine gL ?_; refine .map ?_) | refine RetP.nrm ?_) <;> conv => whnf)
                exact congrArg AV.bool q2.symm
    · rw [decide_eq_false (fun e => h6 e.2), Bool.false_and]
      have h2 : ¬ t.args.length = 2 := by omega
      cases hnr : nameR t.name <;> rw [hnr] at hro <;> cases hop : operB t.name <;> rw [hop] at hoo
      all_goals
        refine Fun.of (op_constraintref03_form (by simp) ?_) rfl rfl
        conv => whnf
        conv => whnf
        repeat' ((first | (refine gF ?_; first | refine CallN.fn (hoo) ?_ | refine CallN.fn (hro) ?_) | (refine gC ?_; first | refine cY ?_ | refine cN ?_ | refine .not ?_ | (refine gD ?_; first | refine cI ?_ | refine cJ ?_)) | (refine gL ?_; refine .map ?_) | refine RetP.nrm ?_) <;> conv => whnf)
        try rfl
  · by_cases hk0 : t.kind = 0
    · rw [form_0 hk0]
      refine Fun.of (op_constraintref03_form (by simp) ?_) rfl rfl
      conv => whnf
      conv => whnf
      repeat' ((first | (refine gC ?_; first | refine cN ?_ | (refine gD ?_; first | refine cI ?_ | refine cJ ?_) | refine CondN.le (fun hc => ?_) (fun hc => ?_) | refine CondN.dec (fun hc => ?_) (fun hc => ?_)) | (refine gL ?_; refine .map ?_) | refine RetP.nrm ?_) <;> conv => whnf)
      all_goals
        refine congrArg AV.bool ?_
        symm
        first
          | (rw [decide_eq_decide]; exact ⟨fun h => by omega, fun h => ⟨by omega, by omega, by assumption, by omega⟩⟩)
          | (rw [decide_eq_decide]; exact ⟨fun ⟨_, _, _, h⟩ => by omega, fun h => ⟨by omega, by omega, by assumption, by omega⟩⟩)
          | (rw [decide_eq_false_iff_not]; rintro ⟨e1, e2, e3, e4⟩; first | omega | contradiction)
          | (rw [decide_eq_true_iff]; exact ⟨by omega, by omega, by assumption, by omega⟩)
    · by_cases hk1 : t.kind = 1
      · rw [form_1 hk1]
        refine Fun.of (op_constraintref03_form (by simp) ?_) rfl rfl
        conv => whnf
        conv => whnf
        repeat' ((first | (refine gC ?_; first | refine cN ?_ | (refine gD ?_; first | refine cI ?_ | refine cJ ?_) | refine CondN.le (fun hc => ?_) (fun hc => ?_) | refine CondN.dec (fun hc => ?_) (fun hc => ?_)) | (refine gL ?_; refine .map ?_) | refine RetP.nrm ?_) <;> conv => whnf)
        all_goals
          refine congrArg AV.bool ?_
          symm
          first
            | (rw [decide_eq_decide]; exact ⟨fun h => by omega, fun h => ⟨by omega, by omega, by assumption, by omega⟩⟩)
            | (rw [decide_eq_decide]; exact ⟨fun ⟨_, _, _, h⟩ => by omega, fun h => ⟨by omega, by omega, by assumption, by omega⟩⟩)
            | (rw [decide_eq_false_iff_not]; rintro ⟨e1, e2, e3, e4⟩; first | omega | contradiction)
            | (rw [decide_eq_true_iff]; exact ⟨by omega, by omega, by assumption, by omega⟩)
      · rw [form_3 hk0 hk1 hk2]
        refine Fun.of (op_constraintref03_form (by simp) ?_) rfl rfl
        conv => whnf
        conv => whnf
        repeat' ((first | (refine gC ?_; (refine gD ?_; refine cJ ?_)) | refine RetP.nrm ?_) <;> conv => whnf)
theorem right3_ok (t : Tm) (hN : t.nodes ≤ 1000000) : Fun Try.prog 21 [t.avw] (.bool t.right) := by
  have h1 := form3_ok t
  have h2 := size3_ok t hN
  have h3 := depth3_ok t hN
  have he : t.right = (t.form && (decide ((t.sz : Int) ≤ 200) && decide ((t.dep : Int) ≤ 20))) := by
    unfold Tm.right vB; rw [Bool.decide_and]
  rw [he]
  cases hf : t.form <;> rw [hf] at h1
  all_goals
    refine Fun.of (op_constraintref03_Right (by simp) ?_) rfl rfl
    conv => whnf
    conv => whnf
    repeat' ((first | (refine gF ?_; first | refine CallN.fn (h1) ?_ | refine CallN.fn (h2) ?_ | refine CallN.fn (h3) ?_) | (refine gC ?_; first | refine cY ?_ | refine cN ?_ | (refine gD ?_; first | refine cI ?_ | refine cJ ?_) | refine CondN.le (fun hc => ?_) (fun hc => ?_)) | refine RetP.nrm ?_) <;> conv => whnf)
    all_goals (first | rfl | (refine congrArg AV.bool ?_; first | (simp [*]; done) | (simp [*]; omega)))
end Go.CK

namespace Go.CK
open Go.AM Go.Proofs
def sameB : List Bnd → List Bnd → Bool
  | [], [] => true
  | x :: l, y :: m => decide (x.v = y.v) && (decide (x.t.cmp y.t = 0) && sameB l m)
  | _, _ => false
theorem sameB_len : ∀ {l m : List Bnd}, ¬ l.length = m.length → sameB l m = false
  | [], [], h => absurd rfl h
  | [], _ :: _, _ => rfl
  | _ :: _, [], _ => rfl
  | x :: l, y :: m, h => by
    have := sameB_len (l := l) (m := m) (by simpa using h)
    simp only [sameB, this, Bool.and_false]
theorem sameB_refl : ∀ l : List Bnd, sameB l l = true
  | [] => rfl
  | x :: l => by simp only [sameB, Tm.cmp_refl, sameB_refl l, decide_true, Bool.and_self]
set_option maxRecDepth 100000 in
theorem same6_ok (l m : List Bnd) : Fun Try.prog 12 [.sl .no (l.map Bnd.av), .sl .no (m.map Bnd.av)] (.bool (sameB l m)) := by
  refine Fun.of (Sem.assume fun hg0 _ => ?_) rfl rfl
  have hg := (good_sla (hg0 (.sl .no (l.map Bnd.av)) (by simp) rfl)).1
  by_cases hlm : l.length = m.length
  rotate_left
  · rw [sameB_len hlm]
    refine op_constraintref06_Same (by simp) ?_
    conv => whnf
    repeat' ((first | (refine gC ?_; first | refine .not ?_ | (refine gD ?_; refine cJ ?_)) | (refine gL ?_; refine .map ?_) | refine RetP.nrm ?_) <;> conv => whnf)
  refine op_constraintref06_Same (by simp) ?_
  conv => whnf
  repeat' ((first | (refine gC ?_; first | refine .not ?_ | (refine gD ?_; refine cI ?_)) | (refine gL ?_; refine .map ?_)) <;> conv => whnf)
  refine LoopP.by (fb := true) (fun _ (j : Nat) => ⟨[(0, .sl .no (l.map Bnd.av)), (1, .sl .no (m.map Bnd.av)), (5, .int .i64 (j : Int))], [], 0⟩) (fun j => j ≤ l.length ∧ sameB (l.drop j) (m.drop j) = sameB l m) (fun j => l.length - j) 0 ⟨Nat.zero_le _, rfl⟩ ?_ ?_
  · refine EndN.at_ ?_ rfl
    conv => whnf
    refine And.intro ?_ ?_ <;> conv => whnf
    all_goals repeat' ((first | (refine gV ?_; first | refine vE ?_ | refine vI ?_) | exact True.intro) <;> conv => whnf)
  · rintro j ⟨q1, q2⟩
    by_cases hj : j < l.length
    · obtain ⟨x, hx⟩ : ∃ x, l[j]? = some x := ⟨_, List.getElem?_eq_getElem hj⟩
      obtain ⟨y, hy⟩ : ∃ x, m[j]? = some x := ⟨_, List.getElem?_eq_getElem (by omega)⟩
      rw [List.drop_eq_getElem_cons hj, (List.getElem?_eq_some_iff.1 hx).2, List.drop_eq_getElem_cons (l := m) (i := j) (by omega), (List.getElem?_eq_some_iff.1 hy).2, sameB] at q2
      have hs := same3_ok x.t y.t
      by_cases hv : x.v = y.v
      · by_cases hc : x.t.cmp y.t = 0
        · rw [decide_eq_true hv, decide_eq_true hc, Bool.true_and, Bool.true_and] at q2
          rw [decide_eq_true hc] at hs
          conv => whnf
          repeat' ((first | (refine gG ?_; refine CallP.fn (hs) ?_) | (refine gC ?_; first | refine cY ?_ | refine .not ?_ | (refine gD ?_; refine cI ?_)) | (refine gW ?_; refine wI ?_) | (refine gL ?_; refine .map ?_) | (refine gI ?_; (refine gM ?_; refine iE ?_))) <;> conv => whnf)
          refine ⟨j + 1, ⟨⟨hj, q2⟩, by omega⟩, ?_⟩
          refine EndN.at_ ?_ rfl
          conv => whnf
          refine And.intro ?_ ?_ <;> conv => whnf
          all_goals repeat' ((first | (refine gV ?_; first | refine vE ?_ | refine vI ?_) | exact True.intro) <;> conv => whnf)
        · rw [decide_eq_false hc, Bool.false_and, Bool.and_false] at q2
          rw [decide_eq_false hc] at hs
          rw [← q2]
          conv => whnf
          repeat' ((first | (refine gG ?_; refine CallP.fn (hs) ?_) | (refine gC ?_; first | refine cN ?_ | refine .not ?_ | (refine gD ?_; refine cI ?_)) | (refine gL ?_; refine .map ?_) | (refine gI ?_; (refine gM ?_; refine iE ?_)) | refine RetP.nrm ?_) <;> conv => whnf)
      · rw [decide_eq_false hv, Bool.false_and] at q2
        rw [← q2]
        conv => whnf
        repeat' ((first | (refine gC ?_; first | refine cY ?_ | refine .not ?_ | (refine gD ?_; first | refine cI ?_ | refine cJ ?_)) | (refine gL ?_; refine .map ?_) | (refine gI ?_; (refine gM ?_; refine iE ?_)) | refine RetP.nrm ?_) <;> conv => whnf)
    · obtain rfl : j = l.length := by omega
      rw [List.drop_length, List.drop_of_length_le (by omega), sameB] at q2
      rw [← q2]
      conv => whnf
      repeat' ((first | (refine gC ?_; first | refine cN ?_ | (refine gD ?_; refine cJ ?_)) | (refine gL ?_; refine .map ?_) | refine RetP.nrm ?_) <;> conv => whnf)
end Go.CK

namespace Go.CK
open Go.AM Go.Proofs
def insI (x : Int) : List Int → List Int
  | [] => [x]
  | y :: l => if x ≤ y then x :: y :: l else y :: insI x l
def isort : List Int → List Int
  | [] => []
  | x :: l => insI x (isort l)
theorem insI_perm (x : Int) : ∀ l : List Int, (insI x l).Perm (x :: l)
  | [] => .refl _
  | y :: l => by
    unfold insI; split
    · exact .refl _
    · exact ((insI_perm x l).cons y).trans (.swap x y l)
theorem insI_le (x : Int) : ∀ l : List Int, l.Pairwise (· ≤ ·) → (insI x l).Pairwise (· ≤ ·)
  | [], _ => List.pairwise_singleton ..
  | y :: l, h => by
    rw [List.pairwise_cons] at h
    unfold insI; split
    · rename_i hxy
      rw [List.pairwise_cons]
      refine ⟨fun z hz => ?_, List.pairwise_cons.2 h⟩
      rcases List.mem_cons.1 hz with rfl | hz
      · exact hxy
      · have := h.1 z hz; omega
    · rename_i hxy
      rw [List.pairwise_cons]
      refine ⟨fun z hz => ?_, insI_le x l h.2⟩
      rcases List.mem_cons.1 ((insI_perm x l).mem_iff.1 hz) with rfl | hz
      · omega
      · exact h.1 z hz
theorem isort_perm : ∀ l : List Int, (isort l).Perm l
  | [] => .refl _
  | x :: l => (insI_perm x _).trans ((isort_perm l).cons x)
theorem isort_le : ∀ l : List Int, (isort l).Pairwise (· ≤ ·)
  | [] => .nil
  | x :: l => insI_le x _ (isort_le l)
theorem sortL_isort (l : List Int) : sortL l = isort l :=
  List.Perm.eq_of_pairwise (fun a b _ _ h1 h2 => by omega) (sortL_le l) (isort_le l) ((sortL_perm l).trans (isort_perm l).symm)
def solvedI (N f : Nat) (g : Gr) : Option (List Bnd × Int) := match roundM N f (List.range g.nodes.length) g with
  | none => none
  | some (_, false) => some ([], 13)
  | some (g2, true) => match roundS N f (isort (g2.vars.map (·.1))) g2 [] with
    | none => none
    | some (_, none) => some ([], 6)
    | some (_, some out) => some (out, 0)
def allI (N f : Nat) (a b : List Tm) : Option (List Bnd × Int) :=
  if (a.all Tm.right && b.all Tm.right) = true then
    if a.length = b.length then match runF N f gr0 (a.zip b) with
      | none => none
      | some (_, false) => some ([], 13)
      | some (g, true) => solvedI N f g
    else some ([], 9)
  else some ([], 2)
theorem allF_I (N f : Nat) (a b : List Tm) : allF N f a b = allI N f a b := by
  have : solvedF N f = solvedI N f := by
    funext g; unfold solvedF solvedI
    simp only [sortL_isort]
    rfl
  unfold allF allI; rw [this]; rfl
def gTerm : Tm := .mk 2 0 ⟨⟨[103]⟩⟩ [varT 0]
def fTerm (a b : Tm) : Tm := .mk 2 0 ⟨⟨[102]⟩⟩ [a, b]
theorem ex1 : allI 10 100 [fTerm (varT 2) (varT 1)] [fTerm (varT 1) gTerm] = some ([⟨1, gTerm⟩, ⟨2, gTerm⟩], 0) := by kernel_rfl
theorem ex2 : allI 10 100 [varT 3, varT 3] [varT 1, varT 2] = some ([⟨2, varT 1⟩, ⟨3, varT 1⟩], 0) := by kernel_rfl
theorem ex3 : allI 10 100 [varT 0] [gTerm] = some ([], 13) := by kernel_rfl
theorem ex4 : allI 10 100 [varT 0] [varT 1] = some ([⟨1, varT 0⟩], 0) := by kernel_rfl
theorem v7_ok (n : Int) : Fun Try.prog 22 [.int .i64 n] (varT n).avw := by
  refine Fun.of (op_constraintlaw07_v (by simp) ?_) rfl rfl
  conv => whnf
  conv => whnf
  repeat' (refine RetP.nrm ?_ <;> conv => whnf)
  exact rfl
set_option maxRecDepth 100000 in
theorem f7_ok (a b : Tm) : Fun Try.prog 24 [a.avw, b.avw] (fTerm a b).avw := by
  refine Fun.of (op_constraintlaw07_f (by simp) ?_) rfl rfl
  conv => whnf
  conv => whnf
  repeat' (refine RetP.nrm ?_ <;> conv => whnf)
  simp only [fTerm, Tm.avw, Tm.kind, Tm.num, Tm.name, Tm.args, List.map_cons, List.map_nil, Tm.av_w]
set_option maxHeartbeats 4000000 in
set_option maxRecDepth 100000 in
theorem awake_ok : Fun Try.prog 9 [] (.bool true) := by
  have u1 := Unify_ok ((allF_I _ _ _ _).trans ex1) (by decide)
  have u2 := all_ok ((allF_I _ _ _ _).trans ex2) (by decide)
  have u3 := Unify_ok ((allF_I _ _ _ _).trans ex3) (by decide)
  have u4 := Unifiable_ok ((allF_I _ _ _ _).trans ex4) (by decide)
  have u5 := Unifiable_ok ((allF_I _ _ _ _).trans ex3) (by decide)
  rw [show unifiableB 0 = true from rfl] at u4
  rw [show unifiableB 13 = false from rfl] at u5
  have s1 := same6_ok [⟨1, gTerm⟩, ⟨2, gTerm⟩] [⟨1, gTerm⟩, ⟨2, gTerm⟩]
  have s2 := same6_ok [⟨2, varT 1⟩, ⟨3, varT 1⟩] [⟨2, varT 1⟩, ⟨3, varT 1⟩]
  rw [sameB_refl] at s1 s2
  have f1 := f7_ok (varT 2) (varT 1)
  have f2 := f7_ok (varT 1) gTerm
  refine Fun.of (op_constraintlaw07_awake (by simp) ?_) rfl rfl
  conv => whnf
  conv => whnf
  repeat' ((first | (refine gF ?_; first | refine CallN.fn (v7_ok _) ?_ | refine CallN.fn (u2) ?_) | (refine gG ?_; first | refine CallP.fn (v7_ok _) ?_ | refine CallP.fn (f1) ?_ | refine CallP.fn (f2) ?_ | refine CallP.fn (u1) ?_ | refine CallP.fn (u3) ?_ | refine CallP.fn (u4) ?_ | refine CallP.fn (u5) ?_ | refine CallP.fn (s1) ?_ | refine CallP.fn (s2) ?_) | (refine gC ?_; first | refine cY ?_ | (refine gD ?_; refine cI ?_)) | refine RetP.nrm ?_) <;> conv => whnf)
  rfl
end Go.CK

namespace Go.CK
open Go.AM
mutual
theorem lft_nodes : ∀ (t : Tm) (n d : Int), 0 ≤ lft t n d → lft t n d = n - t.nodes
  | .mk k m s l, n, d, h => by
    rw [lft] at h ⊢
    split at h
    · omega
    · rename_i hc
      rw [if_neg hc, lfts_nodes l _ _ h]
      simp only [Tm.nodes]; omega
theorem lfts_nodes : ∀ (l : List Tm) (n d : Int), 0 ≤ lfts l n d → lfts l n d = n - Tm.nodess l
  | [], n, d, h => by simp [lfts, Tm.nodess]
  | t :: r, n, d, h => by
    rw [lfts] at h ⊢
    split at h
    · omega
    · rename_i hc
      rw [if_neg hc, lfts_nodes r _ _ h, lft_nodes t n d (by omega)]
      simp only [Tm.nodess]; omega
end
theorem small_nodes {t : Tm} (h : t.small = true) : t.nodes ≤ 1000 := by
  unfold Tm.small at h
  have h := of_decide_eq_true h
  have := lft_nodes t 1000 100 h
  omega
theorem right_of {t : Tm} (h : t.form = true) (hf : fits t) : t.right = true := by
  unfold Tm.right vB
  rw [h, Bool.true_and, decide_eq_true_eq]
  have := hf.1; have := hf.2
  omega
end Go.CK

namespace Go.CK
open Go.AM
/-- what the code's answer is -/
def Said (a b : List Tm) (out : List Bnd) (e : Int) : Prop := (if (a.all Tm.right && b.all Tm.right) = true then (if a.length = b.length then Ans (Eqs (a.zip b)) out e else out = [] ∧ e = 9) else out = [] ∧ e = 2) ∧ Rng out
theorem said_ex {a b : List Tm} (hN : Tm.nodess a + Tm.nodess b ≤ 100000) : ∃ out e, allF fN fF a b = some (out, e) ∧ Said a b out e := allF_law hN
theorem eqs_one {a b : Tm} {σ : Int → Tm} : Eqs [(a, b)] σ ↔ app σ a = app σ b := by
  unfold Eqs; simp
theorem said_yes {a b : Tm} {out : List Bnd} {e : Int} (h : Said [a] [b] out e) (ha : a.right = true) (hb : b.right = true) : Ans (Eqs [(a, b)]) out e := by
  have h := h.1
  rw [if_pos (by simp [ha, hb]), if_pos (show [a].length = [b].length from rfl)] at h
  exact h
/-- a functor 'f' of these -/
def fnT (l : List Tm) : Tm := .mk 2 0 ⟨⟨[102]⟩⟩ l
theorem szs_mem : ∀ {l : List Tm} {x : Tm}, x ∈ l → x.sz ≤ Tm.szs l
  | y :: l, x, hm => by
    simp only [Tm.szs]
    rcases List.mem_cons.1 hm with rfl | hm
    · omega
    · have := szs_mem hm; omega
theorem fn_right {l : List Tm} (h : (fnT l).right = true) : l.all Tm.right = true := by
  obtain ⟨hf, h1, h2⟩ := vB_true h
  rw [List.all_eq_true]
  intro x hx
  have hfl : Tm.forms l = true := form_args (t := fnT l) hf
  have e1 : (fnT l).sz = 1 + Tm.szs l := by rw [fnT, Tm.sz, if_pos rfl]
  have e2 : (fnT l).dep = Tm.deps l + 1 := by rw [fnT, Tm.dep, if_pos rfl]
  have := szs_mem hx
  have := deps_mem hx
  exact right_of (forms_mem hfl hx) ⟨by omega, by omega⟩
theorem eqs_map : ∀ {a b : List Tm} {σ : Int → Tm}, a.length = b.length → (a.map (app σ) = b.map (app σ) ↔ Eqs (a.zip b) σ)
  | [], [], σ, _ => ⟨fun _ p hp => (by cases hp), fun _ => rfl⟩
  | [], _ :: _, _, h => by cases h
  | _ :: _, [], _, h => by cases h
  | x :: a, y :: b, σ, h => by
    have := eqs_map (a := a) (b := b) (σ := σ) (by simpa using h)
    simp only [List.map_cons, List.cons.injEq, this, List.zip_cons_cons]
    exact ⟨fun ⟨p, q⟩ z hz => by
      rcases List.mem_cons.1 hz with rfl | hz
      · exact p
      · exact q z hz, fun q => ⟨q _ (List.mem_cons_self ..), fun z hz => q z (List.mem_cons_of_mem _ hz)⟩⟩
theorem fn_eqs {a b : List Tm} {σ : Int → Tm} (hl : a.length = b.length) : Eqs [(fnT a, fnT b)] σ ↔ Eqs (a.zip b) σ := by
  rw [eqs_one, ← eqs_map hl, app_2 (t := fnT a) rfl, app_2 (t := fnT b) rfl]
  simp [fnT, Tm.kind, Tm.num, Tm.name, Tm.args]
theorem functors_law {a b : List Tm} {m n : List Bnd} {e d : Int} (hl : a.length = b.length) (ha : (fnT a).right = true) (hb : (fnT b).right = true) (h : Said [fnT a] [fnT b] m e) (h' : Said a b n d) : m = n ∧ e = d := by
  have q := said_yes h ha hb
  have q' := h'.1
  rw [if_pos (by rw [fn_right ha, fn_right hb]; rfl), if_pos hl] at q'
  exact (q.congr fun σ => fn_eqs hl).one q'
end Go.CK

namespace Go.CK
open Go.AM Go.Proofs
theorem small_mem {l : List Tm} (h : l.all Tm.small = true) (hl : l.length ≤ 40) : Tm.nodess l ≤ 40000 := by
  have : ∀ m : List Tm, m.all Tm.small = true → Tm.nodess m ≤ 1000 * m.length := by
    intro m
    induction m with
    | nil => intro _; simp [Tm.nodess]
    | cons x m ih =>
      intro hm
      rw [List.all_cons, Bool.and_eq_true] at hm
      have := ih hm.2
      have := small_nodes hm.1
      simp only [Tm.nodess, List.length_cons]; omega
  have := this l h
  omega
def fewB (l : List Tm) : Bool := decide (l.length ≤ 40) && l.all Tm.small
set_option maxRecDepth 100000 in
theorem Few_ok (l : List Tm) : Fun Try.prog 15 [.sl .no (l.map Tm.av)] (.bool (fewB l)) := by
  refine Fun.of (Sem.assume fun hg0 _ => ?_) rfl rfl
  have hg := (good_sla (hg0 (.sl .no (l.map Tm.av)) (by simp) rfl)).1
  by_cases hl : l.length ≤ 40
  rotate_left
  · unfold fewB
    rw [decide_eq_false hl, Bool.false_and]
    have hl2 : ¬ ((l.length : Int) ≤ 40) := by omega
    refine op_constraintlaw07_Few (by simp) ?_
    conv => whnf
    repeat' ((first | (refine gC ?_; (refine gD ?_; refine cI ?_)) | (refine gL ?_; refine .map ?_) | refine RetP.nrm ?_) <;> conv => whnf)
  unfold fewB
  rw [decide_eq_true hl, Bool.true_and]
  refine op_constraintlaw07_Few (by simp) ?_
  conv => whnf
  repeat' ((first | (refine gC ?_; (refine gD ?_; refine cJ ?_)) | (refine gL ?_; refine .map ?_)) <;> conv => whnf)
  refine LoopP.by (fb := true) (fun _ (j : Nat) => ⟨[(0, .sl .no (l.map Tm.av)), (8, .int .i64 (l.length : Int)), (9, .int .i64 (j : Int))], [], 0⟩) (fun j => j ≤ l.length ∧ (l.drop j).all Tm.small = l.all Tm.small) (fun j => l.length - j) 0 ⟨Nat.zero_le _, rfl⟩ ?_ ?_
  · refine EndN.at_ ?_ rfl
    conv => whnf
    refine And.intro ?_ ?_ <;> conv => whnf
    all_goals repeat' ((first | (refine gV ?_; first | refine vE ?_ | refine vI ?_) | exact True.intro) <;> conv => whnf)
  · rintro j ⟨q1, q2⟩
    by_cases hj : j < l.length
    · obtain ⟨x, hx⟩ : ∃ x, l[j]? = some x := ⟨_, List.getElem?_eq_getElem hj⟩
      rw [List.drop_eq_getElem_cons hj, (List.getElem?_eq_some_iff.1 hx).2, List.all_cons] at q2
      have hs := Small_ok x
      cases hc : x.small with
      | true =>
        rw [hc] at hs
        rw [hc, Bool.true_and] at q2
        conv => whnf
        repeat' ((first | (refine gF ?_; refine CallN.fn (hs) ?_) | (refine gC ?_; first | refine cY ?_ | refine .not ?_ | (refine gD ?_; refine cI ?_)) | (refine gW ?_; refine wI ?_) | (refine gI ?_; (refine gT ?_; refine iA ?_))) <;> conv => whnf)
        refine ⟨j + 1, ⟨⟨hj, q2⟩, by omega⟩, ?_⟩
        refine EndN.at_ ?_ rfl
        conv => whnf
        refine And.intro ?_ ?_ <;> conv => whnf
        all_goals repeat' ((first | (refine gV ?_; first | refine vE ?_ | refine vI ?_) | exact True.intro) <;> conv => whnf)
      | false =>
        rw [hc] at hs
        rw [hc, Bool.false_and] at q2
        rw [← q2]
        conv => whnf
        repeat' ((first | (refine gF ?_; refine CallN.fn (hs) ?_) | (refine gC ?_; first | refine cN ?_ | refine .not ?_ | (refine gD ?_; refine cI ?_)) | (refine gI ?_; (refine gT ?_; refine iA ?_)) | refine RetP.nrm ?_) <;> conv => whnf)
    · obtain rfl : j = l.length := by omega
      rw [List.drop_length, List.all_nil] at q2
      rw [← q2]
      conv => whnf
      repeat' ((first | (refine gC ?_; (refine gD ?_; refine cJ ?_)) | refine RetP.nrm ?_) <;> conv => whnf)
set_option maxHeartbeats 2000000 in
set_option maxRecDepth 100000 in
theorem UnifyFunctors_ok (a b : List Tm) : Fun Try.prog 7 [.sl .no (a.map Tm.av), .sl .no (b.map Tm.av)] (.bool true) := by
  have fa := Few_ok a
  have fb := Few_ok b
  refine Fun.of (Sem.assume fun hg0 _ => ?_) rfl rfl
  have hga := (good_sla (hg0 (.sl .no (a.map Tm.av)) (by simp) rfl)).1
  have hgb := (good_sla (hg0 (.sl .no (b.map Tm.av)) (by simp) rfl)).1
  cases ha : fewB a with
  | false =>
    rw [ha] at fa
    refine op_constraintlaw07_UnifyFunctors (by simp) ?_
    conv => whnf
    repeat' ((first | (refine gF ?_; first | refine CallN.fn (fa) ?_ | refine CallN.fn (awake_ok) ?_) | (refine gC ?_; first | refine cY ?_ | refine cN ?_ | refine .not ?_) | refine RetP.nrm ?_) <;> conv => whnf)
  | true =>
  rw [ha] at fa
  cases hb : fewB b with
  | false =>
    rw [hb] at fb
    refine op_constraintlaw07_UnifyFunctors (by simp) ?_
    conv => whnf
    repeat' ((first | (refine gF ?_; first | refine CallN.fn (fa) ?_ | refine CallN.fn (fb) ?_ | refine CallN.fn (awake_ok) ?_) | (refine gC ?_; first | refine cY ?_ | refine cN ?_ | refine .not ?_) | refine RetP.nrm ?_) <;> conv => whnf)
  | true =>
  rw [hb] at fb
  by_cases hl : a.length = b.length
  rotate_left
  · have hl2 : ¬ ((a.length : Int) = (b.length : Int)) := by omega
    refine op_constraintlaw07_UnifyFunctors (by simp) ?_
    conv => whnf
    repeat' ((first | (refine gF ?_; first | refine CallN.fn (fa) ?_ | refine CallN.fn (fb) ?_ | refine CallN.fn (awake_ok) ?_) | (refine gC ?_; first | refine cY ?_ | refine .not ?_ | (refine gD ?_; refine cJ ?_)) | (refine gL ?_; refine .map ?_) | refine RetP.nrm ?_) <;> conv => whnf)
  have hl2 : ((a.length : Int) = (b.length : Int)) := by omega
  by_cases h6 : a.length ≤ 6
  rotate_left
  · have h62 : ¬ ((a.length : Int) ≤ 6) := by omega
    refine op_constraintlaw07_UnifyFunctors (by simp) ?_
    conv => whnf
    repeat' ((first | (refine gF ?_; first | refine CallN.fn (fa) ?_ | refine CallN.fn (fb) ?_ | refine CallN.fn (awake_ok) ?_) | (refine gC ?_; first | refine cY ?_ | refine .not ?_ | (refine gD ?_; refine cI ?_)) | (refine gL ?_; refine .map ?_) | refine RetP.nrm ?_) <;> conv => whnf)
  have h62 : ((a.length : Int) ≤ 6) := by omega
  unfold fewB at ha hb
  rw [Bool.and_eq_true, decide_eq_true_eq] at ha hb
  have na := small_mem ha.2 ha.1
  have nb := small_mem hb.2 hb.1
  have nx : (fnT a).nodes ≤ 40001 := by rw [fnT, Tm.nodes]; omega
  have ny : (fnT b).nodes ≤ 40001 := by rw [fnT, Tm.nodes]; omega
  have rx := right3_ok (fnT a) (by omega)
  have ry := right3_ok (fnT b) (by omega)
  cases hx : (fnT a).right with
  | false =>
    rw [hx] at rx
    refine op_constraintlaw07_UnifyFunctors (by simp) ?_
    conv => whnf
    repeat' ((first | (refine gF ?_; first | refine CallN.fn (fa) ?_ | refine CallN.fn (fb) ?_ | refine CallN.fn (rx) ?_ | refine CallN.fn (awake_ok) ?_) | (refine gC ?_; first | refine cY ?_ | refine cN ?_ | refine .not ?_ | (refine gD ?_; first | refine cI ?_ | refine cJ ?_)) | (refine gL ?_; refine .map ?_) | refine RetP.nrm ?_) <;> conv => whnf)
  | true =>
  rw [hx] at rx
  cases hy : (fnT b).right with
  | false =>
    rw [hy] at ry
    refine op_constraintlaw07_UnifyFunctors (by simp) ?_
    conv => whnf
    repeat' ((first | (refine gF ?_; first | refine CallN.fn (fa) ?_ | refine CallN.fn (fb) ?_ | refine CallN.fn (rx) ?_ | refine CallN.fn (ry) ?_ | refine CallN.fn (awake_ok) ?_) | (refine gC ?_; first | refine cY ?_ | refine cN ?_ | refine .not ?_ | (refine gD ?_; first | refine cI ?_ | refine cJ ?_)) | (refine gL ?_; refine .map ?_) | refine RetP.nrm ?_) <;> conv => whnf)
  | true =>
  rw [hy] at ry
  obtain ⟨m, e, u1, s1⟩ := said_ex (a := [fnT a]) (b := [fnT b]) (by simp only [Tm.nodess]; omega)
  obtain ⟨n, d, u2, s2⟩ := said_ex (a := a) (b := b) (by omega)
  have hU1 := Unify_ok u1 (by omega)
  have hU2 := all_ok u2 (by omega)
  obtain ⟨rfl, rfl⟩ := functors_law hl hx hy s1 s2
  have hsm := same6_ok m m
  rw [sameB_refl] at hsm
  refine op_constraintlaw07_UnifyFunctors (by simp) ?_
  conv => whnf
  repeat' ((first | (refine gF ?_; first | refine CallN.fn (fa) ?_ | refine CallN.fn (fb) ?_ | refine CallN.fn (rx) ?_ | refine CallN.fn (ry) ?_ | refine CallN.fn (hU1) ?_ | refine CallN.fn (hU2) ?_ | refine CallN.fn (hsm) ?_ | refine CallN.fn (awake_ok) ?_) | (refine gC ?_; first | refine cY ?_ | refine .not ?_ | (refine gD ?_; first | refine cI ?_ | refine cJ ?_)) | (refine gL ?_; refine .map ?_) | refine RetP.nrm ?_) <;> conv => whnf)
theorem unifyFunctors_law {a b : List Tm} : Fun Try.prog 7 [slA Tm.av a, slA Tm.av b] (.bool true) := UnifyFunctors_ok a b
end Go.CK

namespace Go.CK
open Go.RowKit Go.AM

def AllFV (M : Hp) : List AV → List Value → Prop
  | [], [] => True
  | x :: xs, v :: vs => FV M x v ∧ AllFV M xs vs
  | _, _ => False
theorem AllFV.len {M : Hp} : ∀ {xs : List AV} {vs : List Value}, AllFV M xs vs → vs.length = xs.length
  | [], [], _ => rfl
  | _ :: xs, _ :: vs, h => by simp [AllFV.len h.2]
  | [], _ :: _, h => h.elim
  | _ :: _, [], h => h.elim
theorem AllFV.get {M : Hp} : ∀ {xs : List AV} {vs : List Value}, AllFV M xs vs → ∀ j (h : j < xs.length) v, vs[j]? = some v → FV M xs[j] v
  | [], [], _, j, h, _, _ => by cases h
  | _ :: xs, _ :: vs, h, 0, _, v, hv => by
    simp only [List.getElem?_cons_zero, Option.some.injEq] at hv
    subst hv; exact h.1
  | _ :: xs, _ :: vs, h, j + 1, hj, v, hv => AllFV.get h.2 j (by simpa using hj) v (by simpa using hv)
  | [], _ :: _, h, _, _, _, _ => h.elim
  | _ :: _, [], h, _, _, _, _ => h.elim
theorem Fun.calls {P : Program} {f : FuncId} {vals : List AV} {b : Bool} (h : Fun P f vals (.bool b)) {w : World} {args : List Value} (ha : AllFV (Hp.of w) vals args) :
    Calls P f args.toArray w fun e w' => e = .returned (.bool b) ∧ Ext w w' := by
  refine (((h []).mono (Q' := fun r _ => r = .bool b) fun r bs hq => hq.1).calls (Hp.le_refl _) ha.len ha.get).mono ?_
  rintro e w' ⟨v, r, bs', M', σ, n, rfl, rfl, hv, hx, _⟩
  exact ⟨by rw [hv.inv_bool], hx⟩
end Go.CK

namespace Go.CK
open Go.RowKit Go.Proofs Go.ChangeShapes Go.WideShapes Go.ChangeAt
open Go.Proofs.Ytahooabjmaolhaa.Rows (uptoBulk uptoBulkAll uptoSmall)

theorem bulk_one {H : Type} (d : DataW H) : 1 ≤ uptoBulk d := by
  cases d with
  | lit l => cases l <;> simp [uptoBulk]
  | nil => simp [uptoBulk]
  | ptr d => simp [uptoBulk]
  | slice elems spare => simp [uptoBulk]
  | agg parts => simp [uptoBulk]
  | iface t d => simp [uptoBulk]
  | map entries => simp [uptoBulk]
  | held h => simp [uptoBulk]

theorem bulk_part {H : Type} {d : DataW H} {l : List (DataW H)} (h : d ∈ l) : uptoBulk d ≤ uptoBulkAll l := by
  induction l with
  | nil => cases h
  | cons x r ih =>
    simp only [uptoBulkAll]
    cases List.mem_cons.1 h with
    | inl e => subst e; omega
    | inr e => have := ih e; omega

theorem bulk_len {H : Type} (l : List (DataW H)) : l.length ≤ uptoBulkAll l := by
  induction l with
  | nil => simp [uptoBulkAll]
  | cons x r ih => have := bulk_one x; simp only [uptoBulkAll, List.length_cons]; omega

theorem bulk_bound {H : Type} {l : List (DataW H)} (hk : uptoSmall H l = true) : uptoBulkAll l ≤ 1048576 := of_decide_eq_true hk

section
variable {H : Type} {enc : TypeId × Value → H} {P : Program} {W : World} {spare : Nat → Bool} {held : Bool}

/-- a slice that came in reads as a list -/
theorem sl_of {α : Type} {T e : TypeId} {sz N : Nat} (hu : P.underlying T = some (.slice e)) (hsz : P.cellsOf e = sz) (hp : 0 < sz) (R : List Value → α → Prop) (hN : 0 ≤ N)
    (ih : ∀ (cs : List Value) (d : DataW H) (ps : List MemPlace) (fuel : Nat), DataW.trod enc P W 0 spare held fuel e cs = some (d, ps) → uptoBulk d < N → ∃ x, R cs x)
    {fuel : Nat} {cs : List Value} {d : DataW H} {ps : List MemPlace} (h : DataW.trod enc P W 0 spare held fuel T cs = some (d, ps)) (hb : uptoBulk d ≤ N) :
    ∃ (a : Option Addr) (l : List α) (cap : Nat), cs = [.slice a l.length cap] ∧ l.length ≤ cap ∧ Sl (Hp.of W) sz R a l ∧ l.length ≤ N := by
  subst hsz
  rcases Deep.open_slice hu h with ⟨rfl, _⟩ | ⟨a, len, cap, m, n, D, Pl, rfl, _, hlc, hcm, hm, hx, hel⟩
  · exact ⟨none, [], 0, rfl, by simp, Sl.nil, by simp⟩
  · simp only [Prod.mk.injEq] at hx
    obtain ⟨rfl, _⟩ := hx
    have hlm : len ≤ m := by rw [hm]; split <;> omega
    simp only [uptoBulk] at hb
    have hlen := bulk_len ((List.range len).map D)
    rw [List.length_map, List.length_range] at hlen
    have hD : ∀ i, i < len → ∃ x cs', W.cells? 0 (a.add (i * P.cellsOf e)) (P.cellsOf e) = some cs' ∧ R cs' x := fun i hi => by
      obtain ⟨cs', h1, h2⟩ := hel i (by omega)
      have hbi : uptoBulk (D i) ≤ uptoBulkAll ((List.range len).map D) := bulk_part (List.mem_map.2 ⟨i, by simpa using hi, rfl⟩)
      obtain ⟨x, hx⟩ := ih cs' (D i) (Pl i) n h2 (by omega)
      exact ⟨x, cs', h1, hx⟩
    refine ⟨some a, List.ofFn (fun i : Fin len => (hD i.1 i.2).choose), cap, by simp, by simpa using hlc, ⟨by simp only [List.length_ofFn];unfold maxLen at hcm;unfold lim;omega, fun i hi => ?_⟩, by simp; omega⟩
    rw [List.length_ofFn] at hi
    have hspot : a.spot = none := by
      obtain ⟨cs', h1, _⟩ := hel 0 (by omega)
      obtain ⟨_, h2, h3⟩ := World.cells?_some h1
      have h4 := h3 0 hp
      rw [List.getElem?_eq_getElem (by omega)] at h4
      simp only [Nat.zero_mul] at h4
      have h5 : (a.add 0).add 0 = a := by simp [Addr.add]
      rw [h5] at h4
      cases hs : a.spot with
      | none => rfl
      | some k =>
        simp only [World.cell?, hs] at h4
        split at h4 <;> simp at h4
    obtain ⟨cs', h1, h2⟩ := (hD i hi).choose_spec
    obtain ⟨_, h3, h4⟩ := World.cells?_some h1
    have ha : a = ⟨a.block, a.off, none⟩ := by cases a; simp only at hspot; subst hspot; rfl
    refine ⟨a.block, a.off, cs', by rw [← ha], h3, fun j x hj => ?_, by simpa using h2⟩
    have hj2 : j < P.cellsOf e := by rw [← h3]; exact (List.getElem?_eq_some_iff.1 hj).1
    have h5 := h4 j hj2
    rw [Deep.add_add] at h5
    have h6 : a.add (i * P.cellsOf e + j) = ⟨a.block, a.off + i * P.cellsOf e + j, none⟩ := by
      unfold Addr.add
      split
      · rename_i h0
        rw [ha]; simp; omega
      · simp
    rw [h6, hj] at h5
    exact h5
end

theorem cellsInt : Try.prog.cellsOf 3 = 1 := by kernel_rfl
theorem cellsStr : Try.prog.cellsOf 9 = 1 := by kernel_rfl
theorem cellsTms : Try.prog.cellsOf 22 = 1 := by kernel_rfl
theorem cellsTm : Try.prog.cellsOf 24 = 4 := by kernel_rfl

section
variable {H : Type} {enc : TypeId × Value → H} {W : World} {spare : Nat → Bool} {held : Bool}

theorem int_of {fuel : Nat} {cs : List Value} {d : DataW H} {ps : List MemPlace} (h : DataW.trod enc Try.prog W 0 spare held fuel 3 cs = some (d, ps)) : ∃ n, cs = [.int .i64 n] ∧ IntOk n := by
  obtain ⟨n, h1, _, h3⟩ := DataW.trod_int Try.underlying3 h
  exact ⟨n, h1, IntOk.of_wf h3⟩

theorem str_of {N fuel : Nat} {cs : List Value} {d : DataW H} {ps : List MemPlace} (h : DataW.trod enc Try.prog W 0 spare held fuel 9 cs = some (d, ps)) (hb : uptoBulk d ≤ N) : ∃ s : ByteArray, cs = [.string s] ∧ s.size ≤ lim := by
 obtain⟨s,h1,_,h3⟩:=DataW.trod_string Try.underlying9 h;exact ⟨s,h1,by unfold maxLen at h3;unfold lim;omega⟩

set_option maxRecDepth 100000 in
/-- a term that came in -/
theorem tm_of : ∀ (N : Nat), 0 ≤ N → ∀ (cs : List Value) (d : DataW H) (ps : List MemPlace) (fuel : Nat), DataW.trod enc Try.prog W 0 spare held fuel 24 cs = some (d, ps) → uptoBulk d ≤ N → ∃ t, RTm (Hp.of W) cs t := by
  intro N
  induction N using Nat.strongRecOn with
  | _ N ih =>
  intro hN cs d ps fuel h hb
  obtain ⟨y0, y1, y2, y3, n, hx, hl, h0, h1, h2, h3⟩ := Joins.trod_struct4 Try.underlying24 h
  simp only [Prod.mk.injEq] at hx
  obtain ⟨rfl, _⟩ := hx
  rw [cellsTm] at hl
  match cs, hl with
  | [c0, c1, c2, c3], _ =>
    simp only [cellsInt, cellsStr, cellsTms, List.drop_zero, List.drop_succ_cons, List.take_succ_cons, List.take_zero] at h0 h1 h2 h3
    simp only [uptoBulk, uptoBulkAll] at hb
    have := bulk_one y3.1
    obtain ⟨k, e0, ik⟩ := int_of h0
    obtain ⟨m, e1, im⟩ := int_of h1
    obtain ⟨s, e2, is⟩ := str_of (N := N) h2 (by omega)
    obtain ⟨a, l, cap, e3, hlc, hsl, _⟩ := sl_of (N := N - 1) Try.underlying22 cellsTm (by omega) (RTm (Hp.of W)) (by omega) (fun cs d ps fuel h hb => ih (N - 1) (by omega) (by omega) cs d ps fuel h (by omega)) h3 (by omega)
    simp only [List.cons.injEq, and_true] at e0 e1 e2 e3
    subst e0; subst e1; subst e2; subst e3
    exact ⟨.mk k m s l, RTm.intro ik im is hlc hsl⟩
end
end Go.CK

namespace Go.CK
open Go.RowKit Go.Proofs Go.ChangeShapes Go.WideShapes Go.ChangeAt
open Go.Proofs.Ytahooabjmaolhaa.Rows (uptoBulk uptoBulkAll uptoSmall)
section
variable {H : Type} {enc : TypeId × Value → H} {W : World} {spare : Nat → Bool} {held : Bool}
set_option maxRecDepth 100000 in
theorem ltm_of (N : Nat) (hN : 0 ≤ N) (cs : List Value) (d : DataW H) (ps : List MemPlace) (fuel : Nat) (h : DataW.trod enc Try.prog W 0 spare held fuel 22 cs = some (d, ps)) (hb : uptoBulk d ≤ N) : ∃ x, RSl 4 RTm (Hp.of W) cs x := by
  obtain ⟨a, l, k, e, h1, h2, _⟩ := sl_of (N := N) Try.underlying22 cellsTm (by omega) (RTm (Hp.of W)) hN (fun cs d ps fuel h hb => tm_of N hN cs d ps fuel h (by omega)) h hb
  exact ⟨l, a, k, e, h1, h2⟩
end
end Go.CK

