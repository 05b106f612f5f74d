/-
  Texts of this claim joined (wip/gen/bundle.py), those declarations only that are needed: VarsB. By an AI agent.
-/
import Derived.Test.YtahooabjmaolhaaBau
set_option linter.unusedSimpArgs false
set_option linter.unusedVariables false
namespace Go.CK
open Go.AM Go.Proofs
theorem rowF_lt {k n : Nat} {l : List Int} : boxesLt n [rowF (AV.int .i64) 1 k l] = true := by
  simp only [rowF, boxesLt, Bool.and_true, List.all_eq_true]
  exact fun x hx => (plainI.rowOk l _ n x hx).2
theorem EndN.refl (s : St) : EndN s s := ⟨Weak.refl s⟩
/-- the row of what was found comes last, J ahead of it -/
def VRes (own : List Box) (l : List Int) (r : AV) (bs' : List Box) : Prop := ∃ (J : List Box) (k' : Nat), l.length ≤ k' ∧ boxesLt (own.length + J.length) J = true ∧ r = .bsl (own.length + J.length) l.length k' ∧ bs' = own ++ (J ++ [rowF (AV.int .i64) 1 k' l])
set_option maxRecDepth 100000 in
theorem rvars_of (a : Tm) : ∀ (own : List Box) (l : List Int) (k : Nat), boxesLt own.length own = true → l.length ≤ k → l.length + a.vs.length ≤ 1000000 →
    AM.Sem Try.prog 68 [.bsl own.length l.length k, a.avw] (own ++ [rowF (AV.int .i64) 1 k l]) (VRes own (addVs l a.vs)) := by
  induction a using Tm.ind_all with
  | h k n s l ih =>
  intro own l0 k0 ho hk0 hb
  generalize ha : Tm.mk k n s l = a at hb ⊢
  have ih : ∀ t ∈ a.args, ∀ (own : List Box) (l : List Int) (k : Nat), boxesLt own.length own = true → l.length ≤ k → l.length + t.vs.length ≤ 1000000 →
    AM.Sem Try.prog 68 [.bsl own.length l.length k, t.avw] (own ++ [rowF (AV.int .i64) 1 k l]) (VRes own (addVs l t.vs)) := by subst ha; exact ih
  clear ha
  refine Sem.assume fun hg0 _ => ?_
  have hg := (good_tm (hg0 a.avw (by simp) rfl)).2.1
  have hgu : a.use.length ≤ 9223372036854775807 := by unfold Tm.use; split <;> simp [hg]
  refine opS_constraintref03_vars (by simp) ?_
  conv => whnf
  repeat' ((first | (refine gF ?_; refine CallN.fn (refArgs_ok) ?_) | (refine gC ?_; first | refine cN ?_ | (refine gD ?_; first | refine cI ?_ | refine cJ ?_) | refine CondN.dec (fun hc => ?_) (fun hc => ?_)) | (refine gB ?_; refine .last ?_)) <;> conv => whnf)
  · have hv := Tm.vs_1 hc
    have hu : a.use.length = 0 := by unfold Tm.use; rw [if_neg (by omega)]; rfl
    refine CallN.view (has03_ok (l := l0) (n := a.num)) rfl ?_ ?_
    · refine .cons (.row (l := l0) plainI ?_ rfl) (.cons (.same rfl) .nil)
      simp [rowF]
    conv => whnf
    repeat' ((first | (refine gF ?_; refine CallN.fn (refArgs_ok) ?_) | (refine gC ?_; first | refine .not ?_ | (refine gD ?_; refine cI ?_) | refine CondN.dec (fun hc => ?_) (fun hc => ?_)) | (refine gB ?_; refine .last ?_)) <;> conv => whnf)
    · rw [hv, show addVs l0 [a.num] = l0 from addV_in hc]
      refine LoopP.count (fb := false) 0 (fun st_ _ => st_) (fun _ => True) trivial (EndN.refl _) (fun j hj => by omega) (fun _ => ?_)
      conv => whnf
      repeat' ((first | (refine gC ?_; (refine gD ?_; refine cJ ?_)) | (refine gL ?_; refine .map ?_)) <;> conv => whnf)
      refine RetP.cutS (own := own ++ [rowF (AV.int .i64) 1 k0 l0]) rfl (Nat.le_refl _) ?_ ?_ ?_
      · simp [envLt, AV.lt, AV.lt1, AV.lt0, AV.flat1]
      · exact boxesLt_app (boxesLt_le (by simp) ho) rowF_lt
      · exact RetP.slot ⟨[], k0, hk0, rfl, rfl, rfl⟩
    · refine AppN.one (l := l0) plainI (by simp [rowF]) rfl hk0 (by omega) (fun k2 hk2 => ?_)
      rw [setLast2]
      conv => whnf
      skip
      refine BxAt.of (cs := [.int .i64 a.kind, .int .i64 a.num, .str a.name, .sl .no (a.args.map Tm.av)]) (by simp [boxCells, Box.cs?]) ?_
      conv => whnf
      repeat' ((refine gF ?_; refine CallN.fn (refArgs_ok) ?_) <;> conv => whnf)
      rw [hv, show addVs l0 [a.num] = l0 ++ [a.num] from addV_out hc]
      refine LoopP.count (fb := false) 0 (fun st_ _ => st_) (fun _ => True) trivial (EndN.refl _) (fun j hj => by omega) (fun _ => ?_)
      conv => whnf
      repeat' ((first | (refine gC ?_; (refine gD ?_; refine cJ ?_)) | (refine gL ?_; refine .map ?_)) <;> conv => whnf)
      refine RetP.slot ⟨[.dead, .cells [.int .i64 a.kind, .int .i64 a.num, .str a.name, .sl .no (a.args.map Tm.av)]], k2, hk2, rfl, ?_, ?_⟩
      · simp [St.get, envGet]
      · simp
  · refine LoopP.by (fb := false) (fun st_ (q : Nat × Nat × List Box) => ⟨[(0, .bsl (own.length + q.2.2.length) (addVs (l0) (Tm.vss (a.use.take q.1))).length q.2.1), (5, slA Tm.av a.use), (6, .int .i64 q.1)], own ++ (q.2.2 ++ [rowF (AV.int .i64) 1 q.2.1 (addVs (l0) (Tm.vss (a.use.take q.1)))]), st_.lo⟩) (fun q => q.1 ≤ a.use.length ∧ (addVs (l0) (Tm.vss (a.use.take q.1))).length ≤ q.2.1 ∧ boxesLt (own.length + q.2.2.length) q.2.2 = true) (fun q => a.use.length - q.1) (0, k0, []) ⟨Nat.zero_le _, by simp [Tm.vss, addVs, *], rfl⟩ ?_ ?_
    · refine EndN.cutS (own := own ++ [rowF (AV.int .i64) 1 k0 l0]) rfl (Nat.le_refl _) ?_ ?_ ?_
      · simp [envLt, AV.lt, AV.lt1, AV.lt0, AV.flat1]
      · exact boxesLt_app (boxesLt_le (by simp) ho) rowF_lt
      · refine EndN.atS ?_ rfl rfl
        conv => whnf
        repeat' ((first | (refine gV ?_; first | refine vE ?_ | refine vI ?_ | (refine WkN.norm ?_ ?_; (focus (simp [AV.norm, AV.norm1, Tm.vss, addVs]; done)))) | exact True.intro) <;> conv => whnf)
    · rintro ⟨j, k1, J⟩ ⟨hj1, hj2, hJ⟩
      dsimp only at hj1 hj2 hJ ⊢
      by_cases hlt : j < a.use.length
      · obtain ⟨x, hxj⟩ : ∃ x, a.use[j]? = some x := ⟨_, List.getElem?_eq_getElem hlt⟩
        have hsp := Tm.vss_split hxj
        have htk := Tm.vss_take hxj
        have hle := congrArg List.length hsp
        simp only [List.length_append] at hle
        have hle2 := addVs_len (Tm.vss (a.use.take j)) (l0)
        have hI := ih x (mem_use (List.mem_of_getElem? hxj)) (own ++ J) (addVs (l0) (Tm.vss (a.use.take j))) k1 (by rw [List.length_append]; exact boxesLt_app (boxesLt_le (Nat.le_add_right _ _) ho) hJ) hj2 (by rw [Tm.vs_2 hc] at hb; omega)
        rw [List.length_append, List.append_assoc] at hI
        conv => whnf
        repeat' ((first | (refine gC ?_; (refine gD ?_; refine cI ?_)) | (refine gL ?_; refine .map ?_) | (refine gI ?_; (refine gT ?_; refine iA ?_))) <;> conv => whnf)
        refine CallN.raw hI ?_
        rintro r bs' ⟨J2, k2, hk2, hJ2, rfl, rfl⟩
        conv => whnf
        repeat' ((refine gW ?_; refine wI ?_) <;> conv => whnf)
        refine ⟨(j + 1, k2, J ++ J2), ⟨⟨hlt, ?_, ?_⟩, by simp only; omega⟩, ?_⟩
        · dsimp only; rw [htk, addVs_app]; exact hk2
        · dsimp only
          rw [List.length_append, ← Nat.add_assoc]
          rw [List.length_append] at hJ2
          exact boxesLt_app (boxesLt_le (Nat.le_add_right _ _) hJ) hJ2
        · dsimp only
          rw [htk, addVs_app]
          refine EndN.atS ?_ (by simp) rfl
          conv => whnf
          repeat' ((first | (refine gV ?_; first | refine vE ?_ | refine vI ?_ | (refine WkN.norm ?_ ?_; (focus (simp [AV.norm, AV.norm1, Nat.add_assoc]; done)))) | exact True.intro) <;> conv => whnf)
      · obtain rfl : j = a.use.length := by omega
        rw [List.take_length] at hj2
        conv => whnf
        repeat' ((first | (refine gC ?_; (refine gD ?_; refine cJ ?_)) | (refine gL ?_; refine .map ?_)) <;> conv => whnf)
        rw [List.take_length, Tm.vs_2 hc]
        exact RetP.slot ⟨J, k1, hj2, hJ, rfl, rfl⟩
set_option maxRecDepth 100000 in
theorem rvars0_of (a : Tm) (own : List Box) (ho : boxesLt own.length own = true) (hb : a.vs.length ≤ 1000000) : AM.Sem Try.prog 68 [.sl .full [], a.avw] own (VRes own (addVs [] a.vs)) := by
  have ih : ∀ t ∈ a.args, ∀ (own : List Box) (l : List Int) (k : Nat), boxesLt own.length own = true → l.length ≤ k → l.length + t.vs.length ≤ 1000000 →
    AM.Sem Try.prog 68 [.bsl own.length l.length k, t.avw] (own ++ [rowF (AV.int .i64) 1 k l]) (VRes own (addVs l t.vs)) := fun t _ => rvars_of t
  have hb : ([] : List Int).length + a.vs.length ≤ 1000000 := by simpa using hb
  refine Sem.assume fun hg0 _ => ?_
  have hg := (good_tm (hg0 a.avw (by simp) rfl)).2.1
  have hgu : a.use.length ≤ 9223372036854775807 := by unfold Tm.use; split <;> simp [hg]
  refine opS_constraintref03_vars (by simp) ?_
  conv => whnf
  repeat' ((first | (refine gF ?_; first | refine CallN.fn (refArgs_ok) ?_ | refine CallN.fn (has03_ok (l := []) (n := a.num)) ?_) | (refine gC ?_; first | refine cN ?_ | refine .not ?_ | (refine gD ?_; first | refine cI ?_ | refine cJ ?_) | refine CondN.dec (fun hc => ?_) (fun hc => ?_)) | (refine gB ?_; refine .last ?_)) <;> conv => whnf)
  · cases hc
  · have hv := Tm.vs_1 (t := a) (by assumption)
    have hu : a.use.length = 0 := by unfold Tm.use; rw [if_neg (by omega)]; rfl
    refine AppN.nilRow (l' := [a.num]) plainI (by simp) (fun k2 hk2 => ?_)
    conv => whnf
    repeat' ((first | (refine gF ?_; refine CallN.fn (refArgs_ok) ?_) | (refine gB ?_; refine .last2 ?_)) <;> conv => whnf)
    rw [hv, show addVs [] [a.num] = [a.num] from rfl]
    refine LoopP.count (fb := false) 0 (fun st_ _ => st_) (fun _ => True) trivial (EndN.refl _) (fun j hj => by omega) (fun _ => ?_)
    conv => whnf
    repeat' ((first | (refine gC ?_; (refine gD ?_; refine cJ ?_)) | (refine gL ?_; refine .map ?_)) <;> conv => whnf)
    refine RetP.slot ⟨[.cells [.int .i64 a.kind, .int .i64 a.num, .str a.name, .sl .no (a.args.map Tm.av)]], k2, hk2, rfl, ?_, ?_⟩
    · simp [St.get, envGet]
    · simp
  · refine LoopP.by (fb := false) (fun st_ (q : Nat × Nat × List Box) => ⟨[(0, .bsl (own.length + q.2.2.length) (addVs ([]) (Tm.vss (a.use.take q.1))).length q.2.1), (5, slA Tm.av a.use), (6, .int .i64 q.1)], own ++ (q.2.2 ++ [rowF (AV.int .i64) 1 q.2.1 (addVs ([]) (Tm.vss (a.use.take q.1)))]), st_.lo⟩) (fun q => q.1 ≤ a.use.length ∧ (addVs ([]) (Tm.vss (a.use.take q.1))).length ≤ q.2.1 ∧ boxesLt (own.length + q.2.2.length) q.2.2 = true) (fun q => a.use.length - q.1) (0, 0, []) ⟨Nat.zero_le _, by simp [Tm.vss, addVs, *], rfl⟩ ?_ ?_
    · refine EndN.cutS (own := own) rfl (Nat.le_refl _) rfl ho ?_
      refine EndN.toRow 0 rfl ?_
      refine EndN.atS ?_ rfl rfl
      conv => whnf
      repeat' ((first | (refine gV ?_; first | refine vE ?_ | refine vI ?_ | (refine WkN.norm ?_ ?_; (focus (simp [AV.norm, AV.norm1, Tm.vss, addVs]; done)))) | exact True.intro) <;> conv => whnf)
    · rintro ⟨j, k1, J⟩ ⟨hj1, hj2, hJ⟩
      dsimp only at hj1 hj2 hJ ⊢
      by_cases hlt : j < a.use.length
      · obtain ⟨x, hxj⟩ : ∃ x, a.use[j]? = some x := ⟨_, List.getElem?_eq_getElem hlt⟩
        have hsp := Tm.vss_split hxj
        have htk := Tm.vss_take hxj
        have hle := congrArg List.length hsp
        simp only [List.length_append] at hle
        have hle2 := addVs_len (Tm.vss (a.use.take j)) ([])
        have hI := ih x (mem_use (List.mem_of_getElem? hxj)) (own ++ J) (addVs ([]) (Tm.vss (a.use.take j))) k1 (by rw [List.length_append]; exact boxesLt_app (boxesLt_le (Nat.le_add_right _ _) ho) hJ) hj2 (by rw [Tm.vs_2 hc] at hb; omega)
        rw [List.length_append, List.append_assoc] at hI
        conv => whnf
        repeat' ((first | (refine gC ?_; (refine gD ?_; refine cI ?_)) | (refine gL ?_; refine .map ?_) | (refine gI ?_; (refine gT ?_; refine iA ?_))) <;> conv => whnf)
        refine CallN.raw hI ?_
        rintro r bs' ⟨J2, k2, hk2, hJ2, rfl, rfl⟩
        conv => whnf
        repeat' ((refine gW ?_; refine wI ?_) <;> conv => whnf)
        refine ⟨(j + 1, k2, J ++ J2), ⟨⟨hlt, ?_, ?_⟩, by simp only; omega⟩, ?_⟩
        · dsimp only; rw [htk, addVs_app]; exact hk2
        · dsimp only
          rw [List.length_append, ← Nat.add_assoc]
          rw [List.length_append] at hJ2
          exact boxesLt_app (boxesLt_le (Nat.le_add_right _ _) hJ) hJ2
        · dsimp only
          rw [htk, addVs_app]
          refine EndN.atS ?_ (by simp) rfl
          conv => whnf
          repeat' ((first | (refine gV ?_; first | refine vE ?_ | refine vI ?_ | (refine WkN.norm ?_ ?_; (focus (simp [AV.norm, AV.norm1, Nat.add_assoc]; done)))) | exact True.intro) <;> conv => whnf)
      · obtain rfl : j = a.use.length := by omega
        rw [List.take_length] at hj2
        conv => whnf
        repeat' ((first | (refine gC ?_; (refine gD ?_; refine cJ ?_)) | (refine gL ?_; refine .map ?_)) <;> conv => whnf)
        rw [List.take_length, Tm.vs_2 hc]
        exact RetP.slot ⟨J, k1, hj2, hJ, rfl, rfl⟩
set_option maxRecDepth 100000 in
theorem refVars_ok {t : Tm} (hb : t.vs.length ≤ 100000) : Fun Try.prog 54 [t.avw] (slA intA (firsts t.vs)) := by
  refine Fun.of (opS_constraintref03_Vars (by simp) ?_) rfl rfl
  conv => whnf
  repeat' ((refine gB ?_; refine .last ?_) <;> conv => whnf)
  refine CallN.raw (rvars0_of t _ rfl (by omega)) ?_
  rintro r bs' ⟨J, k, hk, hJ, rfl, rfl⟩
  conv => whnf
  skip
  refine RetP.froze (l := addVs [] t.vs) plainI rfl (by simp [rowF, Nat.add_comm 1]) rfl ?_
  exact RetP.slot rfl
end Go.CK

