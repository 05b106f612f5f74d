/-
  Texts of this claim joined (wip/gen/bundle.py), those declarations only that are needed: PzA PzB PzC PzD FunC Read. By an AI agent.
-/
import Derived.Test.YtamhnlajkncccaaGreatBax
import Derived.Test.YtamhnlajkncccaaGreatBap
import Derived.Test.YtamhnlajkncccaaGreatRows
import Derived.Test.YtamhnlajkncccaaGreatBaa
import Derived.ProofKit
import Derived.OpenShut
import Derived.ShutString
import Derived.ChangeOld
import Derived.JoinedCond
import Derived.Deep.Slices
import Derived.Lib.SmallJoins
import Derived.SizedLaws
set_option linter.unusedSimpArgs false
set_option linter.unusedVariables false
namespace Go.CK
open Go.AM Go.Proofs
theorem idxV_some {l : List Tm} {x : Int} {i : Nat} : ∀ {j : Nat}, idxV l x j = some i → i < j ∧ ∃ t, l[i]? = some t ∧ x = t.num
  | 0, h => by cases h
  | j + 1, h => by
    rw [idxV] at h
    split at h
    · obtain ⟨q, r⟩ := idxV_some h
      exact ⟨by omega, r⟩
    · rename_i t ht
      split at h
      · rename_i e
        cases h
        exact ⟨by omega, t, ht, e⟩
      · obtain ⟨q, r⟩ := idxV_some h
        exact ⟨by omega, r⟩
theorem idxV_none {l : List Tm} {x : Int} : ∀ {j : Nat}, idxV l x j = none → ∀ i t, i < j → l[i]? = some t → ¬ x = t.num
  | 0, h, i, t, hi, ht => by omega
  | j + 1, h, i, t, hi, ht => by
    rw [idxV] at h
    split at h
    · rename_i e
      rcases Nat.lt_or_eq_of_le (Nat.le_of_lt_succ hi) with q | q
      · exact idxV_none h i t q ht
      · subst q; rw [e] at ht; cases ht
    · rename_i t' ht'
      split at h
      · cases h
      · rename_i e
        rcases Nat.lt_or_eq_of_le (Nat.le_of_lt_succ hi) with q | q
        · exact idxV_none h i t q ht
        · subst q; rw [ht'] at ht; cases ht; exact e
theorem idxV_is {l : List Tm} {x : Int} {j i : Nat} {t : Tm} (hi : i < j) (ht : l[i]? = some t) (hx : x = t.num) (hu : ∀ i' t', i < i' → i' < j → l[i']? = some t' → ¬ x = t'.num) : idxV l x j = some i := by
  cases h : idxV l x j with
  | none => exact absurd hx (idxV_none h i t hi ht)
  | some m =>
    have : ∀ {j m : Nat}, idxV l x j = some m → ∀ i t, i < j → l[i]? = some t → x = t.num → i ≤ m := fun {j} => by
      induction j with
      | zero => intro m h; cases h
      | succ j ih =>
        intro m h i t hi ht hx
        rw [idxV] at h
        split at h
        · rename_i e
          rcases Nat.lt_or_eq_of_le (Nat.le_of_lt_succ hi) with q | q
          · exact ih h i t q ht hx
          · subst q; rw [e] at ht; cases ht
        · rename_i t' ht'
          split at h
          · cases h; omega
          · rename_i e
            rcases Nat.lt_or_eq_of_le (Nat.le_of_lt_succ hi) with q | q
            · exact ih h i t q ht hx
            · subst q; rw [ht'] at ht; cases ht; exact absurd hx e
    have h1 := this h i t hi ht hx
    obtain ⟨h2, t', h3, h4⟩ := idxV_some h
    rcases Nat.lt_or_eq_of_le h1 with q | q
    · exact absurd h4 (hu m t' q h2 h3)
    · rw [q]
theorem plainV_le {l : List Tm} {j n : Nat} (h : plainV l n = true) (hj : j ≤ n) : plainV l j = true := by
  cases e : plainV l j with
  | true => rfl
  | false => rw [plainV_no e hj] at h; cases h
theorem plainV_idx {l : List Tm} {j : Nat} {t : Tm} (h : plainV l (j + 1) = true) (ht : l[j]? = some t) : idxV l t.num j = none := by
  rw [plainV_at ht, Bool.and_eq_true, Bool.and_eq_true, Option.isNone_iff_eq_none] at h
  exact h.2.2
theorem idxV_plain {l : List Tm} {n k : Nat} {u : Tm} {x : Int} (h : plainV l n = true) (hu : l[k]? = some u) (hk : k < n) (hx : x = u.num) : idxV l x n = some k :=
  idxV_is hk hu hx fun i' t' h1 h2 h3 e => by
    have := plainV_idx (plainV_le h h2) h3
    exact idxV_none this k u h1 hu (by rw [← e, hx])
set_option maxRecDepth 100000 in
theorem refPlain_ok {a : At} (ha : a.args.length ≤ 100000) : Fun Tryz.prog 64 [a.av] (.bool (plainV a.args a.args.length)) := by
  refine Fun.of (op_constraintref28_plain (by simp) ?_) rfl rfl
  conv => whnf
  conv => whnf
  skip
  refine LoopP.count (fb := true) (a.args.length) (fun st_ j => st_.sets [(3, .int .i64 j)]) (fun j => plainV a.args j = true) ?_ ?_ (fun j hj hij => ?_) (fun hij => ?_)
  · rfl
  · refine EndN.at_ ?_ rfl
    conv => whnf
    refine And.intro ?_ ?_ <;> conv => whnf
    all_goals repeat' ((first | (refine gV ?_; first | refine vE ?_ | refine vI ?_) | (refine gX ?_; refine xB ?_) | exact True.intro) <;> conv => whnf)
  · obtain ⟨t, ht⟩ : ∃ t, a.args[j]? = some t := ⟨_, List.getElem?_eq_getElem hj⟩
    have hpa := plainV_at ht
    rw [hij, Bool.true_and] at hpa
    have hno : plainV a.args (j + 1) = false → plainV a.args a.args.length = false := fun h => plainV_no h hj
    conv => whnf
    repeat' ((first | (refine gC ?_; first | refine .not ?_ | (refine gD ?_; refine cI ?_) | refine CondN.dec (fun hc => ?_) (fun hc => ?_)) | (refine gL ?_; refine .map ?_) | (refine gI ?_; (refine gT ?_; refine iA ?_)) | refine RetP.nrm ?_) <;> conv => whnf)
    · have hk1 : t.kind = 1 := by assumption
      rw [decide_eq_true hk1, Bool.true_and] at hpa
      refine LoopP.count (fb := true) (j) (fun st_ k => st_.sets [(4, .int .i64 k)]) (fun k => idxV a.args t.num k = none) ?_ ?_ (fun k hk hik => ?_) (fun hik => ?_)
      · rfl
      · refine EndN.at_ ?_ rfl
        conv => whnf
        refine And.intro ?_ ?_ <;> conv => whnf
        all_goals repeat' ((first | (refine gV ?_; first | refine vE ?_ | refine vI ?_) | (refine gX ?_; refine xB ?_) | exact True.intro) <;> conv => whnf)
      · obtain ⟨u, hu⟩ : ∃ u, a.args[k]? = some u := ⟨_, List.getElem?_eq_getElem (by omega)⟩
        have hi1 : idxV a.args t.num (k + 1) = if t.num = u.num then some k else idxV a.args t.num k := by rw [idxV, hu]
        conv => whnf
        repeat' ((first | (refine gC ?_; first | (refine gD ?_; refine cI ?_) | refine CondN.dec (fun hc => ?_) (fun hc => ?_)) | (refine gW ?_; refine wI ?_) | (refine gI ?_; (refine gT ?_; refine iA ?_)) | refine RetP.nrm ?_) <;> conv => whnf)
        · have he : t.num = u.num := by omega
          have : plainV a.args a.args.length = false := by
            cases e : plainV a.args a.args.length with
            | false => rfl
            | true => exact absurd he (idxV_none (plainV_idx (plainV_le e hj) ht) k u hk hu)
          rw [this]
        · refine ⟨by rw [hi1, if_neg (by omega)]; exact hik, ?_⟩
          refine EndN.at_ ?_ rfl
          conv => whnf
          refine And.intro ?_ ?_ <;> conv => whnf
          all_goals repeat' ((first | (refine gV ?_; first | refine vE ?_ | refine vI ?_) | (refine gX ?_; refine xB ?_) | exact True.intro) <;> conv => whnf)
      · conv => whnf
        repeat' ((first | (refine gC ?_; (refine gD ?_; refine cJ ?_)) | (refine gW ?_; refine wI ?_)) <;> conv => whnf)
        refine ⟨by rw [hpa, hik]; rfl, ?_⟩
        refine EndN.at_ ?_ rfl
        conv => whnf
        refine And.intro ?_ ?_ <;> conv => whnf
        all_goals repeat' ((first | (refine gV ?_; first | refine vE ?_ | refine vI ?_) | (refine gX ?_; refine xB ?_) | exact True.intro) <;> conv => whnf)
    · rw [hno (by rw [hpa, decide_eq_false (by assumption)]; rfl)]
  · conv => whnf
    repeat' ((first | (refine gC ?_; (refine gD ?_; refine cJ ?_)) | (refine gL ?_; refine .map ?_) | refine RetP.nrm ?_) <;> conv => whnf)
    rw [hij]
set_option maxRecDepth 100000 in
theorem same28_ok {a b : Ky} : Fun Tryz.prog 44 [a.av, b.av] (.bool (decide (a = b))) := by
  refine Fun.assume rfl fun hg0 => ?_
  have hpl := (good_sla (good_agg (hg0 a.av (by simp)) (slA intA a.positions) (by simp))).1
  refine Fun.of (op_constraintref28_Same (by simp) ?_) rfl rfl
  conv => whnf
  conv => whnf
  repeat' ((first | (refine gC ?_; first | refine cY ?_ | refine .not ?_ | (refine gD ?_; first | refine cI ?_ | refine cJ ?_) | refine CondN.dec (fun hc => ?_) (fun hc => ?_)) | (refine gL ?_; refine .map ?_) | refine RetP.nrm ?_) <;> conv => whnf)
  · refine LoopP.count (fb := true) (a.positions.length) (fun st_ j => st_.sets [(5, .int .i64 j)]) (fun j => upTo a.positions b.positions j) ?_ ?_ (fun j hj hij => ?_) (fun hij => ?_)
    · exact upTo.zero
    · refine EndN.at_ ?_ rfl
      conv => whnf
      refine And.intro ?_ ?_ <;> conv => whnf
      all_goals repeat' ((first | (refine gV ?_; first | refine vE ?_ | refine vI ?_) | (refine gX ?_; refine xB ?_) | exact True.intro) <;> conv => whnf)
    · conv => whnf
      repeat' ((first | (refine gC ?_; first | refine .not ?_ | (refine gD ?_; refine cI ?_) | refine CondN.dec (fun hc => ?_) (fun hc => ?_)) | (refine gW ?_; refine wI ?_) | (refine gL ?_; refine .map ?_) | (refine gI ?_; (refine gM ?_; refine iH fun x hx => ?_)) | refine RetP.nrm ?_) <;> conv => whnf)
      · refine ⟨hij.succ (by assumption) (by assumption) (by assumption), ?_⟩
        refine EndN.at_ ?_ rfl
        conv => whnf
        refine And.intro ?_ ?_ <;> conv => whnf
        all_goals repeat' ((first | (refine gV ?_; first | refine vE ?_ | refine vI ?_) | (refine gX ?_; refine xB ?_) | exact True.intro) <;> conv => whnf)
      · exact bool_no (fun e => ne_at (by assumption) (by assumption) (by assumption) (congrArg Ky.positions e))
    · conv => whnf
      repeat' ((first | (refine gC ?_; (refine gD ?_; refine cJ ?_)) | (refine gL ?_; refine .map ?_) | refine RetP.nrm ?_) <;> conv => whnf)
      exact bool_yes (Ky.ext_iff.2 ⟨by assumption, by assumption, hij.all (by omega)⟩)
  all_goals exact bool_no (fun e => by subst e; first | omega | contradiction)
/-- the shared places after j ones, when k arguments of the other head were asked -/
def inT (l : List Tm) (ps : List Int) (x : Int) (j k : Nat) : Option (List Int) := match idxV l x k with
  | none => some ps
  | some m => if m = j then some (ps ++ [(j : Int)]) else none
theorem inT_len {l : List Tm} {ps qs : List Int} {x : Int} {j k : Nat} (h : inT l ps x j k = some qs) : qs.length ≤ ps.length + 1 := by
  rw [inT] at h
  split at h
  · cases h; omega
  · split at h
    · cases h; simp
    · cases h
set_option maxRecDepth 100000 in
set_option maxHeartbeats 2000000 in
theorem refOfRule_ok {r : Rl} (hr : r.ok2) (hg : r.okG) : Fun Tryz.prog 43 [r.av] (ofRuleAV (ofRuleI r)) := by
  have hgl := hg.1
  have hh := refHeads_ok (x := r) (by have := hr.1; omega)
  by_cases h2 : r.heads.length = 2
  · obtain ⟨a, b, hab⟩ : ∃ a b, r.heads = [a, b] := by
      match r.heads, h2 with
      | [a, b], _ => exact ⟨a, b, rfl⟩
    have hal := (hr.2 a (by rw [hab]; simp)).1
    have hbl := (hr.2 b (by rw [hab]; simp)).1
    rw [hab] at hh
    rw [ofRuleI, hab]
    have h20 : (([a, b] : List At).length : Int) = 2 := rfl
    have hx0 : ([a, b] : List At)[(0 : Int).toNat]? = some a := rfl
    have hx1 : ([a, b] : List At)[(1 : Int).toNat]? = some b := rfl
    have hpa := refPlain_ok (a := a) (by omega)
    have hpb := refPlain_ok (a := b) (by omega)
    by_cases hc0 : r.remove.length = 0 ∨ 0 < r.guard.length
    · rw [if_pos hc0]
      refine Fun.of (op_constraintref28_OfRule (by simp) ?_) rfl rfl
      conv => whnf
      conv => whnf
      repeat' ((first | (refine gF ?_; refine CallN.fn (hh) ?_) | (refine gC ?_; first | refine cY ?_ | refine .not ?_ | (refine gD ?_; first | refine cI ?_ | refine cJ ?_) | refine CondN.dec (fun hc => ?_) (fun hc => ?_)) | (refine gL ?_; refine .map ?_) | refine RetP.nrm ?_) <;> conv => whnf)
      all_goals first | rfl | (exfalso; omega)
    · rw [if_neg hc0]
      dsimp only
      by_cases hn : a.name = b.name
      · by_cases hl : a.args.length = b.args.length
        · cases ha : plainV a.args a.args.length with
          | false =>
            rw [ha] at hpa
            rw [if_neg (by simp)]
            refine Fun.of (op_constraintref28_OfRule (by simp) ?_) rfl rfl
            conv => whnf
            conv => whnf
            repeat' ((first | (refine gF ?_; refine CallN.fn (hh) ?_) | (refine gG ?_; refine CallP.fn (hpa) ?_) | (refine gC ?_; first | refine cY ?_ | refine cN ?_ | refine .not ?_ | (refine gD ?_; first | refine cI ?_ | refine cJ ?_)) | (refine gL ?_; refine .map ?_) | (refine gI ?_; (refine gM ?_; refine iE ?_)) | refine RetP.nrm ?_) <;> conv => whnf)
            all_goals first | rfl | (exfalso; omega)
          | true =>
            rw [ha] at hpa
            cases hb : plainV b.args b.args.length with
            | false =>
              rw [hb] at hpb
              rw [if_neg (by simp)]
              refine Fun.of (op_constraintref28_OfRule (by simp) ?_) rfl rfl
              conv => whnf
              conv => whnf
              repeat' ((first | (refine gF ?_; refine CallN.fn (hh) ?_) | (refine gG ?_; first | refine CallP.fn (hpa) ?_ | refine CallP.fn (hpb) ?_) | (refine gC ?_; first | refine cY ?_ | refine cN ?_ | refine .not ?_ | (refine gD ?_; first | refine cI ?_ | refine cJ ?_)) | (refine gL ?_; refine .map ?_) | (refine gI ?_; (refine gM ?_; refine iE ?_)) | refine RetP.nrm ?_) <;> conv => whnf)
              all_goals first | rfl | (exfalso; omega)
            | true =>
              rw [hb] at hpb
              rw [if_pos (by simp [hn, hl])]
              refine Fun.of (op_constraintref28_OfRule (by simp) ?_) rfl (ofRuleAV_lt _)
              conv => whnf
              conv => whnf
              repeat' ((first | (refine gF ?_; refine CallN.fn (hh) ?_) | (refine gG ?_; first | refine CallP.fn (hpa) ?_ | refine CallP.fn (hpb) ?_) | (refine gC ?_; first | refine cY ?_ | refine .not ?_ | (refine gD ?_; first | refine cI ?_ | refine cJ ?_)) | (refine gL ?_; refine .map ?_) | (refine gI ?_; (refine gM ?_; refine iE ?_))) <;> conv => whnf)
              refine LoopP.count (fb := true) a.args.length (fun st_ j => (st_.sets [(6, .int .i64 j)]).upd (.bx 2 2) (.sl (.own 1) (((shareT a.args b.args j).getD []).map intA))) (fun j => (shareT a.args b.args j).isSome = true) rfl ?_ (fun j hj hij => ?_) (fun hij => ?_)
              · refine EndN.claimB 2 2 1 rfl (by simp) ?_
                refine EndN.at_ ?_ rfl
                conv => whnf
                refine And.intro ?_ ?_ <;> conv => whnf
                all_goals repeat' ((first | (refine gV ?_; first | refine vE ?_ | refine vI ?_) | (refine gX ?_; first | refine xB ?_ | (refine BxN.mk ?_ ?_; (focus (simp [AV.norm, AV.norm1, shareT]; done)))) | exact True.intro) <;> conv => whnf)
              · obtain ⟨t, ht⟩ : ∃ t, a.args[j]? = some t := ⟨_, List.getElem?_eq_getElem hj⟩
                obtain ⟨ps, hps⟩ := Option.isSome_iff_exists.1 hij
                have hpl := shareT_len hps
                have hsu : shareT a.args b.args (j + 1) = inT b.args ps t.num j b.args.length := by rw [shareT, hps, ht]; rfl
                have hno : shareT a.args b.args (j + 1) = none → shareT a.args b.args a.args.length = none := fun h => shareT_no h hj
                rw [hps, Option.getD_some]
                conv => whnf
                repeat' ((first | (refine gC ?_; (refine gD ?_; refine cI ?_)) | (refine gL ?_; refine .map ?_) | (refine gI ?_; (refine gM ?_; refine iE ?_))) <;> conv => whnf)
                refine LoopP.count (fb := true) b.args.length (fun st_ k => (st_.sets [(7, .int .i64 k)]).upd (.bx 2 2) (.sl (.own 1) (((inT b.args ps t.num j k).getD []).map intA))) (fun k => (inT b.args ps t.num j k).isSome = true) rfl ?_ (fun k hk hik => ?_) (fun hik => ?_)
                · refine EndN.at_ ?_ rfl
                  conv => whnf
                  refine And.intro ?_ ?_ <;> conv => whnf
                  all_goals repeat' ((first | (refine gV ?_; first | refine vE ?_ | refine vI ?_) | (refine gX ?_; first | refine xB ?_ | (refine BxN.mk ?_ ?_; (focus (simp [AV.norm, AV.norm1, inT, idxV]; done)))) | exact True.intro) <;> conv => whnf)
                · obtain ⟨u, hu⟩ : ∃ u, b.args[k]? = some u := ⟨_, List.getElem?_eq_getElem hk⟩
                  obtain ⟨qs, hqs⟩ := Option.isSome_iff_exists.1 hik
                  rw [hqs, Option.getD_some]
                  have hi1 : idxV b.args t.num (k + 1) = if t.num = u.num then some k else idxV b.args t.num k := by rw [idxV, hu]
                  have hql := inT_len hqs
                  by_cases he : t.num = u.num
                  · have hz : idxV b.args t.num k = none := by rw [he]; exact plainV_idx (plainV_le hb hk) hu
                    have hqp : ps = qs := by rw [inT, hz] at hqs; exact Option.some.inj hqs
                    by_cases hkj : k = j
                    · subst hkj
                      have hin : inT b.args ps t.num k (k + 1) = some (qs ++ [(k : Int)]) := by rw [inT, hi1, if_pos he, hqp]; simp
                      conv => whnf
                      repeat' ((first | (refine gC ?_; first | refine .not ?_ | (refine gD ?_; refine cI ?_)) | (refine gW ?_; refine wI ?_) | (refine gL ?_; refine .map ?_) | (refine gN ?_; refine nS ?_) | (refine gI ?_; first | (refine gT ?_; refine iA ?_) | (refine gM ?_; refine iE ?_))) <;> conv => whnf)
                      refine ⟨by rw [hin]; rfl, ?_⟩
                      refine EndN.at_ ?_ rfl
                      conv => whnf
                      refine And.intro ?_ ?_ <;> conv => whnf
                      all_goals repeat' ((first | (refine gV ?_; first | refine vE ?_ | refine vI ?_) | (refine gX ?_; first | refine xB ?_ | (refine BxN.mk ?_ ?_; (focus (simp [AV.norm, AV.norm1, hin]; done)))) | exact True.intro) <;> conv => whnf)
                    · have hin : shareT a.args b.args a.args.length = none := hno (by rw [hsu, inT, idxV_plain hb hu hk he]; simp [hkj])
                      rw [hin]
                      conv => whnf
                      repeat' ((first | (refine gC ?_; first | refine .not ?_ | (refine gD ?_; first | refine cI ?_ | refine cJ ?_)) | (refine gL ?_; refine .map ?_) | (refine gI ?_; first | (refine gT ?_; refine iA ?_) | (refine gM ?_; refine iE ?_)) | refine RetP.nrm ?_) <;> conv => whnf)
                      all_goals rfl
                  · have hin : inT b.args ps t.num j (k + 1) = some qs := by rw [← hqs, inT, inT, hi1, if_neg he]
                    conv => whnf
                    repeat' ((first | (refine gC ?_; first | refine .not ?_ | (refine gD ?_; first | refine cI ?_ | refine cJ ?_)) | (refine gW ?_; refine wI ?_) | (refine gL ?_; refine .map ?_) | (refine gI ?_; first | (refine gT ?_; refine iA ?_) | (refine gM ?_; refine iE ?_))) <;> conv => whnf)
                    refine ⟨by rw [hin]; rfl, ?_⟩
                    refine EndN.at_ ?_ rfl
                    conv => whnf
                    refine And.intro ?_ ?_ <;> conv => whnf
                    all_goals repeat' ((first | (refine gV ?_; first | refine vE ?_ | refine vI ?_) | (refine gX ?_; first | refine xB ?_ | (refine BxN.mk ?_ ?_; (focus (simp [AV.norm, AV.norm1, hin]; done)))) | exact True.intro) <;> conv => whnf)
                · obtain ⟨qs, hqs⟩ := Option.isSome_iff_exists.1 hik
                  rw [hqs] at hsu
                  rw [hqs]
                  conv => whnf
                  repeat' ((first | (refine gC ?_; (refine gD ?_; refine cJ ?_)) | (refine gW ?_; refine wI ?_) | (refine gL ?_; refine .map ?_) | (refine gI ?_; (refine gM ?_; refine iE ?_))) <;> conv => whnf)
                  refine ⟨by rw [hsu]; rfl, ?_⟩
                  refine EndN.at_ ?_ rfl
                  conv => whnf
                  refine And.intro ?_ ?_ <;> conv => whnf
                  all_goals repeat' ((first | (refine gV ?_; first | refine vE ?_ | refine vI ?_) | (refine gX ?_; first | refine xB ?_ | (refine BxN.mk ?_ ?_; (focus (simp [AV.norm, AV.norm1, hsu]; done)))) | exact True.intro) <;> conv => whnf)
              · obtain ⟨ps, hps⟩ := Option.isSome_iff_exists.1 hij
                rw [hps]
                conv => whnf
                repeat' ((first | (refine gC ?_; (refine gD ?_; refine cJ ?_)) | (refine gL ?_; refine .map ?_) | (refine gI ?_; (refine gM ?_; refine iE ?_)) | refine RetP.nrm ?_) <;> conv => whnf)
                rfl
        · rw [if_neg (fun q => hl q.2.1)]
          refine Fun.of (op_constraintref28_OfRule (by simp) ?_) rfl rfl
          conv => whnf
          conv => whnf
          repeat' ((first | (refine gF ?_; refine CallN.fn (hh) ?_) | (refine gC ?_; first | refine cY ?_ | refine .not ?_ | (refine gD ?_; first | refine cI ?_ | refine cJ ?_)) | (refine gL ?_; refine .map ?_) | (refine gI ?_; (refine gM ?_; refine iE ?_)) | refine RetP.nrm ?_) <;> conv => whnf)
          all_goals first | rfl | (exfalso; omega)
      · rw [if_neg (fun q => hn q.1)]
        refine Fun.of (op_constraintref28_OfRule (by simp) ?_) rfl rfl
        conv => whnf
        conv => whnf
        repeat' ((first | (refine gF ?_; refine CallN.fn (hh) ?_) | (refine gC ?_; first | refine cY ?_ | refine .not ?_ | (refine gD ?_; first | refine cI ?_ | refine cJ ?_)) | (refine gL ?_; refine .map ?_) | (refine gI ?_; (refine gM ?_; refine iE ?_)) | refine RetP.nrm ?_) <;> conv => whnf)
        all_goals first | rfl | contradiction
  · have e : ofRuleI r = none := by
      rw [ofRuleI]
      split
      · rfl
      · split
        · rename_i q
          rw [q] at h2
          exact absurd rfl h2
        · rfl
    rw [e]
    refine Fun.of (op_constraintref28_OfRule (by simp) ?_) rfl rfl
    conv => whnf
    conv => whnf
    repeat' ((first | (refine gF ?_; refine CallN.fn (hh) ?_) | (refine gC ?_; first | refine cY ?_ | refine .not ?_ | (refine gD ?_; refine cJ ?_)) | (refine gL ?_; refine .map ?_) | refine RetP.nrm ?_) <;> conv => whnf)
    all_goals first | rfl | (exfalso; omega)
end Go.CK

set_option linter.unusedSimpArgs false
set_option linter.unusedVariables false
namespace Go.CK
open Go.AM Go.Proofs
theorem notin_at {α : Type} [DecidableEq α] {l : List α} {i : Nat} {x k : α} (h : l[i]? = some x) : decide (¬ k ∈ l.take (i + 1)) = (decide (¬ k ∈ l.take i) && !decide (x = k)) := by
  have hi := (List.getElem?_eq_some_iff.1 h)
  rw [List.take_succ_eq_append_getElem hi.1, hi.2, Bool.eq_iff_iff]
  simp only [decide_eq_true_eq, List.mem_append, List.mem_singleton, Bool.and_eq_true, Bool.not_eq_true', decide_eq_false_iff_not, not_or]
  exact ⟨fun ⟨a, b⟩ => ⟨a, fun e => b e.symm⟩, fun ⟨a, b⟩ => ⟨a, fun e => b e.symm⟩⟩
set_option maxRecDepth 100000 in
set_option maxHeartbeats 1000000 in
theorem refKeys_ok {p : Pg} (hp : p.fit) : Fun Tryz.prog 18 [p.av] (slA Ky.av (keysI p)) := by
  have hpl := hp.few
  refine Fun.of (op_constraintref28_Keys (by simp) ?_) rfl rfl
  conv => whnf
  conv => whnf
  skip
  refine LoopP.count (fb := true) (p.rules.length) (fun st_ j => st_.sets [(3, .sl (.own 3) ((keysT p.rules j).map Ky.av)), (4, .int .i64 j)]) (fun _ => True) trivial ?_ (fun j hj _ => ?_) (fun _ => ?_)
  · refine EndN.at_ ?_ rfl
    conv => whnf
    refine And.intro ?_ ?_ <;> conv => whnf
    all_goals repeat' ((first | (refine gV ?_; first | refine vE ?_ | refine vI ?_ | ((refine gK ?_; refine vD ?_ ?_); (focus (simp [AV.norm, AV.norm1, keysT]; done)))) | (refine gX ?_; refine xB ?_) | exact True.intro) <;> conv => whnf)
  · obtain ⟨r, hr⟩ : ∃ r, p.rules[j]? = some r := ⟨_, List.getElem?_eq_getElem hj⟩
    have hrm := List.mem_of_getElem? hr
    have hkl := keysT_len p.rules j
    have hka := keysT_at hr
    have hor := refOfRule_ok (hp.ok2 r hrm) (hp.okG r hrm)
    cases ho : ofRuleI r with
    | none =>
      rw [ho] at hka hor
      dsimp only at hka
      simp only [ofRuleAV] at hor
      conv => whnf
      repeat' ((first | (refine gF ?_; refine CallN.fn (hor) ?_) | (refine gC ?_; (refine gD ?_; refine cI ?_)) | (refine gL ?_; refine .map ?_) | (refine gI ?_; (refine gM ?_; refine iE ?_))) <;> conv => whnf)
      refine LoopP.count (fb := true) ((keysT p.rules j).length) (fun st_ i => st_.sets [(7, .int .i64 i)]) (fun _ => True) trivial ?_ (fun i hi _ => ?_) (fun _ => ?_)
      · refine EndN.at_ ?_ rfl
        conv => whnf
        refine And.intro ?_ ?_ <;> conv => whnf
        all_goals repeat' ((first | (refine gV ?_; first | refine vE ?_ | refine vI ?_) | (refine gX ?_; refine xB ?_) | exact True.intro) <;> conv => whnf)
      · conv => whnf
        repeat' ((first | (refine gC ?_; first | refine cN ?_ | (refine gD ?_; refine cI ?_)) | (refine gW ?_; refine wI ?_) | (refine gL ?_; refine .map ?_)) <;> conv => whnf)
        refine ⟨trivial, ?_⟩
        refine EndN.at_ ?_ rfl
        conv => whnf
        refine And.intro ?_ ?_ <;> conv => whnf
        all_goals repeat' ((first | (refine gV ?_; first | refine vE ?_ | refine vI ?_) | (refine gX ?_; refine xB ?_) | exact True.intro) <;> conv => whnf)
      · conv => whnf
        repeat' ((first | (refine gC ?_; first | refine cN ?_ | (refine gD ?_; refine cJ ?_)) | (refine gW ?_; refine wI ?_) | (refine gL ?_; refine .map ?_)) <;> conv => whnf)
        refine ⟨trivial, ?_⟩
        refine EndN.atC 1 ?_ rfl rfl rfl rfl (by first | rfl | (repeat' (first | rfl | refine bLtRow (row_allI _ _ _) ?_ | refine bLtRow (row_allB _ _ _) ?_ | refine bLtMp ?_ | refine bLtDead ?_ | refine bLtCells rfl ?_)))
        conv => whnf
        refine And.intro ?_ ?_ <;> conv => whnf
        all_goals repeat' ((first | (refine gV ?_; first | refine vE ?_ | refine vI ?_ | (refine WkN.sl ?_ ?_; (focus (simp [AV.norm, AV.norm1, hka]; done)))) | (refine gX ?_; refine xB ?_) | exact True.intro) <;> conv => whnf)
    | some k =>
      rw [ho] at hka hor
      dsimp only at hka
      simp only [ofRuleAV] at hor
      generalize keysT p.rules j = out at *
      conv => whnf
      repeat' ((first | (refine gF ?_; refine CallN.fn (hor) ?_) | (refine gC ?_; (refine gD ?_; refine cI ?_)) | (refine gL ?_; refine .map ?_) | (refine gI ?_; (refine gM ?_; refine iE ?_))) <;> conv => whnf)
      refine LoopP.count (fb := true) (out.length) (fun st_ i => st_.sets [(6, .bool (decide (¬ k ∈ out.take i))), (7, .int .i64 i)]) (fun _ => True) trivial ?_ (fun i hi _ => ?_) (fun _ => ?_)
      · refine EndN.at_ ?_ rfl
        conv => whnf
        refine And.intro ?_ ?_ <;> conv => whnf
        all_goals repeat' ((first | (refine gV ?_; first | refine vE ?_ | refine vI ?_ | (refine WkN.norm ?_ ?_; (focus (simp [AV.norm, AV.norm1, List.take_zero]; done)))) | (refine gX ?_; refine xB ?_) | exact True.intro) <;> conv => whnf)
      · obtain ⟨x, hx⟩ : ∃ x, out[i]? = some x := ⟨_, List.getElem?_eq_getElem hi⟩
        have hni := notin_at (k := k) hx
        cases hn : decide (¬ k ∈ out.take i) with
        | false =>
          rw [hn, Bool.false_and] at hni
          conv => whnf
          repeat' ((first | (refine gC ?_; first | refine cN ?_ | (refine gD ?_; refine cI ?_)) | (refine gW ?_; refine wI ?_) | (refine gL ?_; refine .map ?_)) <;> conv => whnf)
          refine ⟨trivial, ?_⟩
          refine EndN.at_ ?_ rfl
          conv => whnf
          refine And.intro ?_ ?_ <;> conv => whnf
          all_goals repeat' ((first | (refine gV ?_; first | refine vE ?_ | refine vI ?_ | (refine WkN.norm ?_ ?_; (focus (simp [AV.norm, AV.norm1, hni]; done)))) | (refine gX ?_; refine xB ?_) | exact True.intro) <;> conv => whnf)
        | true =>
          rw [hn, Bool.true_and] at hni
          conv => whnf
          repeat' ((first | (refine gG ?_; refine CallP.fn (same28_ok (a := x) (b := k)) ?_) | (refine gC ?_; first | refine cY ?_ | (refine gD ?_; refine cI ?_)) | (refine gW ?_; refine wI ?_) | (refine gL ?_; refine .map ?_) | (refine gI ?_; (refine gM ?_; refine iE ?_))) <;> conv => whnf)
          refine ⟨trivial, ?_⟩
          refine EndN.at_ ?_ rfl
          conv => whnf
          refine And.intro ?_ ?_ <;> conv => whnf
          all_goals repeat' ((first | (refine gV ?_; first | refine vE ?_ | refine vI ?_ | (refine WkN.norm ?_ ?_; (focus (simp [AV.norm, AV.norm1, hni]; done)))) | (refine gX ?_; refine xB ?_) | exact True.intro) <;> conv => whnf)
      · rw [List.take_length]
        by_cases hm : k ∈ out
        · rw [if_pos hm] at hka
          rw [decide_eq_false (by simpa using hm)]
          conv => whnf
          repeat' ((first | (refine gC ?_; first | refine cN ?_ | (refine gD ?_; refine cJ ?_)) | (refine gW ?_; refine wI ?_) | (refine gL ?_; refine .map ?_)) <;> conv => whnf)
          refine ⟨trivial, ?_⟩
          refine EndN.atC 1 ?_ rfl rfl rfl rfl (by first | rfl | (repeat' (first | rfl | refine bLtRow (row_allI _ _ _) ?_ | refine bLtRow (row_allB _ _ _) ?_ | refine bLtMp ?_ | refine bLtDead ?_ | refine bLtCells rfl ?_)))
          conv => whnf
          refine And.intro ?_ ?_ <;> conv => whnf
          all_goals repeat' ((first | (refine gV ?_; first | refine vE ?_ | refine vI ?_ | (refine WkN.sl ?_ ?_; (focus (simp [AV.norm, AV.norm1, hka]; done)))) | (refine gX ?_; refine xB ?_) | exact True.intro) <;> conv => whnf)
        · rw [if_neg hm] at hka
          rw [decide_eq_true hm]
          conv => whnf
          repeat' ((first | (refine gC ?_; first | refine cY ?_ | (refine gD ?_; refine cJ ?_)) | (refine gW ?_; refine wI ?_) | (refine gL ?_; refine .map ?_) | (refine gN ?_; refine nS ?_)) <;> conv => whnf)
          refine ⟨trivial, ?_⟩
          refine EndN.atC 1 ?_ rfl rfl rfl rfl (by first | rfl | (repeat' (first | rfl | refine bLtRow (row_allI _ _ _) ?_ | refine bLtRow (row_allB _ _ _) ?_ | refine bLtMp ?_ | refine bLtDead ?_ | refine bLtCells rfl ?_)))
          conv => whnf
          refine And.intro ?_ ?_ <;> conv => whnf
          all_goals repeat' ((first | (refine gV ?_; first | refine vE ?_ | refine vI ?_ | (refine WkN.sl ?_ ?_; (focus (simp [AV.norm, AV.norm1, hka, Ky.av]; done)))) | (refine gX ?_; refine xB ?_) | exact True.intro) <;> conv => whnf)
  · conv => whnf
    repeat' ((first | (refine gC ?_; (refine gD ?_; refine cJ ?_)) | (refine gL ?_; refine .map ?_) | refine RetP.nrm ?_) <;> conv => whnf)
    rfl
set_option maxRecDepth 100000 in
set_option maxHeartbeats 1000000 in
theorem refAll29_ok {p : Pg} (hp : p.fit) (hl : p.occs.length ≤ 1000000) (hof : ∀ o, Fun Tryz.prog 10 [p.av, slA Ky.av (keysI p), o.av] (ofI p (keysI p) o).av) : Fun Tryz.prog 7 [p.av] (slA Pl.av (allI p)) := by
  have hpl := hp.few
  refine Fun.of (op_constraintref29_All (by simp) ?_) rfl rfl
  conv => whnf
  conv => whnf
  repeat' ((refine gF ?_; first | refine CallN.fn (refKeys_ok hp) ?_ | refine CallN.fn (refAll_ok hp.ok hp.few) ?_) <;> conv => whnf)
  rw [allI]
  generalize keysI p = keys at *
  generalize p.occs = l at *
  refine LoopP.count (fb := true) (l.length) (fun st_ j => st_.sets [(5, .sl (.own 6) (((l.take j).map (ofI p keys)).map Pl.av)), (6, .int .i64 j)]) (fun _ => True) trivial ?_ (fun j hj _ => ?_) (fun _ => ?_)
  · refine EndN.at_ ?_ rfl
    conv => whnf
    refine And.intro ?_ ?_ <;> conv => whnf
    all_goals repeat' ((first | (refine gV ?_; first | refine vE ?_ | refine vI ?_ | ((refine gK ?_; refine vD ?_ ?_); (focus (simp [AV.norm, AV.norm1, ]; done)))) | (refine gX ?_; refine xB ?_) | exact True.intro) <;> conv => whnf)
  · obtain ⟨o, ho⟩ : ∃ o, l[j]? = some o := ⟨_, List.getElem?_eq_getElem hj⟩
    have hs : l.take (j + 1) = l.take j ++ [o] := by
      rw [List.take_succ_eq_append_getElem hj, (List.getElem?_eq_some_iff.1 ho).2]
    have htl := List.length_take_le j l
    have hml : (List.map (ofI p keys) (l.take j)).length ≤ j := by rw [List.length_map]; omega
    conv => whnf
    repeat' ((first | (refine gG ?_; refine CallP.fn (hof o) ?_) | (refine gC ?_; (refine gD ?_; refine cI ?_)) | (refine gW ?_; refine wI ?_) | (refine gL ?_; refine .map ?_) | (refine gN ?_; refine nS ?_) | (refine gI ?_; (refine gM ?_; refine iE ?_))) <;> conv => whnf)
    refine ⟨trivial, ?_⟩
    refine EndN.atC 1 ?_ rfl rfl rfl rfl (by first | rfl | (repeat' (first | rfl | refine bLtRow (row_allI _ _ _) ?_ | refine bLtRow (row_allB _ _ _) ?_ | refine bLtMp ?_ | refine bLtDead ?_ | refine bLtCells rfl ?_)))
    conv => whnf
    refine And.intro ?_ ?_ <;> conv => whnf
    all_goals repeat' ((first | (refine gV ?_; first | refine vE ?_ | refine vI ?_ | (refine WkN.sl ?_ ?_; (focus (simp [AV.norm, AV.norm1, hs, Pl.av]; done)))) | (refine gX ?_; refine xB ?_) | exact True.intro) <;> conv => whnf)
  · conv => whnf
    repeat' ((first | (refine gC ?_; (refine gD ?_; refine cJ ?_)) | (refine gL ?_; refine .map ?_) | refine RetP.nrm ?_) <;> conv => whnf)
    rw [List.take_length]
end Go.CK

set_option linter.unusedSimpArgs false
set_option linter.unusedVariables false
namespace Go.CK
open Go.AM Go.Proofs
/-- the first greatest one -/
def bI (f : Nat → Int) : Nat → Nat
  | 0 => 0
  | j + 1 => if f (bI f j) < f j then j else bI f j
theorem bI_is (f : Nat → Int) : ∀ j, 0 < j → bI f j < j ∧ ∀ i, i < j → f i ≤ f (bI f j) ∧ (f i = f (bI f j) → bI f j ≤ i)
  | 1, _ => by
    have : bI f 1 = 0 := by simp [bI]
    rw [this]
    exact ⟨by omega, fun i hi => by
      obtain rfl : i = 0 := by omega
      exact ⟨Int.le_refl _, fun _ => Nat.le_refl _⟩⟩
  | j + 2, _ => by
    obtain ⟨h1, h2⟩ := bI_is f (j + 1) (by omega)
    rw [bI]
    split
    · rename_i h
      refine ⟨by omega, fun i hi => ?_⟩
      rcases Nat.lt_or_eq_of_le (Nat.le_of_lt_succ hi) with q | q
      · have := h2 i q
        exact ⟨by omega, fun e => by omega⟩
      · rw [q]; exact ⟨Int.le_refl _, fun _ => Nat.le_refl _⟩
    · rename_i h
      refine ⟨by omega, fun i hi => ?_⟩
      rcases Nat.lt_or_eq_of_le (Nat.le_of_lt_succ hi) with q | q
      · exact h2 i q
      · rw [q]; exact ⟨by omega, fun _ => by omega⟩
/-- the heads that are left -/
def leftT (r : Rl) (keys : List Ky) (o : Int) (k : Nat) : List Int := (upI r.heads.length).filter fun x => decide (¬ x ∈ doneT r keys o k)
theorem leftT_zero (r : Rl) (keys : List Ky) (o : Int) : leftT r keys o 0 = others o r.heads.length := by
  rw [others_filter, leftT]
  congr 1
  funext x
  simp [doneT, bne, BEq.beq]
theorem leftT_nodup (r : Rl) (keys : List Ky) (o : Int) (k : Nat) : (leftT r keys o k).Nodup := (upI_nodup _).filter _
theorem leftT_mem {r : Rl} {keys : List Ky} {o : Int} {k : Nat} {x : Int} : x ∈ leftT r keys o k ↔ x ∈ upI r.heads.length ∧ ¬ x ∈ doneT r keys o k := by simp [leftT]
theorem leftT_succ (r : Rl) (keys : List Ky) (o : Int) (k : Nat) : leftT r keys o (k + 1) = (leftT r keys o k).erase (bestT r keys (doneT r keys o k) r.heads.length).1 := by
  rw [(leftT_nodup r keys o k).erase_eq_filter, leftT, leftT, List.filter_filter]
  congr 1
  funext x
  rw [Bool.eq_iff_iff]
  simp [doneT, bne, BEq.beq, not_or]
  exact And.comm
theorem leftT_len {r : Rl} {keys : List Ky} {o : Int} (h0 : 0 ≤ o) (h1 : o < r.heads.length) : ∀ {k : Nat}, k + 1 ≤ r.heads.length → (leftT r keys o k).length + (k + 1) = r.heads.length
  | 0, h => by
    have := (upI_perm h0 h1).length_eq
    rw [upI_len, List.length_cons] at this
    rw [leftT_zero]; omega
  | k + 1, h => by
    have ih := leftT_len (r := r) (keys := keys) h0 h1 (k := k) (by omega)
    obtain ⟨b, g, h2, h3, h4, h5, _⟩ := best_left (r := r) (keys := keys) (done := doneT r keys o k) (by rw [doneT_len]; omega)
    rw [leftT_succ, h5, List.length_erase_of_mem (leftT_mem.2 ⟨upI_has (by omega) (by omega), h4⟩)]
    omega
/-- the scores of the heads left -/
def sc (p : Pg) (keys : List Ky) (rule : Int) (done l : List Int) (i : Nat) : Int := scoreP p keys rule done (l.getD i 0)
/-- the first greatest of those that are left is the best of all -/
theorem best_at {p : Pg} {r : Rl} {keys : List Ky} {rule o : Int} {k : Nat} (hr : p.rules[rule.toNat]? = some r) (hr0 : 0 ≤ rule) (hk : k + 1 < r.heads.length) : ∀ m, m = bI (sc p keys rule (doneT r keys o k) (leftT r keys o k)) (leftT r keys o k).length → 0 < (leftT r keys o k).length →
    (leftT r keys o k)[m]? = some (bestT r keys (doneT r keys o k) r.heads.length).1 := by
  intro m hm hpos
  obtain ⟨b, g, h2, h3, h4, h5, h6⟩ := best_left (r := r) (keys := keys) (done := doneT r keys o k) (by rw [doneT_len]; omega)
  obtain ⟨q1, q2⟩ := bI_is (sc p keys rule (doneT r keys o k) (leftT r keys o k)) (leftT r keys o k).length hpos
  rw [← hm] at q1 q2
  have hat : ∀ i, i < (leftT r keys o k).length → ∃ (c : Nat) (h : At), (leftT r keys o k)[i]? = some (c : Int) ∧ c < r.heads.length ∧ r.heads[c]? = some h ∧ ¬ (c : Int) ∈ doneT r keys o k ∧ sc p keys rule (doneT r keys o k) (leftT r keys o k) i = scoreI r keys (doneT r keys o k) c h := fun i hi => by
    have hx := leftT_mem.1 (List.getElem_mem hi)
    have hu := upI_mem hx.1
    refine ⟨((leftT r keys o k)[i]).toNat, r.heads[((leftT r keys o k)[i]).toNat]'(by omega), ?_, by omega, List.getElem?_eq_getElem _, ?_, ?_⟩
    · rw [List.getElem?_eq_getElem hi, Int.toNat_of_nonneg hu.1]
    · rw [Int.toNat_of_nonneg hu.1]; exact hx.2
    · rw [sc, scoreP, if_neg (by omega), hr]
      dsimp only
      rw [List.getD_eq_getElem?_getD, List.getElem?_eq_getElem hi, Option.getD_some, if_neg (by omega), List.getElem?_eq_getElem (by omega), Int.toNat_of_nonneg hu.1]
  obtain ⟨c, h, hc1, hc2, hc3, hc4, hc5⟩ := hat m q1
  obtain ⟨q, hq, hqb⟩ := List.getElem_of_mem (leftT_mem.2 ⟨upI_has (n := r.heads.length) (x := (b : Int)) (by omega) (by omega), h4⟩)
  obtain ⟨c', h', hc1', hc2', hc3', hc4', hc5'⟩ := hat q hq
  have hcb : c' = b := by
    rw [List.getElem?_eq_getElem hq, hqb] at hc1'
    have := Option.some.inj hc1'
    omega
  subst hcb
  rw [h3] at hc3'; cases hc3'
  have e1 := h6 c h hc2 hc3 hc4
  have e2 := q2 q hq
  rw [hc5, hc5'] at e2
  have e3 : c' ≤ c := e1.2 (by omega)
  have e4 : m ≤ q := e2.2 (by omega)
  have hso : (leftT r keys o k).Pairwise (fun x y => decide (x ≤ y) = true) := (upI_sorted _).filter _
  have e5 : c ≤ c' := by
    rcases Nat.lt_or_eq_of_le e4 with e | e
    · have := List.pairwise_iff_getElem.1 hso m q q1 hq e
      rw [List.getElem?_eq_getElem q1] at hc1
      rw [Option.some.inj hc1, hqb] at this
      simp at this
      omega
    · subst e
      rw [hc1] at hc1'
      have := Option.some.inj hc1'
      omega
  rw [hc1, h5, show c = c' by omega]
theorem erase_at : ∀ {l : List Int} {m : Nat} (h : m < l.length), l.Nodup → l.erase l[m] = l.take m ++ l.drop (m + 1)
  | x :: t, 0, h, _ => by simp
  | x :: t, m + 1, h, hn => by
    have hn' := List.nodup_cons.1 hn
    have h' : m < t.length := by simpa using h
    have : ¬ x = t[m] := fun e => hn'.1 (by rw [e]; exact List.getElem_mem h')
    rw [List.getElem_cons_succ, List.erase_cons_tail (by simpa using this), erase_at h' hn'.2]
    rfl
theorem left_cut {r : Rl} {keys : List Ky} {o : Int} {k m : Nat} (h : (leftT r keys o k)[m]? = some (bestT r keys (doneT r keys o k) r.heads.length).1) : (leftT r keys o k).take m ++ (leftT r keys o k).drop (m + 1) = leftT r keys o (k + 1) := by
  obtain ⟨h1, h2⟩ := List.getElem?_eq_some_iff.1 h
  rw [leftT_succ, ← h2, erase_at h1 (leftT_nodup r keys o k)]
set_option maxRecDepth 100000 in
set_option maxHeartbeats 2000000 in
theorem refOf_ok {p : Pg} {keys : List Ky} {o : Oc} (hp : p.fit) (hkk : keys.length ≤ 100000) (hk2 : ∀ k ∈ keys, k.positions.length ≤ 100000) : Fun Tryz.prog 10 [p.av, slA Ky.av keys, o.av] (ofI p keys o).av := by
  by_cases hocc : o ∈ p.occs
  · obtain ⟨r, hr, h1, h2, h3, h4⟩ := occs_mem hocc
    have hrm := List.mem_of_getElem? hr
    have hr2 := hp.ok2 r hrm
    have hrg := hp.okG r hrm
    have hhl : r.heads.length ≤ 8 := by rw [Rl.heads_len]; exact hr2.1
    have hcon : Fun Tryz.prog 26 [p.av, o.av] (.bool true) := by
      have := isOcc_ok (p := p) (o := o) hp.ok hp.few
      rwa [decide_eq_true hocc] at this
    have hpar : Fun Tryz.prog 27 [p.av, o.av] (.sl .no ((leftT r keys o.head 0).map intA)) := by
      have hpa : p.partners o = others o.head r.heads.length := by
        rw [Pg.partners_at hr h1, if_neg (by omega)]
      rw [leftT_zero, ← hpa]; exact refPartners_ok hp.ok
    rw [ofI, if_pos hocc, hr]
    dsimp only
    refine Fun.of (op_constraintref29_Of (by simp) ?_) rfl rfl
    conv => whnf
    conv => whnf
    repeat' ((first | (refine gF ?_; first | refine CallN.fn (hcon) ?_ | refine CallN.fn (hpar) ?_) | (refine gC ?_; first | refine cY ?_ | refine .not ?_)) <;> conv => whnf)
    refine LoopP.count (fb := true) (r.heads.length - 1) (fun st_ k => st_.sets [(7, .sl .no ((leftT r keys o.head k).map intA)), (8, .sl (.own 1) ((doneT r keys o.head k).map intA))]) (fun _ => True) trivial ?_ (fun k hk _ => ?_) (fun _ => ?_)
    · refine EndN.at_ ?_ rfl
      conv => whnf
      refine And.intro ?_ ?_ <;> conv => whnf
      all_goals repeat' ((first | (refine gV ?_; first | refine vE ?_ | ((refine gK ?_; refine vD ?_ ?_); (focus (simp [AV.norm, AV.norm1, doneT]; done)))) | (refine gX ?_; refine xB ?_) | exact True.intro) <;> conv => whnf)
    · have hdl := doneT_len r keys o.head k
      have hll := leftT_len (r := r) (keys := keys) h2 h3 (k := k) (by omega)
      have hba := best_at (keys := keys) (o := o.head) hr h1 (k := k) (by omega) _ rfl (by omega)
      have hcut := left_cut hba
      have hds : doneT r keys o.head (k + 1) = doneT r keys o.head k ++ [(bestT r keys (doneT r keys o.head k) r.heads.length).1] := rfl
      generalize (bestT r keys (doneT r keys o.head k) r.heads.length).1 = b at *
      generalize leftT r keys o.head (k + 1) = left' at *
      generalize leftT r keys o.head k = left at *
      generalize doneT r keys o.head (k + 1) = done' at *
      generalize doneT r keys o.head k = done at *
      have hbl : ∀ j, 0 < j → bI (sc p keys o.rule done left) j < j := fun j hj => (bI_is _ j hj).1
      conv => whnf
      repeat' ((first | (refine gC ?_; (refine gD ?_; refine cI ?_)) | (refine gL ?_; refine .map ?_)) <;> conv => whnf)
      refine LoopP.count (fb := true) (left.length - 1) (fun st_ j => st_.sets [(9, .int .i64 (bI (sc p keys o.rule done left) (j + 1))), (10, .int .i64 (j + 1))]) (fun _ => True) trivial ?_ (fun j hj _ => ?_) (fun _ => ?_)
      · refine EndN.at_ ?_ rfl
        conv => whnf
        refine And.intro ?_ ?_ <;> conv => whnf
        all_goals repeat' ((first | (refine gV ?_; first | refine vE ?_ | refine vI ?_ | (refine WkN.norm ?_ ?_; (focus (simp [AV.norm, AV.norm1, bI]; done)))) | (refine gX ?_; refine xB ?_) | exact True.intro) <;> conv => whnf)
      · have hbj := hbl (j + 1) (by omega)
        have hbs : bI (sc p keys o.rule done left) (j + 1 + 1) = if sc p keys o.rule done left (bI (sc p keys o.rule done left) (j + 1)) < sc p keys o.rule done left (j + 1) then j + 1 else bI (sc p keys o.rule done left) (j + 1) := rfl
        generalize bI (sc p keys o.rule done left) (j + 1) = m at *
        obtain ⟨x, hx⟩ : ∃ x, left[j + 1]? = some x := ⟨_, List.getElem?_eq_getElem (by omega)⟩
        obtain ⟨y, hy⟩ : ∃ y, left[m]? = some y := ⟨_, List.getElem?_eq_getElem (by omega)⟩
        have hsx : sc p keys o.rule done left (j + 1) = scoreP p keys o.rule done x := by rw [sc, List.getD_eq_getElem?_getD, hx]; rfl
        have hsy : sc p keys o.rule done left m = scoreP p keys o.rule done y := by rw [sc, List.getD_eq_getElem?_getD, hy]; rfl
        rw [hsx, hsy] at hbs
        conv => whnf
        repeat' ((first | (refine gG ?_; first | refine CallP.fn (refScore_ok (p := p) (keys := keys) (rule := o.rule) (done := done) (head := x) hp.ok2 (by omega) hkk hk2) ?_ | refine CallP.fn (refScore_ok (p := p) (keys := keys) (rule := o.rule) (done := done) (head := y) hp.ok2 (by omega) hkk hk2) ?_) | (refine gC ?_; first | (refine gD ?_; refine cI ?_) | refine CondN.lt (fun hc => ?_) (fun hc => ?_)) | (refine gW ?_; refine wI ?_) | (refine gL ?_; refine .map ?_) | (refine gI ?_; (refine gM ?_; refine iE ?_))) <;> conv => whnf)
        · rw [if_pos (by omega)] at hbs
          refine ⟨trivial, ?_⟩
          refine EndN.at_ ?_ rfl
          conv => whnf
          refine And.intro ?_ ?_ <;> conv => whnf
          all_goals repeat' ((first | (refine gV ?_; first | refine vE ?_ | refine vI ?_) | (refine gX ?_; refine xB ?_) | exact True.intro) <;> conv => whnf)
        · rw [if_neg (by omega)] at hbs
          refine ⟨trivial, ?_⟩
          refine EndN.at_ ?_ rfl
          conv => whnf
          refine And.intro ?_ ?_ <;> conv => whnf
          all_goals repeat' ((first | (refine gV ?_; first | refine vE ?_ | refine vI ?_) | (refine gX ?_; refine xB ?_) | exact True.intro) <;> conv => whnf)
      · rw [show left.length - 1 + 1 = left.length by omega]
        have hbj := hbl left.length (by omega)
        generalize bI (sc p keys o.rule done left) left.length = m at *
        conv => whnf
        repeat' ((first | (refine gC ?_; (refine gD ?_; refine cJ ?_)) | (refine gW ?_; refine wI ?_) | (refine gL ?_; refine .map ?_) | (refine gN ?_; refine nS ?_) | (refine gI ?_; (refine gM ?_; refine iE ?_))) <;> conv => whnf)
        refine ⟨trivial, ?_⟩
        have hcl : AV.sl (Cap.own 1) ([] ++ List.drop (Int.toNat 0) (List.take ((m : Int)).toNat (List.map intA left)) ++ List.drop ((m : Int) + 1).toNat (List.take (((List.map intA left).length : Int)).toNat (List.map intA left))) = AV.sl (Cap.own 1) (List.map intA left') := by
          rw [Int.toNat_natCast, Int.toNat_natCast, List.take_length, ← hcut, show ((m : Int) + 1).toNat = m + 1 by omega, List.map_append, List.map_take, List.map_drop]
          rfl
        rw [hcl]
        refine EndN.at_ ?_ rfl
        conv => whnf
        refine And.intro ?_ ?_ <;> conv => whnf
        all_goals repeat' ((first | (refine gV ?_; first | refine vE ?_ | (refine WkN.sl ?_ ?_; (focus (simp [AV.norm, AV.norm1, hds]; done))) | (refine WkN.norm ?_ ?_; (focus (simp [AV.norm, AV.norm1, hds]; done)))) | (refine gX ?_; refine xB ?_) | exact True.intro) <;> conv => whnf)
    · have hdl := doneT_len r keys o.head (r.heads.length - 1)
      have hll := leftT_len (r := r) (keys := keys) h2 h3 (k := r.heads.length - 1) (by omega)
      have hpm := orderT_perm (r := r) (keys := keys) h2 h3
      have hh : ∀ h ∈ orderT r keys o.head, 0 ≤ h ∧ h < r.heads.length := fun h hm => upI_mem (hpm.mem_iff.1 (List.mem_cons_of_mem _ hm))
      have hol : (orderT r keys o.head).length ≤ 90 := by
        rw [orderT, List.length_drop, hdl]; omega
      have hor := filled_ok (o := o) (order := orderT r keys o.head) hr2 hrg hol hh
      rw [orderT] at hor ⊢
      have hl0 : leftT r keys o.head (r.heads.length - 1) = [] := List.eq_nil_of_length_eq_zero (by omega)
      rw [hl0]
      generalize doneT r keys o.head (r.heads.length - 1) = dn at *
      have hdr : AV.sl .no (List.drop (Int.toNat 1) (List.take (((dn.map intA).length : Int)).toNat (dn.map intA))) = slA intA (dn.drop 1) := by
        rw [Int.toNat_natCast, List.take_length]
        simp [slA, List.map_drop]
      rw [← hdr] at hor
      conv => whnf
      repeat' ((first | (refine gG ?_; refine CallP.fn (hor) ?_) | (refine gC ?_; (refine gD ?_; refine cJd ?_)) | (refine gL ?_; refine .map ?_) | (refine gN ?_; refine nS ?_) | (refine gI ?_; (refine gM ?_; refine iF ?_)) | refine RetP.nrm ?_) <;> conv => whnf)
      rfl
  · rw [ofI, if_neg hocc]
    have hcon : Fun Tryz.prog 26 [p.av, o.av] (.bool false) := by
      have := isOcc_ok (p := p) (o := o) hp.ok hp.few
      rwa [decide_eq_false hocc] at this
    refine Fun.of (op_constraintref29_Of (by simp) ?_) rfl rfl
    conv => whnf
    conv => whnf
    repeat' ((first | (refine gF ?_; refine CallN.fn (hcon) ?_) | (refine gC ?_; first | refine cN ?_ | refine .not ?_) | refine RetP.nrm ?_) <;> conv => whnf)
    rfl
end Go.CK

set_option linter.unusedSimpArgs false
set_option linter.unusedVariables false
namespace Go.CK
open Go.AM Go.Proofs
theorem shareT_len2 {r : Rl} {k : Ky} (hr : r.ok2) (h : ofRuleI r = some k) : k.positions.length ≤ 100000 := by
  rw [ofRuleI] at h
  split at h
  · cases h
  · split at h
    · rename_i a b hab
      have hal := (hr.2 a (by rw [hab]; simp)).1
      split at h
      · cases e : shareT a.args b.args a.args.length with
        | none => rw [e] at h; cases h
        | some ps =>
          rw [e] at h
          have := shareT_len e
          cases h
          simp only
          omega
      · cases h
    · cases h
theorem keysT_pos {l : List Rl} (hl : ∀ r ∈ l, r.ok2) : ∀ j, ∀ k ∈ keysT l j, k.positions.length ≤ 100000
  | 0, k, hk => by cases hk
  | j + 1, k, hk => by
    rw [keysT] at hk
    split at hk
    · exact keysT_pos hl j k hk
    · rename_i r hr
      split at hk
      · exact keysT_pos hl j k hk
      · rename_i k' hk'
        split at hk
        · exact keysT_pos hl j k hk
        · rcases List.mem_append.1 hk with q | q
          · exact keysT_pos hl j k q
          · simp at q
            subst q
            exact shareT_len2 (hl r (List.mem_of_getElem? hr)) hk'
set_option maxRecDepth 100000 in
set_option maxHeartbeats 1000000 in
theorem planPlans_law {p : Pg} {keys : List Ky} {o : Oc} : Fun Tryz.prog 3 [p.av, slA Ky.av keys, o.av] (.bool true) := by
  have hlg := large_ok (p := p) (keys := keys)
  cases hl : largeI p keys with
  | true =>
    rw [hl] at hlg
    refine Fun.of (op_constraintlaw29_PlanPlans (by simp) ?_) rfl rfl
    conv => whnf
    conv => whnf
    repeat' ((first | (refine gF ?_; first | refine CallN.fn (hlg) ?_ | refine CallN.fn (example29_ok) ?_) | (refine gC ?_; refine cY ?_) | refine RetP.nrm ?_) <;> conv => whnf)
  | false =>
    rw [hl] at hlg
    obtain ⟨hp, h8, hol, hk10, hkp, _⟩ := fit_of hl
    have hkl : (keysI p).length ≤ 100000 := by
      have := keysT_len p.rules p.rules.length
      unfold keysI; omega
    have hal := planAll_ok hp hol
    have har := refAll29_ok hp hol (fun o => refOf_ok (o := o) hp hkl (keysT_pos hp.ok2 _))
    have hof := of_ok (o := o) hp (keys := keys) (by omega)
    have hor := refOf_ok (o := o) hp (keys := keys) (by omega) (fun k hk => by have := hkp k hk; omega)
    have hsm := same29_ok (x := ofI p keys o) (y := ofI p keys o)
    rw [decide_eq_true rfl] at hsm
    have hln : (allI p).length ≤ 1000000 := by rw [allI, List.length_map]; exact hol
    generalize allI p = l at *
    refine Fun.of (op_constraintlaw29_PlanPlans (by simp) ?_) rfl rfl
    conv => whnf
    conv => whnf
    repeat' ((first | (refine gF ?_; refine CallN.fn (hlg) ?_) | (refine gG ?_; first | refine CallP.fn (hal) ?_ | refine CallP.fn (har) ?_) | (refine gC ?_; first | refine cN ?_ | refine .not ?_ | (refine gD ?_; refine cI ?_)) | (refine gL ?_; refine .map ?_)) <;> conv => whnf)
    refine LoopP.count (fb := true) (l.length) (fun st_ j => st_.sets [(9, .int .i64 j)]) (fun _ => True) trivial ?_ (fun j hj _ => ?_) (fun _ => ?_)
    · refine EndN.at_ ?_ rfl
      conv => whnf
      refine And.intro ?_ ?_ <;> conv => whnf
      all_goals repeat' ((first | (refine gV ?_; first | refine vE ?_ | refine vI ?_) | (refine gX ?_; refine xB ?_) | exact True.intro) <;> conv => whnf)
    · obtain ⟨x, hx⟩ : ∃ x, l[j]? = some x := ⟨_, List.getElem?_eq_getElem hj⟩
      have hsx := same29_ok (x := x) (y := x)
      rw [decide_eq_true rfl] at hsx
      conv => whnf
      repeat' ((first | (refine gG ?_; refine CallP.fn (hsx) ?_) | (refine gC ?_; first | refine cY ?_ | refine .not ?_ | (refine gD ?_; refine cI ?_)) | (refine gW ?_; refine wI ?_) | (refine gL ?_; refine .map ?_) | (refine gI ?_; (refine gM ?_; refine iE ?_))) <;> conv => whnf)
      refine ⟨trivial, ?_⟩
      refine EndN.at_ ?_ rfl
      conv => whnf
      refine And.intro ?_ ?_ <;> conv => whnf
      all_goals repeat' ((first | (refine gV ?_; first | refine vE ?_ | refine vI ?_) | (refine gX ?_; refine xB ?_) | exact True.intro) <;> conv => whnf)
    · conv => whnf
      repeat' ((first | (refine gG ?_; first | refine CallP.fn (hof) ?_ | refine CallP.fn (hor) ?_ | refine CallP.fn (hsm) ?_ | refine CallP.fn (example29_ok) ?_) | (refine gC ?_; first | refine cY ?_ | (refine gD ?_; refine cJ ?_)) | (refine gL ?_; refine .map ?_) | refine RetP.nrm ?_) <;> conv => whnf)
end Go.CK

namespace Go.CK
open Go.RowKit Go.AM

def AllFV (M : Hp) : List AV → List Value → Prop
  | [], [] => True
  | x :: xs, v :: vs => FV M x v ∧ AllFV M xs vs
  | _, _ => False
theorem AllFV.len {M : Hp} : ∀ {xs : List AV} {vs : List Value}, AllFV M xs vs → vs.length = xs.length
  | [], [], _ => rfl
  | _ :: xs, _ :: vs, h => by simp [AllFV.len h.2]
  | [], _ :: _, h => h.elim
  | _ :: _, [], h => h.elim
theorem AllFV.get {M : Hp} : ∀ {xs : List AV} {vs : List Value}, AllFV M xs vs → ∀ j (h : j < xs.length) v, vs[j]? = some v → FV M xs[j] v
  | [], [], _, j, h, _, _ => by cases h
  | _ :: xs, _ :: vs, h, 0, _, v, hv => by
    simp only [List.getElem?_cons_zero, Option.some.injEq] at hv
    subst hv; exact h.1
  | _ :: xs, _ :: vs, h, j + 1, hj, v, hv => AllFV.get h.2 j (by simpa using hj) v (by simpa using hv)
  | [], _ :: _, h, _, _, _, _ => h.elim
  | _ :: _, [], h, _, _, _, _ => h.elim
theorem Fun.calls {P : Program} {f : FuncId} {vals : List AV} {b : Bool} (h : Fun P f vals (.bool b)) {w : World} {args : List Value} (ha : AllFV (Hp.of w) vals args) :
    Calls P f args.toArray w fun e w' => e = .returned (.bool b) ∧ Ext w w' := by
  refine (((h []).mono (Q' := fun r _ => r = .bool b) fun r bs hq => hq.1).calls (Hp.le_refl _) ha.len ha.get).mono ?_
  rintro e w' ⟨v, r, bs', M', σ, n, rfl, rfl, hv, hx, _⟩
  exact ⟨by rw [hv.inv_bool], hx⟩
end Go.CK

namespace Go.CK
open Go.RowKit Go.Proofs Go.ChangeShapes Go.WideShapes Go.ChangeAt
open Go.Proofs.YtamhnlajkncccaaGreat.Rows (uptoBulk uptoBulkAll uptoSmall)

/-- all that d holds weighs at most what a process reaches -/
def Fit {H : Type} (P : Program) (t : TypeId) (d : DataW H) : Prop := ∀ n ∈ d.weights P t, n ≤ reachBytes
def FitAll {H : Type} (P : Program) : List TypeId → List (DataW H) → Prop
  | t :: ts, d :: r => Fit P t d ∧ FitAll P ts r
  | _, _ => True
theorem FitAll.of {H : Type} {P : Program} : ∀ {ts : List TypeId} {ds : List (DataW H)}, (∀ n ∈ DataW.weightsEach P ts ds, n ≤ reachBytes) → FitAll P ts ds
  | [], _, _ => trivial
  | _ :: _, [], _ => trivial
  | t :: ts, d :: ds, h => by
    simp only [DataW.weightsEach, List.mem_append] at h
    exact ⟨fun n hn => h n (.inl hn), FitAll.of fun n hn => h n (.inr hn)⟩
theorem Fit.agg {H : Type} {P : Program} {t : TypeId} {fs : Array Field} {parts : List (DataW H)} (hu : P.underlying t = some (.struct fs)) (h : Fit P t (.agg parts)) : FitAll P (fs.toList.map (·.type)) parts := by
  refine FitAll.of fun n hn => h n ?_
  simp only [DataW.weights, hu]; exact hn
theorem weights_all {H : Type} {P : Program} {e : TypeId} {d : DataW H} : ∀ {l : List (DataW H)}, d ∈ l → ∀ n ∈ d.weights P e, n ∈ DataW.weightsAll P e l
  | x :: l, hd, n, hn => by
    simp only [DataW.weightsAll, List.mem_append]
    rcases List.mem_cons.1 hd with rfl | hd
    · exact .inl hn
    · exact .inr (weights_all hd n hn)
theorem Fit.slice {H : Type} {P : Program} {t e : TypeId} {elems spare : List (DataW H)} (hu : P.underlying t = some (.slice e)) (h : Fit P t (.slice elems spare)) : (elems.length + spare.length) * P.bytesOf e ≤ reachBytes ∧ ∀ d ∈ elems, Fit P e d := by
  simp only [Fit, DataW.weights, hu, List.mem_cons, List.mem_append] at h
  exact ⟨h _ (.inl rfl), fun d hd n hn => h n (.inr (.inl (weights_all hd n hn)))⟩
theorem Fit.of {H : Type} {P : Program} {ts : List TypeId} {ds : List (DataW H)} (h : (DataW.weightsEach P ts ds).all (· ≤ reachBytes) = true) {j : Nat} {t : TypeId} {d : DataW H} (ht : ts[j]? = some t) (hd : ds[j]? = some d) : Fit P t d := fun n hn => by
  simpa using List.all_eq_true.1 h n (DataW.weights_mem_each ht hd n hn)
theorem bulk_one {H : Type} (d : DataW H) : 1 ≤ uptoBulk d := by
  cases d with
  | lit l => cases l <;> simp [uptoBulk]
  | nil => simp [uptoBulk]
  | ptr d => simp [uptoBulk]
  | slice elems spare => simp [uptoBulk]
  | agg parts => simp [uptoBulk]
  | iface t d => simp [uptoBulk]
  | map entries => simp [uptoBulk]
  | held h => simp [uptoBulk]

theorem bulk_part {H : Type} {d : DataW H} {l : List (DataW H)} (h : d ∈ l) : uptoBulk d ≤ uptoBulkAll l := by
  induction l with
  | nil => cases h
  | cons x r ih =>
    simp only [uptoBulkAll]
    cases List.mem_cons.1 h with
    | inl e => subst e; omega
    | inr e => have := ih e; omega

theorem bulk_len {H : Type} (l : List (DataW H)) : l.length ≤ uptoBulkAll l := by
  induction l with
  | nil => simp [uptoBulkAll]
  | cons x r ih => have := bulk_one x; simp only [uptoBulkAll, List.length_cons]; omega

theorem bulk_bound {H : Type} {l : List (DataW H)} (hk : uptoSmall H l = true) : uptoBulkAll l ≤ 1048576 := of_decide_eq_true hk

section
variable {H : Type} {enc : TypeId × Value → H} {P : Program} {W : World} {spare : Nat → Bool} {held : Bool}

/-- a slice that came in reads as a list -/
theorem sl_of {α : Type} {T e : TypeId} {sz N : Nat} (hu : P.underlying T = some (.slice e)) (hsz : P.cellsOf e = sz) (hp : 0 < sz) (R : List Value → α → Prop) (hN : 0 ≤ N)
    (ih : ∀ (cs : List Value) (d : DataW H) (ps : List MemPlace) (fuel : Nat), DataW.trod enc P W 0 spare held fuel e cs = some (d, ps) → uptoBulk d < N → Fit P e d → ∃ x, R cs x) (hby : 0 < P.bytesOf e)
    {fuel : Nat} {cs : List Value} {d : DataW H} {ps : List MemPlace} (h : DataW.trod enc P W 0 spare held fuel T cs = some (d, ps)) (hb : uptoBulk d ≤ N) (hf : Fit P T d) :
    ∃ (a : Option Addr) (l : List α) (cap : Nat), cs = [.slice a l.length cap] ∧ l.length ≤ cap ∧ Sl (Hp.of W) sz R a l ∧ l.length ≤ N := by
  subst hsz
  rcases Deep.open_slice hu h with ⟨rfl, _⟩ | ⟨a, len, cap, m, n, D, Pl, rfl, _, hlc, hcm, hm, hx, hel⟩
  · exact ⟨none, [], 0, rfl, by simp, Sl.nil, by simp⟩
  · simp only [Prod.mk.injEq] at hx
    obtain ⟨rfl, _⟩ := hx
    obtain ⟨hf1, hf2⟩ := Fit.slice hu hf
    have hf3 : len ≤ reachBytes := by rw [List.length_map, List.length_range] at hf1; have := Nat.le_mul_of_pos_right (len + ((List.range (m - len)).map fun j => D (len + j)).length) hby; omega
    have hlm : len ≤ m := by rw [hm]; split <;> omega
    simp only [uptoBulk] at hb
    have hlen := bulk_len ((List.range len).map D)
    rw [List.length_map, List.length_range] at hlen
    have hD : ∀ i, i < len → ∃ x cs', W.cells? 0 (a.add (i * P.cellsOf e)) (P.cellsOf e) = some cs' ∧ R cs' x := fun i hi => by
      obtain ⟨cs', h1, h2⟩ := hel i (by omega)
      have hbi : uptoBulk (D i) ≤ uptoBulkAll ((List.range len).map D) := bulk_part (List.mem_map.2 ⟨i, by simpa using hi, rfl⟩)
      obtain ⟨x, hx⟩ := ih cs' (D i) (Pl i) n h2 (by omega) (hf2 _ (List.mem_map.2 ⟨i, by simpa using hi, rfl⟩))
      exact ⟨x, cs', h1, hx⟩
    refine ⟨some a, List.ofFn (fun i : Fin len => (hD i.1 i.2).choose), cap, by simp, by simpa using hlc, ⟨by simp only [List.length_ofFn];unfold reachBytes at hf3;unfold lim;omega, fun i hi => ?_⟩, by simp; omega⟩
    rw [List.length_ofFn] at hi
    have hspot : a.spot = none := by
      obtain ⟨cs', h1, _⟩ := hel 0 (by omega)
      obtain ⟨_, h2, h3⟩ := World.cells?_some h1
      have h4 := h3 0 hp
      rw [List.getElem?_eq_getElem (by omega)] at h4
      simp only [Nat.zero_mul] at h4
      have h5 : (a.add 0).add 0 = a := by simp [Addr.add]
      rw [h5] at h4
      cases hs : a.spot with
      | none => rfl
      | some k =>
        simp only [World.cell?, hs] at h4
        split at h4 <;> simp at h4
    obtain ⟨cs', h1, h2⟩ := (hD i hi).choose_spec
    obtain ⟨_, h3, h4⟩ := World.cells?_some h1
    have ha : a = ⟨a.block, a.off, none⟩ := by cases a; simp only at hspot; subst hspot; rfl
    refine ⟨a.block, a.off, cs', by rw [← ha], h3, fun j x hj => ?_, by simpa using h2⟩
    have hj2 : j < P.cellsOf e := by rw [← h3]; exact (List.getElem?_eq_some_iff.1 hj).1
    have h5 := h4 j hj2
    rw [Deep.add_add] at h5
    have h6 : a.add (i * P.cellsOf e + j) = ⟨a.block, a.off + i * P.cellsOf e + j, none⟩ := by
      unfold Addr.add
      split
      · rename_i h0
        rw [ha]; simp; omega
      · simp
    rw [h6, hj] at h5
    exact h5
end

theorem cellsInt : Tryz.prog.cellsOf 3 = 1 := by kernel_rfl
theorem cellsStr : Tryz.prog.cellsOf 9 = 1 := by kernel_rfl
theorem cellsTms : Tryz.prog.cellsOf 47 = 1 := by kernel_rfl
theorem cellsTm : Tryz.prog.cellsOf 72 = 4 := by kernel_rfl

section
variable {H : Type} {enc : TypeId × Value → H} {W : World} {spare : Nat → Bool} {held : Bool}

theorem int_of {fuel : Nat} {cs : List Value} {d : DataW H} {ps : List MemPlace} (h : DataW.trod enc Tryz.prog W 0 spare held fuel 3 cs = some (d, ps)) : ∃ n, cs = [.int .i64 n] ∧ IntOk n := by
  obtain ⟨n, h1, _, h3⟩ := DataW.trod_int Tryz.underlying3 h
  exact ⟨n, h1, IntOk.of_wf h3⟩

theorem str_of {N fuel : Nat} {cs : List Value} {d : DataW H} {ps : List MemPlace} (h : DataW.trod enc Tryz.prog W 0 spare held fuel 9 cs = some (d, ps)) (hb : uptoBulk d ≤ N) (hf : Fit Tryz.prog 9 d) : ∃ s : ByteArray, cs = [.string s] ∧ s.size ≤ lim := by
  obtain ⟨s, h1, h2, _⟩ := DataW.trod_string Tryz.underlying9 h
  simp only [Prod.mk.injEq] at h2
  obtain ⟨rfl, _⟩ := h2
  have h3 := hf s.data.toList.length (by simp [DataW.weights])
  have e : s.data.toList.length = s.size := by rw [Array.length_toList]; rfl
  exact ⟨s, h1, by unfold reachBytes at h3; unfold lim; omega⟩

set_option maxRecDepth 100000 in
/-- a term that came in -/
theorem tm_of : ∀ (N : Nat), 0 ≤ N → ∀ (cs : List Value) (d : DataW H) (ps : List MemPlace) (fuel : Nat), DataW.trod enc Tryz.prog W 0 spare held fuel 72 cs = some (d, ps) → uptoBulk d ≤ N → Fit Tryz.prog 72 d → ∃ t, RTm (Hp.of W) cs t := by
  intro N
  induction N using Nat.strongRecOn with
  | _ N ih =>
  intro hN cs d ps fuel h hb hf
  obtain ⟨y0, y1, y2, y3, n, hx, hl, h0, h1, h2, h3⟩ := Joins.trod_struct4 Tryz.underlying72 h
  simp only [Prod.mk.injEq] at hx
  obtain ⟨rfl, _⟩ := hx
  obtain ⟨_, _, F2, F3, _⟩ := Fit.agg Tryz.underlying72 hf
  rw [cellsTm] at hl
  match cs, hl with
  | [c0, c1, c2, c3], _ =>
    simp only [cellsInt, cellsStr, cellsTms, List.drop_zero, List.drop_succ_cons, List.take_succ_cons, List.take_zero] at h0 h1 h2 h3
    simp only [uptoBulk, uptoBulkAll] at hb
    have := bulk_one y3.1
    obtain ⟨k, e0, ik⟩ := int_of h0
    obtain ⟨m, e1, im⟩ := int_of h1
    obtain ⟨s, e2, is⟩ := str_of (N := N) h2 (by omega) F2
    obtain ⟨a, l, cap, e3, hlc, hsl, _⟩ := sl_of (N := N - 1) Tryz.underlying47 cellsTm (by omega) (RTm (Hp.of W)) (by omega) (fun cs d ps fuel h hb hf => ih (N - 1) (by omega) (by omega) cs d ps fuel h (by omega) hf) (of_decide_eq_true (by kernel_rfl)) h3 (by omega) F3
    simp only [List.cons.injEq, and_true] at e0 e1 e2 e3
    subst e0; subst e1; subst e2; subst e3
    exact ⟨.mk k m s l, RTm.intro ik im is hlc hsl⟩
end
end Go.CK

