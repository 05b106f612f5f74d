/-
  LOOKUP, in the abstract machine: the functions' contracts, 2: the reference's Known, what is great. By an AI agent.
-/
import Derived.Test.YtfpmkfoddeogbaaLkpA
set_option linter.unusedSimpArgs false
set_option linter.unusedVariables false
namespace Go.CK
open Go.AM Go.Proofs
set_option maxRecDepth 100000 in
theorem allIn_ok {l : List Int} {t : List Int} : Fun Try.prog 61 [slA intA l, slA intA t] (.bool (t.all fun v => decide (v ∈ l))) := by
  refine Fun.assume rfl fun hg0 => ?_
  have hg := (good_sla (hg0 (slA intA l) (by simp))).1
  have hg2 := (good_sla (hg0 (slA intA t) (by simp))).1
  refine Fun.of (op_constraintref30_all (by simp) ?_) rfl rfl
  conv => whnf
  conv => whnf
  repeat' ((first | refine cY ?_ | refine cN ?_ | refine .not ?_ | refine wI ?_ | refine .map ?_ | refine .nil ?_ | refine .one ?_ | refine .app ?_ | refine .set ?_ | refine .rep ?_ | refine .any ?_ | refine cI ?_ | refine cJ ?_ | refine cYa ?_ | refine cNa ?_ | refine cIa ?_ | refine cJa ?_ | refine cIr ?_ | refine cId ?_ | refine cJd ?_ | with_reducible refine CondN.and ?_ | with_reducible refine CondN.or ?_ | refine CondN.lt (fun hc => ?_) (fun hc => ?_) | refine CondN.le (fun hc => ?_) (fun hc => ?_) | refine CondN.dec (fun hc => ?_) (fun hc => ?_) | refine CondN.any (fun hc => ?_) (fun hc => ?_) | refine nS ?_ | refine iA ?_ | refine iB ?_ | refine iC fun x hx => ?_ | refine iD fun x hx => ?_ | refine iE ?_ | refine iF ?_ | refine iG ?_ | refine iH fun x hx => ?_ | refine iI fun x hx => ?_ | refine iJ ?_ | refine hB ?_ | refine aP ?_ | refine .last ?_ | refine .last2 ?_ | refine zN fun k hk => ?_ | refine aR fun k hk => ?_ | refine mA ?_ | refine mS (fun hc => ?_) (fun hc => ?_) | refine RetP.nrm ?_) <;> conv => whnf)
  refine LoopP.count (fb := true) (t.length) (fun st_ j => st_.sets [(5, .int .i64 j)]) (fun j => ∀ i x, i < j → t[i]? = some x → decide (x ∈ l) = true) ?_ ?_ (fun j hj hij => ?_) (fun hij => ?_)
  · intro i _ hi; omega
  · refine EndN.at_ ?_ rfl
    conv => whnf
    refine And.intro ?_ ?_ <;> conv => whnf
    all_goals repeat' ((first | refine vE ?_ | refine vI ?_ | refine vB ?_ | refine vC ?_ | refine vN ?_ | refine xB ?_ | exact True.intro | ((first | refine WkN.sl ?_ ?_ | refine vD ?_ ?_ | refine WkN.norm ?_ ?_ | refine BxN.mk ?_ ?_); (focus (simp [AV.norm, AV.norm1, ]; done)))) <;> conv => whnf)
  · obtain ⟨y, hy⟩ : ∃ y, t[j]? = some y := ⟨_, List.getElem?_eq_getElem hj⟩
    conv => whnf
    repeat' ((first | refine cY ?_ | refine cN ?_ | refine .not ?_ | refine wI ?_ | refine .map ?_ | refine .nil ?_ | refine .one ?_ | refine .app ?_ | refine .set ?_ | refine .rep ?_ | refine .any ?_ | refine cI ?_ | refine cJ ?_ | refine cYa ?_ | refine cNa ?_ | refine cIa ?_ | refine cJa ?_ | refine cIr ?_ | refine cId ?_ | refine cJd ?_ | with_reducible refine CondN.and ?_ | with_reducible refine CondN.or ?_ | refine CondN.lt (fun hc => ?_) (fun hc => ?_) | refine CondN.le (fun hc => ?_) (fun hc => ?_) | refine CondN.dec (fun hc => ?_) (fun hc => ?_) | refine CondN.any (fun hc => ?_) (fun hc => ?_) | refine nS ?_ | refine iA ?_ | refine iB ?_ | refine iC fun x hx => ?_ | refine iD fun x hx => ?_ | refine iE ?_ | refine iF ?_ | refine iG ?_ | refine iH fun x hx => ?_ | refine iI fun x hx => ?_ | refine iJ ?_ | refine hB ?_ | refine aP ?_ | refine .last ?_ | refine .last2 ?_ | refine zN fun k hk => ?_ | refine aR fun k hk => ?_ | refine mA ?_ | refine mS (fun hc => ?_) (fun hc => ?_) | refine RetP.nrm ?_) <;> conv => whnf)
    refine LoopP.count (fb := true) l.length (fun st_ k => st_.sets [(6, .bool (decide (y ∈ l.take k))), (7, .int .i64 k)]) (fun _ => True) trivial ?_ (fun k hk _ => ?_) (fun _ => ?_)
    · refine EndN.at_ ?_ rfl
      conv => whnf
      refine And.intro ?_ ?_ <;> conv => whnf
      all_goals repeat' ((first | refine vE ?_ | refine vI ?_ | refine vB ?_ | refine vC ?_ | refine vN ?_ | refine xB ?_ | exact True.intro | ((first | refine WkN.sl ?_ ?_ | refine vD ?_ ?_ | refine WkN.norm ?_ ?_ | refine BxN.mk ?_ ?_); (focus (simp [AV.norm, AV.norm1, ]; done)))) <;> conv => whnf)
    · obtain ⟨z, hz⟩ : ∃ z, l[k]? = some z := ⟨_, List.getElem?_eq_getElem hk⟩
      have htk : l.take (k + 1) = l.take k ++ [z] := by
        rw [List.take_succ_eq_append_getElem hk, (List.getElem?_eq_some_iff.1 hz).2]
      have e1 : y ∈ l.take k → true = decide (y ∈ l.take (k + 1)) := fun h => by rw [htk]; simp [h]
      have e2 : ¬ y ∈ l.take k → decide (z = y) = decide (y ∈ l.take (k + 1)) := fun h => by rw [htk]; simp [h, eq_comm]
      conv => whnf
      repeat' ((first | refine cY ?_ | refine cN ?_ | refine .not ?_ | refine wI ?_ | refine .map ?_ | refine .nil ?_ | refine .one ?_ | refine .app ?_ | refine .set ?_ | refine .rep ?_ | refine .any ?_ | refine cI ?_ | refine cJ ?_ | refine cYa ?_ | refine cNa ?_ | refine cIa ?_ | refine cJa ?_ | refine cIr ?_ | refine cId ?_ | refine cJd ?_ | with_reducible refine CondN.and ?_ | with_reducible refine CondN.or ?_ | refine CondN.lt (fun hc => ?_) (fun hc => ?_) | refine CondN.le (fun hc => ?_) (fun hc => ?_) | refine CondN.dec (fun hc => ?_) (fun hc => ?_) | refine CondN.any (fun hc => ?_) (fun hc => ?_) | refine nS ?_ | refine iA ?_ | refine iB ?_ | refine iC fun x hx => ?_ | refine iD fun x hx => ?_ | refine iE ?_ | refine iF ?_ | refine iG ?_ | refine iH fun x hx => ?_ | refine iI fun x hx => ?_ | refine iJ ?_ | refine hB ?_ | refine aP ?_ | refine .last ?_ | refine .last2 ?_ | refine zN fun k hk => ?_ | refine aR fun k hk => ?_ | refine mA ?_ | refine mS (fun hc => ?_) (fun hc => ?_) | refine RetP.nrm ?_) <;> conv => whnf)
      · have e3 := e1 hc
        refine ⟨trivial, ?_⟩
        refine EndN.at_ ?_ rfl
        conv => whnf
        refine And.intro ?_ ?_ <;> conv => whnf
        all_goals repeat' ((first | refine vE ?_ | refine vI ?_ | refine vB ?_ | refine vC ?_ | refine vN ?_ | refine xB ?_ | exact True.intro | ((first | refine WkN.sl ?_ ?_ | refine vD ?_ ?_ | refine WkN.norm ?_ ?_ | refine BxN.mk ?_ ?_); (focus (simp [AV.norm, AV.norm1, ]; done)))) <;> conv => whnf)
      · have e3 := e2 hc
        refine ⟨trivial, ?_⟩
        refine EndN.at_ ?_ rfl
        conv => whnf
        refine And.intro ?_ ?_ <;> conv => whnf
        all_goals repeat' ((first | refine vE ?_ | refine vI ?_ | refine vB ?_ | refine vC ?_ | refine vN ?_ | refine xB ?_ | exact True.intro | ((first | refine WkN.sl ?_ ?_ | refine vD ?_ ?_ | refine WkN.norm ?_ ?_ | refine BxN.mk ?_ ?_); (focus (simp [AV.norm, AV.norm1, ]; done)))) <;> conv => whnf)
    · rw [List.take_length]
      conv => whnf
      repeat' ((first | refine cY ?_ | refine cN ?_ | refine .not ?_ | refine wI ?_ | refine .map ?_ | refine .nil ?_ | refine .one ?_ | refine .app ?_ | refine .set ?_ | refine .rep ?_ | refine .any ?_ | refine cI ?_ | refine cJ ?_ | refine cYa ?_ | refine cNa ?_ | refine cIa ?_ | refine cJa ?_ | refine cIr ?_ | refine cId ?_ | refine cJd ?_ | with_reducible refine CondN.and ?_ | with_reducible refine CondN.or ?_ | refine CondN.lt (fun hc => ?_) (fun hc => ?_) | refine CondN.le (fun hc => ?_) (fun hc => ?_) | refine CondN.dec (fun hc => ?_) (fun hc => ?_) | refine CondN.any (fun hc => ?_) (fun hc => ?_) | refine nS ?_ | refine iA ?_ | refine iB ?_ | refine iC fun x hx => ?_ | refine iD fun x hx => ?_ | refine iE ?_ | refine iF ?_ | refine iG ?_ | refine iH fun x hx => ?_ | refine iI fun x hx => ?_ | refine iJ ?_ | refine hB ?_ | refine aP ?_ | refine .last ?_ | refine .last2 ?_ | refine zN fun k hk => ?_ | refine aR fun k hk => ?_ | refine mA ?_ | refine mS (fun hc => ?_) (fun hc => ?_) | refine RetP.nrm ?_) <;> conv => whnf)
      · refine ⟨yes_succ hij hy (decide_eq_true hc), ?_⟩
        refine EndN.at_ ?_ rfl
        conv => whnf
        refine And.intro ?_ ?_ <;> conv => whnf
        all_goals repeat' ((first | refine vE ?_ | refine vI ?_ | refine vB ?_ | refine vC ?_ | refine vN ?_ | refine xB ?_ | exact True.intro | ((first | refine WkN.sl ?_ ?_ | refine vD ?_ ?_ | refine WkN.norm ?_ ?_ | refine BxN.mk ?_ ?_); (focus (simp [AV.norm, AV.norm1, ]; done)))) <;> conv => whnf)
      · rw [all_no hy (decide_eq_false hc)]
  · conv => whnf
    repeat' ((first | refine cY ?_ | refine cN ?_ | refine .not ?_ | refine wI ?_ | refine .map ?_ | refine .nil ?_ | refine .one ?_ | refine .app ?_ | refine .set ?_ | refine .rep ?_ | refine .any ?_ | refine cI ?_ | refine cJ ?_ | refine cYa ?_ | refine cNa ?_ | refine cIa ?_ | refine cJa ?_ | refine cIr ?_ | refine cId ?_ | refine cJd ?_ | with_reducible refine CondN.and ?_ | with_reducible refine CondN.or ?_ | refine CondN.lt (fun hc => ?_) (fun hc => ?_) | refine CondN.le (fun hc => ?_) (fun hc => ?_) | refine CondN.dec (fun hc => ?_) (fun hc => ?_) | refine CondN.any (fun hc => ?_) (fun hc => ?_) | refine nS ?_ | refine iA ?_ | refine iB ?_ | refine iC fun x hx => ?_ | refine iD fun x hx => ?_ | refine iE ?_ | refine iF ?_ | refine iG ?_ | refine iH fun x hx => ?_ | refine iI fun x hx => ?_ | refine iJ ?_ | refine hB ?_ | refine aP ?_ | refine .last ?_ | refine .last2 ?_ | refine zN fun k hk => ?_ | refine aR fun k hk => ?_ | refine mA ?_ | refine mS (fun hc => ?_) (fun hc => ?_) | refine RetP.nrm ?_) <;> conv => whnf)
    rw [all_yes hij]
/-- the arguments of the heads that are done -/
def argsOf (hs : List At) : List Int → List Tm
  | [] => []
  | k :: r => (if 0 ≤ k then match hs[k.toNat]? with
    | some h => h.args
    | none => []
    else []) ++ argsOf hs r
theorem argsOf_app (hs : List At) : ∀ l m, argsOf hs (l ++ m) = argsOf hs l ++ argsOf hs m
  | [], m => rfl
  | k :: l, m => by rw [List.cons_append, argsOf, argsOf, argsOf_app hs l m, List.append_assoc]
theorem argsOf_yes {hs : List At} {l : List Int} {j : Nat} {k : Int} {h : At} (hk : l[j]? = some k) (h0 : 0 ≤ k) (hh : hs[k.toNat]? = some h) : argsOf hs (l.take (j + 1)) = argsOf hs (l.take j) ++ h.args := by
  obtain ⟨hj, rfl⟩ := List.getElem?_eq_some_iff.1 hk
  rw [List.take_succ_eq_append_getElem hj, argsOf_app]
  simp [argsOf, h0, hh]
theorem argsOf_no {hs : List At} {l : List Int} {j : Nat} {k : Int} (hk : l[j]? = some k) (h0 : k < 0 ∨ (hs.length : Int) ≤ k) : argsOf hs (l.take (j + 1)) = argsOf hs (l.take j) := by
  obtain ⟨hj, rfl⟩ := List.getElem?_eq_some_iff.1 hk
  rw [List.take_succ_eq_append_getElem hj, argsOf_app]
  rcases h0 with h0 | h0
  · simp [argsOf, Int.not_le.2 h0]
  · have : hs[(l[j]).toNat]? = none := List.getElem?_eq_none (by omega)
    simp [argsOf, this]
theorem argsOf_kvs (hs : List At) : ∀ (l : List Int) (x : Int), x ∈ firsts (Tm.vss (argsOf hs l)) ↔ x ∈ kvs hs l
  | [], x => by simp [argsOf, kvs, firsts, addVs, Tm.vss]
  | k :: r, x => by
    have ih := argsOf_kvs hs r x
    unfold firsts at ih
    rw [addVs_mem] at ih
    unfold firsts
    rw [argsOf, kvs, Tm.vss_app, addVs_mem, List.mem_append, List.mem_append, ← ih]
    simp only [List.not_mem_nil, false_or]
    refine or_congr ?_ Iff.rfl
    by_cases h0 : 0 ≤ k
    · rw [if_pos h0, if_pos h0]
      cases hs[k.toNat]? with
      | some h =>
        simp only
        unfold firsts; rw [addVs_mem]; simp
      | none => simp [Tm.vss]
    · rw [if_neg h0, if_neg h0]; simp [Tm.vss]
theorem argsOf_len {hs : List At} (hh : ∀ h ∈ hs, h.args.length ≤ 200 ∧ (Tm.vss h.args).length ≤ 200) : ∀ l : List Int, (argsOf hs l).length ≤ 200 * l.length ∧ (Tm.vss (argsOf hs l)).length ≤ 200 * l.length
  | [] => by simp [argsOf, Tm.vss]
  | k :: r => by
    have ih := argsOf_len hh r
    rw [argsOf, Tm.vss_app, List.length_append, List.length_append, List.length_cons]
    split
    · split
      · rename_i h hk
        have := hh h (List.mem_of_getElem? hk)
        omega
      · simp only [List.length_nil, Tm.vss]; omega
    · simp only [List.length_nil, Tm.vss]; omega
theorem placesP_congr {p q : Tm → Bool} (h : ∀ t, p t = q t) (l : List Tm) (j : Nat) : placesP p l j = placesP q l j := by
  rw [show p = q from funext h]
/-- narrower bounds -/
def Rl.ok2 (r : Rl) : Prop := r.keep.length + r.remove.length ≤ 8 ∧ ∀ h ∈ r.heads, h.args.length ≤ 200 ∧ (Tm.vss h.args).length ≤ 200 ∧ ∀ t ∈ h.args, t.vs.length ≤ 200
theorem Rl.ok2.ok {r : Rl} (h : r.ok2) : r.ok := ⟨by have := h.1; omega, fun g hg => by
  obtain ⟨h1, h2, h3⟩ := h.2 g hg
  exact ⟨by omega, by omega, fun t ht => by have := h3 t ht; omega⟩⟩
set_option maxRecDepth 100000 in
theorem refKnown_ok {r : Rl} {done : List Int} {head : Int} (hr : r.ok2) (hd : done.length ≤ 100) : Fun Try.prog 17 [r.av, slA intA done, .int .i64 head] (slA intA (knownI r done head)) := by
  have hhl : r.heads.length ≤ 8 := by rw [Rl.heads_len]; exact hr.1
  refine Fun.of (op_constraintref30_Known (by simp) ?_) rfl rfl
  conv => whnf
  conv => whnf
  repeat' ((first | refine CallN.fn (refHeads_ok (x := r) (by have := hr.1; omega)) ?_ | refine CallP.fn (refHeads_ok (x := r) (by have := hr.1; omega)) ?_ | refine cY ?_ | refine cN ?_ | refine .not ?_ | refine wI ?_ | refine .map ?_ | refine .nil ?_ | refine .one ?_ | refine .app ?_ | refine .set ?_ | refine .rep ?_ | refine .any ?_ | refine cI ?_ | refine cJ ?_ | refine cYa ?_ | refine cNa ?_ | refine cIa ?_ | refine cJa ?_ | refine cIr ?_ | refine cId ?_ | refine cJd ?_ | with_reducible refine CondN.and ?_ | with_reducible refine CondN.or ?_ | refine CondN.lt (fun hc => ?_) (fun hc => ?_) | refine CondN.le (fun hc => ?_) (fun hc => ?_) | refine CondN.dec (fun hc => ?_) (fun hc => ?_) | refine CondN.any (fun hc => ?_) (fun hc => ?_) | refine nS ?_ | refine iA ?_ | refine iB ?_ | refine iC fun x hx => ?_ | refine iD fun x hx => ?_ | refine iE ?_ | refine iF ?_ | refine iG ?_ | refine iH fun x hx => ?_ | refine iI fun x hx => ?_ | refine iJ ?_ | refine hB ?_ | refine aP ?_ | refine .last ?_ | refine .last2 ?_ | refine zN fun k hk => ?_ | refine aR fun k hk => ?_ | refine mA ?_ | refine mS (fun hc => ?_) (fun hc => ?_) | refine RetP.nrm ?_) <;> conv => whnf)
  · rw [knownI, if_pos hc]; rfl
  · have : r.heads[head.toNat]? = none := List.getElem?_eq_none (by omega)
    rw [knownI, this]; split <;> rfl
  · obtain ⟨h, hh⟩ : ∃ h, r.heads[head.toNat]? = some h := ⟨_, List.getElem?_eq_getElem (by omega)⟩
    have hho := hr.2 h (List.mem_of_getElem? hh)
    have hal := argsOf_len (hs := r.heads) fun g hg => ⟨(hr.2 g hg).1, (hr.2 g hg).2.1⟩
    rw [knownI, if_neg (by omega), hh]
    refine LoopP.count (fb := true) done.length (fun st_ j => st_.sets [(8, .sl (.own 4) ((argsOf r.heads (done.take j)).map Tm.av)), (9, .int .i64 j)]) (fun _ => True) trivial ?_ (fun j hj _ => ?_) (fun _ => ?_)
    · refine EndN.at_ ?_ rfl
      conv => whnf
      refine And.intro ?_ ?_ <;> conv => whnf
      all_goals repeat' ((first | refine vE ?_ | refine vI ?_ | refine vB ?_ | refine vC ?_ | refine vN ?_ | refine xB ?_ | exact True.intro | ((first | refine WkN.sl ?_ ?_ | refine vD ?_ ?_ | refine WkN.norm ?_ ?_ | refine BxN.mk ?_ ?_); (focus (simp [AV.norm, AV.norm1, argsOf]; done)))) <;> conv => whnf)
    · obtain ⟨k, hk⟩ : ∃ k, done[j]? = some k := ⟨_, List.getElem?_eq_getElem hj⟩
      have hal2 := (hal (done.take j)).1
      have htl := List.length_take_le' j done
      by_cases hv : 0 ≤ k ∧ k < r.heads.length
      · obtain ⟨g, hgk⟩ : ∃ g, r.heads[k.toNat]? = some g := ⟨_, List.getElem?_eq_getElem (by omega)⟩
        have hgo := (hr.2 g (List.mem_of_getElem? hgk)).1
        have hks := argsOf_yes hk hv.1 hgk
        conv => whnf
        repeat' ((first | refine cY ?_ | refine cN ?_ | refine .not ?_ | refine wI ?_ | refine .map ?_ | refine .nil ?_ | refine .one ?_ | refine .app ?_ | refine .set ?_ | refine .rep ?_ | refine .any ?_ | refine cI ?_ | refine cJ ?_ | refine cYa ?_ | refine cNa ?_ | refine cIa ?_ | refine cJa ?_ | refine cIr ?_ | refine cId ?_ | refine cJd ?_ | with_reducible refine CondN.and ?_ | with_reducible refine CondN.or ?_ | refine CondN.lt (fun hc => ?_) (fun hc => ?_) | refine CondN.le (fun hc => ?_) (fun hc => ?_) | refine CondN.dec (fun hc => ?_) (fun hc => ?_) | refine CondN.any (fun hc => ?_) (fun hc => ?_) | refine nS ?_ | refine iA ?_ | refine iB ?_ | refine iC fun x hx => ?_ | refine iD fun x hx => ?_ | refine iE ?_ | refine iF ?_ | refine iG ?_ | refine iH fun x hx => ?_ | refine iI fun x hx => ?_ | refine iJ ?_ | refine hB ?_ | refine aP ?_ | refine .last ?_ | refine .last2 ?_ | refine zN fun k hk => ?_ | refine aR fun k hk => ?_ | refine mA ?_ | refine mS (fun hc => ?_) (fun hc => ?_) | refine RetP.nrm ?_) <;> conv => whnf)
        refine ⟨trivial, ?_⟩
        refine EndN.atC 1 ?_ rfl rfl rfl rfl rfl
        conv => whnf
        refine And.intro ?_ ?_ <;> conv => whnf
        all_goals repeat' ((first | refine vE ?_ | refine vI ?_ | refine vB ?_ | refine vC ?_ | refine vN ?_ | refine xB ?_ | exact True.intro | ((first | refine WkN.sl ?_ ?_ | refine vD ?_ ?_ | refine WkN.norm ?_ ?_ | refine BxN.mk ?_ ?_); (focus (simp [AV.norm, AV.norm1, hks]; done)))) <;> conv => whnf)
      · have hks := argsOf_no (hs := r.heads) hk (by omega)
        conv => whnf
        repeat' ((first | refine cY ?_ | refine cN ?_ | refine .not ?_ | refine wI ?_ | refine .map ?_ | refine .nil ?_ | refine .one ?_ | refine .app ?_ | refine .set ?_ | refine .rep ?_ | refine .any ?_ | refine cI ?_ | refine cJ ?_ | refine cYa ?_ | refine cNa ?_ | refine cIa ?_ | refine cJa ?_ | refine cIr ?_ | refine cId ?_ | refine cJd ?_ | with_reducible refine CondN.and ?_ | with_reducible refine CondN.or ?_ | refine CondN.lt (fun hc => ?_) (fun hc => ?_) | refine CondN.le (fun hc => ?_) (fun hc => ?_) | refine CondN.dec (fun hc => ?_) (fun hc => ?_) | refine CondN.any (fun hc => ?_) (fun hc => ?_) | refine nS ?_ | refine iA ?_ | refine iB ?_ | refine iC fun x hx => ?_ | refine iD fun x hx => ?_ | refine iE ?_ | refine iF ?_ | refine iG ?_ | refine iH fun x hx => ?_ | refine iI fun x hx => ?_ | refine iJ ?_ | refine hB ?_ | refine aP ?_ | refine .last ?_ | refine .last2 ?_ | refine zN fun k hk => ?_ | refine aR fun k hk => ?_ | refine mA ?_ | refine mS (fun hc => ?_) (fun hc => ?_) | refine RetP.nrm ?_) <;> conv => whnf)
        · refine ⟨trivial, ?_⟩
          refine EndN.atC 1 ?_ rfl rfl rfl rfl rfl
          conv => whnf
          refine And.intro ?_ ?_ <;> conv => whnf
          all_goals repeat' ((first | refine vE ?_ | refine vI ?_ | refine vB ?_ | refine vC ?_ | refine vN ?_ | refine xB ?_ | exact True.intro | ((first | refine WkN.sl ?_ ?_ | refine vD ?_ ?_ | refine WkN.norm ?_ ?_ | refine BxN.mk ?_ ?_); (focus (simp [AV.norm, AV.norm1, hks]; done)))) <;> conv => whnf)
        · refine ⟨trivial, ?_⟩
          refine EndN.atC 1 ?_ rfl rfl rfl rfl rfl
          conv => whnf
          refine And.intro ?_ ?_ <;> conv => whnf
          all_goals repeat' ((first | refine vE ?_ | refine vI ?_ | refine vB ?_ | refine vC ?_ | refine vN ?_ | refine xB ?_ | exact True.intro | ((first | refine WkN.sl ?_ ?_ | refine vD ?_ ?_ | refine WkN.norm ?_ ?_ | refine BxN.mk ?_ ?_); (focus (simp [AV.norm, AV.norm1, hks]; done)))) <;> conv => whnf)
    · rw [List.take_length]
      have hal3 := (hal done).2
      conv => whnf
      repeat' ((first | refine CallN.fn (varsOf_ok (l := argsOf r.heads done) (by omega)) ?_ | refine CallP.fn (varsOf_ok (l := argsOf r.heads done) (by omega)) ?_ | refine cY ?_ | refine cN ?_ | refine .not ?_ | refine wI ?_ | refine .map ?_ | refine .nil ?_ | refine .one ?_ | refine .app ?_ | refine .set ?_ | refine .rep ?_ | refine .any ?_ | refine cI ?_ | refine cJ ?_ | refine cYa ?_ | refine cNa ?_ | refine cIa ?_ | refine cJa ?_ | refine cIr ?_ | refine cId ?_ | refine cJd ?_ | with_reducible refine CondN.and ?_ | with_reducible refine CondN.or ?_ | refine CondN.lt (fun hc => ?_) (fun hc => ?_) | refine CondN.le (fun hc => ?_) (fun hc => ?_) | refine CondN.dec (fun hc => ?_) (fun hc => ?_) | refine CondN.any (fun hc => ?_) (fun hc => ?_) | refine nS ?_ | refine iA ?_ | refine iB ?_ | refine iC fun x hx => ?_ | refine iD fun x hx => ?_ | refine iE ?_ | refine iF ?_ | refine iG ?_ | refine iH fun x hx => ?_ | refine iI fun x hx => ?_ | refine iJ ?_ | refine hB ?_ | refine aP ?_ | refine .last ?_ | refine .last2 ?_ | refine zN fun k hk => ?_ | refine aR fun k hk => ?_ | refine mA ?_ | refine mS (fun hc => ?_) (fun hc => ?_) | refine RetP.nrm ?_) <;> conv => whnf)
      obtain ⟨p, hp⟩ : ∃ p, p = allIn (kvs r.heads done) := ⟨_, rfl⟩
      rw [← hp]
      obtain ⟨kn, hkn⟩ : ∃ kn, kn = firsts (Tm.vss (argsOf r.heads done)) := ⟨_, rfl⟩
      have hpt : ∀ t : Tm, ((firsts t.vs).all fun v => decide (v ∈ kn)) = p t := fun t => by
        rw [hp, hkn, allIn]
        refine congrArg (fun f => List.all (firsts t.vs) f) (funext fun v => ?_)
        rw [Bool.eq_iff_iff, decide_eq_true_eq, decide_eq_true_eq]
        exact argsOf_kvs r.heads done v
      rw [← hkn]
      refine LoopP.count (fb := true) h.args.length (fun st_ j => st_.sets [(11, .sl (.own 1) ((placesP p h.args j).map intA)), (12, .int .i64 j)]) (fun _ => True) trivial ?_ (fun j hj _ => ?_) (fun _ => ?_)
      · refine EndN.atC 1 ?_ rfl rfl rfl rfl rfl
        conv => whnf
        refine And.intro ?_ ?_ <;> conv => whnf
        all_goals repeat' ((first | refine vE ?_ | refine vI ?_ | refine vB ?_ | refine vC ?_ | refine vN ?_ | refine xB ?_ | exact True.intro | ((first | refine WkN.sl ?_ ?_ | refine vD ?_ ?_ | refine WkN.norm ?_ ?_ | refine BxN.mk ?_ ?_); (focus (simp [AV.norm, AV.norm1, placesP]; done)))) <;> conv => whnf)
      · obtain ⟨t, ht⟩ : ∃ t, h.args[j]? = some t := ⟨_, List.getElem?_eq_getElem hj⟩
        have hto := hho.2.2 t (List.mem_of_getElem? ht)
        have hpl := placesP_len p h.args j
        have hpt1 := hpt t
        have hal1 : Fun Try.prog 61 [slA intA kn, slA intA (firsts t.vs)] (.bool (p t)) := by rw [← hpt1]; exact allIn_ok
        conv => whnf
        repeat' ((first | refine CallN.fn (refVars_ok (t := t) (by omega)) ?_ | refine CallP.fn (refVars_ok (t := t) (by omega)) ?_ | refine CallN.fn (hal1) ?_ | refine CallP.fn (hal1) ?_ | refine cY ?_ | refine cN ?_ | refine .not ?_ | refine wI ?_ | refine .map ?_ | refine .nil ?_ | refine .one ?_ | refine .app ?_ | refine .set ?_ | refine .rep ?_ | refine .any ?_ | refine cI ?_ | refine cJ ?_ | refine cYa ?_ | refine cNa ?_ | refine cIa ?_ | refine cJa ?_ | refine cIr ?_ | refine cId ?_ | refine cJd ?_ | with_reducible refine CondN.and ?_ | with_reducible refine CondN.or ?_ | refine CondN.lt (fun hc => ?_) (fun hc => ?_) | refine CondN.le (fun hc => ?_) (fun hc => ?_) | refine CondN.dec (fun hc => ?_) (fun hc => ?_) | refine CondN.any (fun hc => ?_) (fun hc => ?_) | refine nS ?_ | refine iA ?_ | refine iB ?_ | refine iC fun x hx => ?_ | refine iD fun x hx => ?_ | refine iE ?_ | refine iF ?_ | refine iG ?_ | refine iH fun x hx => ?_ | refine iI fun x hx => ?_ | refine iJ ?_ | refine hB ?_ | refine aP ?_ | refine .last ?_ | refine .last2 ?_ | refine zN fun k hk => ?_ | refine aR fun k hk => ?_ | refine mA ?_ | refine mS (fun hc => ?_) (fun hc => ?_) | refine RetP.nrm ?_) <;> conv => whnf)
        · have hs := placesP_yes ht hc
          refine ⟨trivial, ?_⟩
          refine EndN.atC 1 ?_ rfl rfl rfl rfl rfl
          conv => whnf
          refine And.intro ?_ ?_ <;> conv => whnf
          all_goals repeat' ((first | refine vE ?_ | refine vI ?_ | refine vB ?_ | refine vC ?_ | refine vN ?_ | refine xB ?_ | exact True.intro | ((first | refine WkN.sl ?_ ?_ | refine vD ?_ ?_ | refine WkN.norm ?_ ?_ | refine BxN.mk ?_ ?_); (focus (simp [AV.norm, AV.norm1, hs]; done)))) <;> conv => whnf)
        · have hs := placesP_no ht hc
          refine ⟨trivial, ?_⟩
          refine EndN.atC 1 ?_ rfl rfl rfl rfl rfl
          conv => whnf
          refine And.intro ?_ ?_ <;> conv => whnf
          all_goals repeat' ((first | refine vE ?_ | refine vI ?_ | refine vB ?_ | refine vC ?_ | refine vN ?_ | refine xB ?_ | exact True.intro | ((first | refine WkN.sl ?_ ?_ | refine vD ?_ ?_ | refine WkN.norm ?_ ?_ | refine BxN.mk ?_ ?_); (focus (simp [AV.norm, AV.norm1, hs]; done)))) <;> conv => whnf)
      · conv => whnf
        repeat' ((first | refine cY ?_ | refine cN ?_ | refine .not ?_ | refine wI ?_ | refine .map ?_ | refine .nil ?_ | refine .one ?_ | refine .app ?_ | refine .set ?_ | refine .rep ?_ | refine .any ?_ | refine cI ?_ | refine cJ ?_ | refine cYa ?_ | refine cNa ?_ | refine cIa ?_ | refine cJa ?_ | refine cIr ?_ | refine cId ?_ | refine cJd ?_ | with_reducible refine CondN.and ?_ | with_reducible refine CondN.or ?_ | refine CondN.lt (fun hc => ?_) (fun hc => ?_) | refine CondN.le (fun hc => ?_) (fun hc => ?_) | refine CondN.dec (fun hc => ?_) (fun hc => ?_) | refine CondN.any (fun hc => ?_) (fun hc => ?_) | refine nS ?_ | refine iA ?_ | refine iB ?_ | refine iC fun x hx => ?_ | refine iD fun x hx => ?_ | refine iE ?_ | refine iF ?_ | refine iG ?_ | refine iH fun x hx => ?_ | refine iI fun x hx => ?_ | refine iJ ?_ | refine hB ?_ | refine aP ?_ | refine .last ?_ | refine .last2 ?_ | refine zN fun k hk => ?_ | refine aR fun k hk => ?_ | refine mA ?_ | refine mS (fun hc => ?_) (fun hc => ?_) | refine RetP.nrm ?_) <;> conv => whnf)
end Go.CK
