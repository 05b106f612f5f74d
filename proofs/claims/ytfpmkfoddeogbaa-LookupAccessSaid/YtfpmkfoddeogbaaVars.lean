/-
  THE VARIABLES OF TERMS: walk, each, once, AtomVars, Vars, in the abstract machine. By an AI agent.
-/
import Derived.Test.YtfpmkfoddeogbaaTrmC
set_option linter.unusedSimpArgs false
set_option linter.unusedVariables false
namespace Go.CK
open Go.AM Go.Proofs
mutual
def Tm.vs : Tm → List Int
  | .mk k n _ l => if k = 1 then [n] else if k = 2 then Tm.vss l else []
def Tm.vss : List Tm → List Int
  | [] => []
  | t :: r => t.vs ++ Tm.vss r
end
def Tm.use (t : Tm) : List Tm := if t.kind = 2 then t.args else []
theorem Tm.vs_1 {t : Tm} (h : t.kind = 1) : t.vs = [t.num] := by
  obtain ⟨k, n, s, l⟩ := t
  simp only [Tm.kind] at h
  rw [Tm.vs, if_pos h]; rfl
theorem Tm.vs_2 {t : Tm} (h : ¬ t.kind = 1) : t.vs = Tm.vss t.use := by
  obtain ⟨k, n, s, l⟩ := t
  simp only [Tm.kind] at h
  rw [Tm.vs, if_neg h]
  unfold Tm.use
  show _ = Tm.vss (if k = 2 then l else [])
  by_cases h2 : k = 2
  · rw [if_pos h2, if_pos h2]
  · rw [if_neg h2, if_neg h2, Tm.vss]
theorem Tm.vss_app : ∀ l m : List Tm, Tm.vss (l ++ m) = Tm.vss l ++ Tm.vss m
  | [], m => rfl
  | t :: l, m => by rw [List.cons_append, Tm.vss, Tm.vss, Tm.vss_app l m, List.append_assoc]
theorem Tm.vss_take {l : List Tm} {j : Nat} {x : Tm} (h : l[j]? = some x) : Tm.vss (l.take (j + 1)) = Tm.vss (l.take j) ++ x.vs := by
  obtain ⟨hj, rfl⟩ := List.getElem?_eq_some_iff.1 h
  rw [List.take_succ_eq_append_getElem hj, Tm.vss_app]
  simp [Tm.vss]
theorem Tm.vss_split {l : List Tm} {j : Nat} {x : Tm} (h : l[j]? = some x) : Tm.vss l = Tm.vss (l.take j) ++ (x.vs ++ Tm.vss (l.drop (j + 1))) := by
  rw [← List.append_assoc, ← Tm.vss_take h, ← Tm.vss_app, List.take_append_drop]
def ys1 (l : List Int) : List (List AV) := l.map fun n => [intA n]
theorem ys1_app (l m : List Int) : ys1 (l ++ m) = ys1 l ++ ys1 m := by simp [ys1]
theorem mem_use {a : Tm} {x : Tm} (h : x ∈ a.use) : x ∈ a.args := by
  unfold Tm.use at h
  split at h
  · exact h
  · cases h
set_option maxRecDepth 100000 in
theorem args_ok {a : Tm} : Fun Try.prog 130 [a.avw] (slA Tm.av a.use) := by
  refine Fun.of (op_term_args (by simp) ?_) rfl rfl
  conv => whnf
  conv => whnf
  repeat' ((first | refine cY ?_ | refine cN ?_ | refine .not ?_ | refine wI ?_ | refine .map ?_ | refine .nil ?_ | refine .one ?_ | refine .app ?_ | refine .set ?_ | refine .rep ?_ | refine .any ?_ | refine cI ?_ | refine cJ ?_ | refine cYa ?_ | refine cNa ?_ | refine cIa ?_ | refine cJa ?_ | refine cIr ?_ | refine cId ?_ | refine cJd ?_ | with_reducible refine CondN.and ?_ | with_reducible refine CondN.or ?_ | refine CondN.lt (fun hc => ?_) (fun hc => ?_) | refine CondN.le (fun hc => ?_) (fun hc => ?_) | refine CondN.dec (fun hc => ?_) (fun hc => ?_) | refine CondN.any (fun hc => ?_) (fun hc => ?_) | refine nS ?_ | refine iA ?_ | refine iB ?_ | refine iC fun x hx => ?_ | refine iD fun x hx => ?_ | refine iE ?_ | refine iF ?_ | refine iG ?_ | refine iH fun x hx => ?_ | refine iI fun x hx => ?_ | refine iJ ?_ | refine hB ?_ | refine aP ?_ | refine .last ?_ | refine .last2 ?_ | refine zN fun k hk => ?_ | refine aR fun k hk => ?_ | refine mA ?_ | refine mS (fun hc => ?_) (fun hc => ?_) | refine RetP.nrm ?_) <;> conv => whnf)
  all_goals simp [Tm.use, *]
set_option maxRecDepth 100000 in
theorem refArgs_ok {a : Tm} : Fun Try.prog 111 [a.avw] (slA Tm.av a.use) := by
  refine Fun.of (op_constraintref03_args (by simp) ?_) rfl rfl
  conv => whnf
  conv => whnf
  repeat' ((first | refine cY ?_ | refine cN ?_ | refine .not ?_ | refine wI ?_ | refine .map ?_ | refine .nil ?_ | refine .one ?_ | refine .app ?_ | refine .set ?_ | refine .rep ?_ | refine .any ?_ | refine cI ?_ | refine cJ ?_ | refine cYa ?_ | refine cNa ?_ | refine cIa ?_ | refine cJa ?_ | refine cIr ?_ | refine cId ?_ | refine cJd ?_ | with_reducible refine CondN.and ?_ | with_reducible refine CondN.or ?_ | refine CondN.lt (fun hc => ?_) (fun hc => ?_) | refine CondN.le (fun hc => ?_) (fun hc => ?_) | refine CondN.dec (fun hc => ?_) (fun hc => ?_) | refine CondN.any (fun hc => ?_) (fun hc => ?_) | refine nS ?_ | refine iA ?_ | refine iB ?_ | refine iC fun x hx => ?_ | refine iD fun x hx => ?_ | refine iE ?_ | refine iF ?_ | refine iG ?_ | refine iH fun x hx => ?_ | refine iI fun x hx => ?_ | refine iJ ?_ | refine hB ?_ | refine aP ?_ | refine .last ?_ | refine .last2 ?_ | refine zN fun k hk => ?_ | refine aR fun k hk => ?_ | refine mA ?_ | refine mS (fun hc => ?_) (fun hc => ?_) | refine RetP.nrm ?_) <;> conv => whnf)
  all_goals simp [Tm.use, *]
/-- what a loop's round does, seen by functions that call it -/
structure YC (P : Program) (b n0 : Nat) (xs : List (List AV)) (J : List (List AV) → List Box → Prop) (Jx : List Box → Prop) : Prop where
  hb : b < n0
  hJ : ∀ pre bs', J pre bs' → bs'.length = n0 ∧ boxesLt n0 bs' = true
  hJx : ∀ bs', Jx bs' → bs'.length = n0 ∧ boxesLt n0 bs' = true
  hr : ∀ pre y rest bs' cs, pre ++ y :: rest = xs → J pre bs' → SemY P b y (bs' ++ cs) fun r bs2 => ∃ own, bs2 = own ++ cs ∧ ((r = .bool true ∧ J (pre ++ [y]) own) ∨ (r = .bool false ∧ Jx own))
theorem bl2 {n0 : Nat} {own cs : List Box} (h : own.length = n0 ∧ boxesLt n0 own = true) (hcs : boxesLt (n0 + cs.length) cs = true) : boxesLt (own ++ cs).length (own ++ cs) = true := by
  rw [List.length_append, h.1]
  exact boxesLt_app (boxesLt_le (Nat.le_add_right _ _) h.2) hcs
set_option maxRecDepth 100000 in
theorem walk_ok (a : Tm) : ∀ {b n0 : Nat} {xs : List (List AV)} {J : List (List AV) → List Box → Prop} {Jx : List Box → Prop} (hC : YC Try.prog b n0 xs J Jx) (pre rest : List (List AV)) (bs cs : List Box), pre ++ (ys1 a.vs ++ rest) = xs → J pre bs → boxesLt (n0 + cs.length) cs = true →
    AM.Sem Try.prog 109 [a.avw, .yl b] (bs ++ cs) fun r bs' => ∃ own, bs' = own ++ cs ∧ ((r = .bool true ∧ J (pre ++ ys1 a.vs) own) ∨ (r = .bool false ∧ Jx own)) := by
  induction a using Tm.ind_all with
  | h k n s l ih =>
  intro b n0 xs J Jx hC pre rest bs cs hx hj hcs
  generalize ha : Tm.mk k n s l = a at hx ⊢
  have ih : ∀ t ∈ a.args, ∀ {b n0 : Nat} {xs : List (List AV)} {J : List (List AV) → List Box → Prop} {Jx : List Box → Prop} (hC : YC Try.prog b n0 xs J Jx) (pre rest : List (List AV)) (bs cs : List Box), pre ++ (ys1 t.vs ++ rest) = xs → J pre bs → boxesLt (n0 + cs.length) cs = true →
    AM.Sem Try.prog 109 [t.avw, .yl b] (bs ++ cs) fun r bs' => ∃ own, bs' = own ++ cs ∧ ((r = .bool true ∧ J (pre ++ ys1 t.vs) own) ∨ (r = .bool false ∧ Jx own)) := by subst ha; exact ih
  clear ha
  have hbl := hC.hJ _ _ hj
  refine Sem.assume fun hg0 _ => ?_
  have hg := (good_tm (hg0 a.avw (by simp) rfl)).2.1
  have hgu : a.use.length ≤ 140737488355328 := by unfold Tm.use; split <;> simp [hg]
  refine opS_term_walk (by simp) ?_
  conv => whnf
  repeat' ((first | refine CallN.fn (args_ok) ?_ | refine CallP.fn (args_ok) ?_ | refine cY ?_ | refine cN ?_ | refine .not ?_ | refine wI ?_ | refine .map ?_ | refine .nil ?_ | refine .one ?_ | refine .app ?_ | refine .set ?_ | refine .rep ?_ | refine .any ?_ | refine cI ?_ | refine cJ ?_ | refine cYa ?_ | refine cNa ?_ | refine cIa ?_ | refine cJa ?_ | refine cIr ?_ | refine cId ?_ | refine cJd ?_ | with_reducible refine CondN.and ?_ | with_reducible refine CondN.or ?_ | refine CondN.lt (fun hc => ?_) (fun hc => ?_) | refine CondN.le (fun hc => ?_) (fun hc => ?_) | refine CondN.dec (fun hc => ?_) (fun hc => ?_) | refine CondN.any (fun hc => ?_) (fun hc => ?_) | refine nS ?_ | refine iA ?_ | refine iB ?_ | refine iC fun x hx => ?_ | refine iD fun x hx => ?_ | refine iE ?_ | refine iF ?_ | refine iG ?_ | refine iH fun x hx => ?_ | refine iI fun x hx => ?_ | refine iJ ?_ | refine hB ?_ | refine aP ?_ | refine .last ?_ | refine .last2 ?_ | refine zN fun k hk => ?_ | refine aR fun k hk => ?_ | refine mA ?_ | refine mS (fun hc => ?_) (fun hc => ?_)) <;> conv => whnf)
  · rw [Tm.vs_1 hc] at hx ⊢
    have hY := hC.hr pre [intA a.num] rest bs (cs ++ [.cells [.int .i64 a.kind, .int .i64 a.num, .str a.name, .sl .no (a.args.map Tm.av)]]) hx hj
    rw [← List.append_assoc] at hY
    refine YieldN.of hY ?_
    rintro r bs' ⟨own, rfl, h⟩
    have ho : own.length = n0 ∧ boxesLt n0 own = true := by
      rcases h with ⟨_, h⟩ | ⟨_, h⟩
      · exact hC.hJ _ _ h
      · exact hC.hJx _ h
    rcases h with ⟨rfl, h⟩ | ⟨rfl, h⟩
    · conv => whnf
      repeat' ((first | refine cY ?_ | refine cN ?_ | refine .not ?_ | refine wI ?_ | refine .map ?_ | refine .nil ?_ | refine .one ?_ | refine .app ?_ | refine .set ?_ | refine .rep ?_ | refine .any ?_ | refine cI ?_ | refine cJ ?_ | refine cYa ?_ | refine cNa ?_ | refine cIa ?_ | refine cJa ?_ | refine cIr ?_ | refine cId ?_ | refine cJd ?_ | with_reducible refine CondN.and ?_ | with_reducible refine CondN.or ?_ | refine CondN.lt (fun hc => ?_) (fun hc => ?_) | refine CondN.le (fun hc => ?_) (fun hc => ?_) | refine CondN.dec (fun hc => ?_) (fun hc => ?_) | refine CondN.any (fun hc => ?_) (fun hc => ?_) | refine nS ?_ | refine iA ?_ | refine iB ?_ | refine iC fun x hx => ?_ | refine iD fun x hx => ?_ | refine iE ?_ | refine iF ?_ | refine iG ?_ | refine iH fun x hx => ?_ | refine iI fun x hx => ?_ | refine iJ ?_ | refine hB ?_ | refine aP ?_ | refine .last ?_ | refine .last2 ?_ | refine zN fun k hk => ?_ | refine aR fun k hk => ?_ | refine mA ?_ | refine mS (fun hc => ?_) (fun hc => ?_)) <;> conv => whnf)
      refine RetP.cutS (own := own ++ cs) (List.append_assoc _ _ _).symm (show (bs ++ cs).length ≤ (own ++ cs).length by simp; omega) rfl (bl2 ho hcs) ?_
      exact RetP.slot ⟨own, rfl, .inl ⟨rfl, h⟩⟩
    · conv => whnf
      repeat' ((first | refine cY ?_ | refine cN ?_ | refine .not ?_ | refine wI ?_ | refine .map ?_ | refine .nil ?_ | refine .one ?_ | refine .app ?_ | refine .set ?_ | refine .rep ?_ | refine .any ?_ | refine cI ?_ | refine cJ ?_ | refine cYa ?_ | refine cNa ?_ | refine cIa ?_ | refine cJa ?_ | refine cIr ?_ | refine cId ?_ | refine cJd ?_ | with_reducible refine CondN.and ?_ | with_reducible refine CondN.or ?_ | refine CondN.lt (fun hc => ?_) (fun hc => ?_) | refine CondN.le (fun hc => ?_) (fun hc => ?_) | refine CondN.dec (fun hc => ?_) (fun hc => ?_) | refine CondN.any (fun hc => ?_) (fun hc => ?_) | refine nS ?_ | refine iA ?_ | refine iB ?_ | refine iC fun x hx => ?_ | refine iD fun x hx => ?_ | refine iE ?_ | refine iF ?_ | refine iG ?_ | refine iH fun x hx => ?_ | refine iI fun x hx => ?_ | refine iJ ?_ | refine hB ?_ | refine aP ?_ | refine .last ?_ | refine .last2 ?_ | refine zN fun k hk => ?_ | refine aR fun k hk => ?_ | refine mA ?_ | refine mS (fun hc => ?_) (fun hc => ?_)) <;> conv => whnf)
      refine RetP.cutS (own := own ++ cs) (List.append_assoc _ _ _).symm (show (bs ++ cs).length ≤ (own ++ cs).length by simp; omega) rfl (bl2 ho hcs) ?_
      exact RetP.slot ⟨own, rfl, .inr ⟨rfl, h⟩⟩
  · rw [Tm.vs_2 hc] at hx ⊢
    refine LoopP.by (fb := false) (fun _ (q : Nat × List Box) => ⟨[(1, .yl b), (15, slA Tm.av a.use), (16, .int .i64 a.use.length), (17, .int .i64 q.1)], q.2 ++ cs, (bs ++ cs).length⟩) (fun q => q.1 ≤ a.use.length ∧ J (pre ++ ys1 (Tm.vss (a.use.take q.1))) q.2) (fun q => a.use.length - q.1) (0, bs) ⟨Nat.zero_le _, by simpa [Tm.vss, ys1] using hj⟩ ?_ ?_
    · refine EndN.cutS (own := bs ++ cs) rfl (Nat.le_refl _) ?_ (bl2 hbl hcs) ?_
      · simp [envLt, AV.lt, AV.lt1, AV.lt0, AV.flat1]; have := hC.hb; omega
      · refine EndN.atS ?_ rfl rfl
        conv => whnf
        repeat' ((first | refine vE ?_ | refine vI ?_ | refine vB ?_ | refine vC ?_ | refine vN ?_ | refine xB ?_ | exact True.intro | ((first | refine WkN.sl ?_ ?_ | refine vD ?_ ?_ | refine WkN.norm ?_ ?_ | refine BxN.mk ?_ ?_); (focus (simp [AV.norm, AV.norm1, ]; done)))) <;> conv => whnf)
    · rintro ⟨j, own⟩ ⟨hj1, hj2⟩
      dsimp only at hj1 hj2 ⊢
      have ho := hC.hJ _ _ hj2
      by_cases hlt : j < a.use.length
      · obtain ⟨x, hxj⟩ : ∃ x, a.use[j]? = some x := ⟨_, List.getElem?_eq_getElem hlt⟩
        conv => whnf
        repeat' ((first | refine cY ?_ | refine cN ?_ | refine .not ?_ | refine wI ?_ | refine .map ?_ | refine .nil ?_ | refine .one ?_ | refine .app ?_ | refine .set ?_ | refine .rep ?_ | refine .any ?_ | refine cI ?_ | refine cJ ?_ | refine cYa ?_ | refine cNa ?_ | refine cIa ?_ | refine cJa ?_ | refine cIr ?_ | refine cId ?_ | refine cJd ?_ | with_reducible refine CondN.and ?_ | with_reducible refine CondN.or ?_ | refine CondN.lt (fun hc => ?_) (fun hc => ?_) | refine CondN.le (fun hc => ?_) (fun hc => ?_) | refine CondN.dec (fun hc => ?_) (fun hc => ?_) | refine CondN.any (fun hc => ?_) (fun hc => ?_) | refine nS ?_ | refine iA ?_ | refine iB ?_ | refine iC fun x hx => ?_ | refine iD fun x hx => ?_ | refine iE ?_ | refine iF ?_ | refine iG ?_ | refine iH fun x hx => ?_ | refine iI fun x hx => ?_ | refine iJ ?_ | refine hB ?_ | refine aP ?_ | refine .last ?_ | refine .last2 ?_ | refine zN fun k hk => ?_ | refine aR fun k hk => ?_ | refine mA ?_ | refine mS (fun hc => ?_) (fun hc => ?_)) <;> conv => whnf)
        have hsp := Tm.vss_split hxj
        have htk := Tm.vss_take hxj
        have hC2 := ih x (mem_use (List.mem_of_getElem? hxj)) hC (pre ++ ys1 (Tm.vss (a.use.take j))) (ys1 (Tm.vss (a.use.drop (j + 1))) ++ rest) own (cs ++ [.cells [.int .i64 x.kind, .int .i64 x.num, .str x.name, .sl .no (x.args.map Tm.av)]]) (by rw [← hx, hsp]; simp [ys1_app]) hj2 (boxesLt_app (boxesLt_le (by simp) hcs) rfl)
        rw [← List.append_assoc] at hC2
        refine CallN.raw hC2 ?_
        rintro r bs' ⟨own2, rfl, ⟨rfl, h⟩ | ⟨rfl, h⟩⟩
        · have ho2 := hC.hJ _ _ h
          conv => whnf
          repeat' ((first | refine cY ?_ | refine cN ?_ | refine .not ?_ | refine wI ?_ | refine .map ?_ | refine .nil ?_ | refine .one ?_ | refine .app ?_ | refine .set ?_ | refine .rep ?_ | refine .any ?_ | refine cI ?_ | refine cJ ?_ | refine cYa ?_ | refine cNa ?_ | refine cIa ?_ | refine cJa ?_ | refine cIr ?_ | refine cId ?_ | refine cJd ?_ | with_reducible refine CondN.and ?_ | with_reducible refine CondN.or ?_ | refine CondN.lt (fun hc => ?_) (fun hc => ?_) | refine CondN.le (fun hc => ?_) (fun hc => ?_) | refine CondN.dec (fun hc => ?_) (fun hc => ?_) | refine CondN.any (fun hc => ?_) (fun hc => ?_) | refine nS ?_ | refine iA ?_ | refine iB ?_ | refine iC fun x hx => ?_ | refine iD fun x hx => ?_ | refine iE ?_ | refine iF ?_ | refine iG ?_ | refine iH fun x hx => ?_ | refine iI fun x hx => ?_ | refine iJ ?_ | refine hB ?_ | refine aP ?_ | refine .last ?_ | refine .last2 ?_ | refine zN fun k hk => ?_ | refine aR fun k hk => ?_ | refine mA ?_ | refine mS (fun hc => ?_) (fun hc => ?_)) <;> conv => whnf)
          refine ⟨(j + 1, own2), ⟨⟨hlt, ?_⟩, by simp only; omega⟩, EndN.cutS (own := own2 ++ cs) (List.append_assoc _ _ _).symm (show (bs ++ cs).length ≤ (own2 ++ cs).length by simp; omega) ?_ (bl2 ho2 hcs) ?_⟩
          · dsimp only
            rw [htk, ys1_app, ← List.append_assoc]; exact h
          · simp [envLt, AV.lt, AV.lt1, AV.lt0, AV.flat1]; have := hC.hb; omega
          · refine EndN.atS ?_ rfl rfl
            conv => whnf
            repeat' ((first | refine vE ?_ | refine vI ?_ | refine vB ?_ | refine vC ?_ | refine vN ?_ | refine xB ?_ | exact True.intro | ((first | refine WkN.sl ?_ ?_ | refine vD ?_ ?_ | refine WkN.norm ?_ ?_ | refine BxN.mk ?_ ?_); (focus (simp [AV.norm, AV.norm1, ]; done)))) <;> conv => whnf)
        · have ho2 := hC.hJx _ h
          conv => whnf
          repeat' ((first | refine cY ?_ | refine cN ?_ | refine .not ?_ | refine wI ?_ | refine .map ?_ | refine .nil ?_ | refine .one ?_ | refine .app ?_ | refine .set ?_ | refine .rep ?_ | refine .any ?_ | refine cI ?_ | refine cJ ?_ | refine cYa ?_ | refine cNa ?_ | refine cIa ?_ | refine cJa ?_ | refine cIr ?_ | refine cId ?_ | refine cJd ?_ | with_reducible refine CondN.and ?_ | with_reducible refine CondN.or ?_ | refine CondN.lt (fun hc => ?_) (fun hc => ?_) | refine CondN.le (fun hc => ?_) (fun hc => ?_) | refine CondN.dec (fun hc => ?_) (fun hc => ?_) | refine CondN.any (fun hc => ?_) (fun hc => ?_) | refine nS ?_ | refine iA ?_ | refine iB ?_ | refine iC fun x hx => ?_ | refine iD fun x hx => ?_ | refine iE ?_ | refine iF ?_ | refine iG ?_ | refine iH fun x hx => ?_ | refine iI fun x hx => ?_ | refine iJ ?_ | refine hB ?_ | refine aP ?_ | refine .last ?_ | refine .last2 ?_ | refine zN fun k hk => ?_ | refine aR fun k hk => ?_ | refine mA ?_ | refine mS (fun hc => ?_) (fun hc => ?_)) <;> conv => whnf)
          refine RetP.cutS (own := own2 ++ cs) (List.append_assoc _ _ _).symm (show (bs ++ cs).length ≤ (own2 ++ cs).length by simp; omega) rfl (bl2 ho2 hcs) ?_
          exact RetP.slot ⟨own2, rfl, .inr ⟨rfl, h⟩⟩
      · obtain rfl : j = a.use.length := by omega
        rw [List.take_length] at hj2
        conv => whnf
        repeat' ((first | refine cY ?_ | refine cN ?_ | refine .not ?_ | refine wI ?_ | refine .map ?_ | refine .nil ?_ | refine .one ?_ | refine .app ?_ | refine .set ?_ | refine .rep ?_ | refine .any ?_ | refine cI ?_ | refine cJ ?_ | refine cYa ?_ | refine cNa ?_ | refine cIa ?_ | refine cJa ?_ | refine cIr ?_ | refine cId ?_ | refine cJd ?_ | with_reducible refine CondN.and ?_ | with_reducible refine CondN.or ?_ | refine CondN.lt (fun hc => ?_) (fun hc => ?_) | refine CondN.le (fun hc => ?_) (fun hc => ?_) | refine CondN.dec (fun hc => ?_) (fun hc => ?_) | refine CondN.any (fun hc => ?_) (fun hc => ?_) | refine nS ?_ | refine iA ?_ | refine iB ?_ | refine iC fun x hx => ?_ | refine iD fun x hx => ?_ | refine iE ?_ | refine iF ?_ | refine iG ?_ | refine iH fun x hx => ?_ | refine iI fun x hx => ?_ | refine iJ ?_ | refine hB ?_ | refine aP ?_ | refine .last ?_ | refine .last2 ?_ | refine zN fun k hk => ?_ | refine aR fun k hk => ?_ | refine mA ?_ | refine mS (fun hc => ?_) (fun hc => ?_)) <;> conv => whnf)
        exact RetP.slot ⟨own, rfl, .inl ⟨rfl, hj2⟩⟩
set_option maxRecDepth 100000 in
theorem each_ok {l : List Tm} : Fun Try.prog 91 [slA Tm.av l] (.fn (.func 108) [] [.ept [slA Tm.av l]]) := by
  refine Fun.of (op_term_each (by simp) ?_) rfl rfl
  conv => whnf
  conv => whnf
  repeat' ((first | refine cY ?_ | refine cN ?_ | refine .not ?_ | refine wI ?_ | refine .map ?_ | refine .nil ?_ | refine .one ?_ | refine .app ?_ | refine .set ?_ | refine .rep ?_ | refine .any ?_ | refine cI ?_ | refine cJ ?_ | refine cYa ?_ | refine cNa ?_ | refine cIa ?_ | refine cJa ?_ | refine cIr ?_ | refine cId ?_ | refine cJd ?_ | with_reducible refine CondN.and ?_ | with_reducible refine CondN.or ?_ | refine CondN.lt (fun hc => ?_) (fun hc => ?_) | refine CondN.le (fun hc => ?_) (fun hc => ?_) | refine CondN.dec (fun hc => ?_) (fun hc => ?_) | refine CondN.any (fun hc => ?_) (fun hc => ?_) | refine nS ?_ | refine iA ?_ | refine iB ?_ | refine iC fun x hx => ?_ | refine iD fun x hx => ?_ | refine iE ?_ | refine iF ?_ | refine iG ?_ | refine iH fun x hx => ?_ | refine iI fun x hx => ?_ | refine iJ ?_ | refine hB ?_ | refine aP ?_ | refine .last ?_ | refine .last2 ?_ | refine zN fun k hk => ?_ | refine aR fun k hk => ?_ | refine mA ?_ | refine mS (fun hc => ?_) (fun hc => ?_)) <;> conv => whnf)
  refine RetP.of (RetN.freeze 0 rfl rfl rfl rfl ?_)
  conv => whnf
  rfl
set_option maxRecDepth 100000 in
theorem each_iter (l : List Tm) : IterF Try.prog 108 [.ept [slA Tm.av l]] (ys1 (Tm.vss l)) := by
  intro b bs J Jx hb hJ hJx hr h0
  have hC : YC Try.prog b bs.length (ys1 (Tm.vss l)) J Jx := ⟨hb, hJ, hJx, hr⟩
  refine Sem.assume fun _ hg0 => ?_
  have hg := (good_sla (hg0 [slA Tm.av l] (by simp) (slA Tm.av l) (by simp))).1
  refine opS_term_each_1 (by simp) ?_
  conv => whnf
  repeat' ((first | refine cY ?_ | refine cN ?_ | refine .not ?_ | refine wI ?_ | refine .map ?_ | refine .nil ?_ | refine .one ?_ | refine .app ?_ | refine .set ?_ | refine .rep ?_ | refine .any ?_ | refine cI ?_ | refine cJ ?_ | refine cYa ?_ | refine cNa ?_ | refine cIa ?_ | refine cJa ?_ | refine cIr ?_ | refine cId ?_ | refine cJd ?_ | with_reducible refine CondN.and ?_ | with_reducible refine CondN.or ?_ | refine CondN.lt (fun hc => ?_) (fun hc => ?_) | refine CondN.le (fun hc => ?_) (fun hc => ?_) | refine CondN.dec (fun hc => ?_) (fun hc => ?_) | refine CondN.any (fun hc => ?_) (fun hc => ?_) | refine nS ?_ | refine iA ?_ | refine iB ?_ | refine iC fun x hx => ?_ | refine iD fun x hx => ?_ | refine iE ?_ | refine iF ?_ | refine iG ?_ | refine iH fun x hx => ?_ | refine iI fun x hx => ?_ | refine iJ ?_ | refine hB ?_ | refine aP ?_ | refine .last ?_ | refine .last2 ?_ | refine zN fun k hk => ?_ | refine aR fun k hk => ?_ | refine mA ?_ | refine mS (fun hc => ?_) (fun hc => ?_) | refine RetP.nrm ?_) <;> conv => whnf)
  refine LoopP.by (fb := false) (fun _ (q : Nat × List Box) => ⟨[(0, .yl b), (1, .ept [slA Tm.av l]), (5, .int .i64 l.length), (6, .int .i64 q.1)], q.2, bs.length⟩) (fun q => q.1 ≤ l.length ∧ J (ys1 (Tm.vss (l.take q.1))) q.2) (fun q => l.length - q.1) (0, bs) ⟨Nat.zero_le _, by simpa [Tm.vss, ys1] using h0⟩ (EndN.eqS rfl rfl rfl) ?_
  rintro ⟨j, own⟩ ⟨hj1, hj2⟩
  dsimp only at hj1 hj2 ⊢
  have ho := hC.hJ _ _ hj2
  by_cases hlt : j < l.length
  · obtain ⟨x, hxj⟩ : ∃ x, l[j]? = some x := ⟨_, List.getElem?_eq_getElem hlt⟩
    conv => whnf
    repeat' ((first | refine cY ?_ | refine cN ?_ | refine .not ?_ | refine wI ?_ | refine .map ?_ | refine .nil ?_ | refine .one ?_ | refine .app ?_ | refine .set ?_ | refine .rep ?_ | refine .any ?_ | refine cI ?_ | refine cJ ?_ | refine cYa ?_ | refine cNa ?_ | refine cIa ?_ | refine cJa ?_ | refine cIr ?_ | refine cId ?_ | refine cJd ?_ | with_reducible refine CondN.and ?_ | with_reducible refine CondN.or ?_ | refine CondN.lt (fun hc => ?_) (fun hc => ?_) | refine CondN.le (fun hc => ?_) (fun hc => ?_) | refine CondN.dec (fun hc => ?_) (fun hc => ?_) | refine CondN.any (fun hc => ?_) (fun hc => ?_) | refine nS ?_ | refine iA ?_ | refine iB ?_ | refine iC fun x hx => ?_ | refine iD fun x hx => ?_ | refine iE ?_ | refine iF ?_ | refine iG ?_ | refine iH fun x hx => ?_ | refine iI fun x hx => ?_ | refine iJ ?_ | refine hB ?_ | refine aP ?_ | refine .last ?_ | refine .last2 ?_ | refine zN fun k hk => ?_ | refine aR fun k hk => ?_ | refine mA ?_ | refine mS (fun hc => ?_) (fun hc => ?_)) <;> conv => whnf)
    have hsp := Tm.vss_split hxj
    have htk := Tm.vss_take hxj
    have hC2 := walk_ok x hC (ys1 (Tm.vss (l.take j))) (ys1 (Tm.vss (l.drop (j + 1)))) own [] (by rw [hsp, ys1_app, ys1_app]) hj2 rfl
    rw [List.append_nil] at hC2
    refine CallN.raw hC2 ?_
    rintro r bs' ⟨own2, rfl, ⟨rfl, h⟩ | ⟨rfl, h⟩⟩
    · have ho2 := hC.hJ _ _ h
      conv => whnf
      repeat' ((first | refine cY ?_ | refine cN ?_ | refine .not ?_ | refine wI ?_ | refine .map ?_ | refine .nil ?_ | refine .one ?_ | refine .app ?_ | refine .set ?_ | refine .rep ?_ | refine .any ?_ | refine cI ?_ | refine cJ ?_ | refine cYa ?_ | refine cNa ?_ | refine cIa ?_ | refine cJa ?_ | refine cIr ?_ | refine cId ?_ | refine cJd ?_ | with_reducible refine CondN.and ?_ | with_reducible refine CondN.or ?_ | refine CondN.lt (fun hc => ?_) (fun hc => ?_) | refine CondN.le (fun hc => ?_) (fun hc => ?_) | refine CondN.dec (fun hc => ?_) (fun hc => ?_) | refine CondN.any (fun hc => ?_) (fun hc => ?_) | refine nS ?_ | refine iA ?_ | refine iB ?_ | refine iC fun x hx => ?_ | refine iD fun x hx => ?_ | refine iE ?_ | refine iF ?_ | refine iG ?_ | refine iH fun x hx => ?_ | refine iI fun x hx => ?_ | refine iJ ?_ | refine hB ?_ | refine aP ?_ | refine .last ?_ | refine .last2 ?_ | refine zN fun k hk => ?_ | refine aR fun k hk => ?_ | refine mA ?_ | refine mS (fun hc => ?_) (fun hc => ?_)) <;> conv => whnf)
      refine ⟨(j + 1, own2), ⟨⟨hlt, ?_⟩, by simp only; omega⟩, ?_⟩
      · dsimp only
        rw [htk, ys1_app]; exact h
      · refine EndN.atS ?_ (List.append_nil _) rfl
        conv => whnf
        repeat' ((first | refine vE ?_ | refine vI ?_ | refine vB ?_ | refine vC ?_ | refine vN ?_ | refine xB ?_ | exact True.intro | ((first | refine WkN.sl ?_ ?_ | refine vD ?_ ?_ | refine WkN.norm ?_ ?_ | refine BxN.mk ?_ ?_); (focus (simp [AV.norm, AV.norm1, ]; done)))) <;> conv => whnf)
    · conv => whnf
      repeat' ((first | refine cY ?_ | refine cN ?_ | refine .not ?_ | refine wI ?_ | refine .map ?_ | refine .nil ?_ | refine .one ?_ | refine .app ?_ | refine .set ?_ | refine .rep ?_ | refine .any ?_ | refine cI ?_ | refine cJ ?_ | refine cYa ?_ | refine cNa ?_ | refine cIa ?_ | refine cJa ?_ | refine cIr ?_ | refine cId ?_ | refine cJd ?_ | with_reducible refine CondN.and ?_ | with_reducible refine CondN.or ?_ | refine CondN.lt (fun hc => ?_) (fun hc => ?_) | refine CondN.le (fun hc => ?_) (fun hc => ?_) | refine CondN.dec (fun hc => ?_) (fun hc => ?_) | refine CondN.any (fun hc => ?_) (fun hc => ?_) | refine nS ?_ | refine iA ?_ | refine iB ?_ | refine iC fun x hx => ?_ | refine iD fun x hx => ?_ | refine iE ?_ | refine iF ?_ | refine iG ?_ | refine iH fun x hx => ?_ | refine iI fun x hx => ?_ | refine iJ ?_ | refine hB ?_ | refine aP ?_ | refine .last ?_ | refine .last2 ?_ | refine zN fun k hk => ?_ | refine aR fun k hk => ?_ | refine mA ?_ | refine mS (fun hc => ?_) (fun hc => ?_) | refine RetP.nrm ?_) <;> conv => whnf)
      refine Or.inr ?_
      rw [List.append_nil]; exact h
  · obtain rfl : j = l.length := by omega
    rw [List.take_length] at hj2
    conv => whnf
    repeat' ((first | refine cY ?_ | refine cN ?_ | refine .not ?_ | refine wI ?_ | refine .map ?_ | refine .nil ?_ | refine .one ?_ | refine .app ?_ | refine .set ?_ | refine .rep ?_ | refine .any ?_ | refine cI ?_ | refine cJ ?_ | refine cYa ?_ | refine cNa ?_ | refine cIa ?_ | refine cJa ?_ | refine cIr ?_ | refine cId ?_ | refine cJd ?_ | with_reducible refine CondN.and ?_ | with_reducible refine CondN.or ?_ | refine CondN.lt (fun hc => ?_) (fun hc => ?_) | refine CondN.le (fun hc => ?_) (fun hc => ?_) | refine CondN.dec (fun hc => ?_) (fun hc => ?_) | refine CondN.any (fun hc => ?_) (fun hc => ?_) | refine nS ?_ | refine iA ?_ | refine iB ?_ | refine iC fun x hx => ?_ | refine iD fun x hx => ?_ | refine iE ?_ | refine iF ?_ | refine iG ?_ | refine iH fun x hx => ?_ | refine iI fun x hx => ?_ | refine iJ ?_ | refine hB ?_ | refine aP ?_ | refine .last ?_ | refine .last2 ?_ | refine zN fun k hk => ?_ | refine aR fun k hk => ?_ | refine mA ?_ | refine mS (fun hc => ?_) (fun hc => ?_) | refine RetP.nrm ?_) <;> conv => whnf)
    exact Or.inl hj2
/-! ### each once -/
def addV (l : List Int) (n : Int) : List Int := if n ∈ l then l else l ++ [n]
def addVs (l m : List Int) : List Int := m.foldl addV l
theorem addVs_app (l m k : List Int) : addVs l (m ++ k) = addVs (addVs l m) k := by simp [addVs]
theorem addVs_snoc (l m : List Int) (n : Int) : addVs l (m ++ [n]) = addV (addVs l m) n := by simp [addVs]
theorem addV_mem {l : List Int} {n x : Int} : x ∈ addV l n ↔ x ∈ l ∨ x = n := by
  unfold addV
  split
  · exact ⟨.inl, fun h => h.elim id fun e => by subst e; assumption⟩
  · simp
theorem addVs_mem : ∀ {m l : List Int} {x : Int}, x ∈ addVs l m ↔ x ∈ l ∨ x ∈ m
  | [], l, x => by simp [addVs]
  | n :: m, l, x => by
    show x ∈ addVs (addV l n) m ↔ _
    rw [addVs_mem, addV_mem, List.mem_cons, or_assoc]
theorem addV_len (l : List Int) (n : Int) : (addV l n).length ≤ l.length + 1 := by
  unfold addV
  split <;> simp
theorem addVs_len : ∀ (m l : List Int), (addVs l m).length ≤ l.length + m.length
  | [], l => by simp [addVs]
  | n :: m, l => by
    have h1 := addVs_len m (addV l n)
    have h2 := addV_len l n
    show (addVs (addV l n) m).length ≤ _
    simp only [List.length_cons]; omega
theorem addV_in {l : List Int} {n : Int} (h : n ∈ l) : addV l n = l := if_pos h
theorem addV_out {l : List Int} {n : Int} (h : ¬ n ∈ l) : addV l n = l ++ [n] := if_neg h
def firsts (l : List Int) : List Int := addVs [] l
set_option maxRecDepth 100000 in
theorem once_ok {l : List Tm} (hl : (Tm.vss l).length ≤ 100000) : Fun Try.prog 90 [.fn (.func 108) [] [.ept [slA Tm.av l]]] (slA intA (firsts (Tm.vss l))) := by
  refine Fun.of (op_term_once (by simp) ?_) rfl rfl
  conv => whnf
  conv => whnf
  repeat' ((first | refine cY ?_ | refine cN ?_ | refine .not ?_ | refine wI ?_ | refine .map ?_ | refine .nil ?_ | refine .one ?_ | refine .app ?_ | refine .set ?_ | refine .rep ?_ | refine .any ?_ | refine cI ?_ | refine cJ ?_ | refine cYa ?_ | refine cNa ?_ | refine cIa ?_ | refine cJa ?_ | refine cIr ?_ | refine cId ?_ | refine cJd ?_ | with_reducible refine CondN.and ?_ | with_reducible refine CondN.or ?_ | refine CondN.lt (fun hc => ?_) (fun hc => ?_) | refine CondN.le (fun hc => ?_) (fun hc => ?_) | refine CondN.dec (fun hc => ?_) (fun hc => ?_) | refine CondN.any (fun hc => ?_) (fun hc => ?_) | refine nS ?_ | refine iA ?_ | refine iB ?_ | refine iC fun x hx => ?_ | refine iD fun x hx => ?_ | refine iE ?_ | refine iF ?_ | refine iG ?_ | refine iH fun x hx => ?_ | refine iI fun x hx => ?_ | refine iJ ?_ | refine hB ?_ | refine aP ?_ | refine .last ?_ | refine .last2 ?_ | refine zN fun k hk => ?_ | refine aR fun k hk => ?_ | refine mA ?_ | refine mS (fun hc => ?_) (fun hc => ?_) | refine RetP.nrm ?_) <;> conv => whnf)
  refine RangeP.each (fun n : Int => [intA n]) (Tm.vss l) ⟨[(2, .sl .full []), (3, .ptr 0 0), (4, .ptr 2 0), (7, .fn (.func 108) [] [.ept [slA Tm.av l]])], [.cells [.sl (.own 1) []], .mp [], .cells [.mpt 1]], 0⟩
    (fun pre => [.cells [.sl (.own 1) ((firsts pre).map intA)], .mp (msOf (.bool true) (firsts pre)), .cells [.mpt 1]]) (each_iter l) (by kernel_rfl) ?_ rfl (fun _ => rfl) (fun _ => rfl) rfl (fun _ => ⟨rfl, rfl⟩) ?_ ?_
  · refine EndN.claimB 0 0 1 rfl (by simp) ?_
    exact EndN.eqS rfl rfl rfl
  · intro x pre y rest hxs
    have hpl : (firsts pre).length + 1 ≤ 100000 := by
      have := congrArg List.length hxs
      have h2 := addVs_len pre []
      simp at this
      unfold firsts
      simp at h2
      omega
    have hfs : firsts (pre ++ [y]) = addV (firsts pre) y := addVs_snoc [] pre y
    conv => whnf
    repeat' ((first | refine cY ?_ | refine cN ?_ | refine .not ?_ | refine wI ?_ | refine .map ?_ | refine .nil ?_ | refine .one ?_ | refine .app ?_ | refine .set ?_ | refine .rep ?_ | refine .any ?_ | refine cI ?_ | refine cJ ?_ | refine cYa ?_ | refine cNa ?_ | refine cIa ?_ | refine cJa ?_ | refine cIr ?_ | refine cId ?_ | refine cJd ?_ | with_reducible refine CondN.and ?_ | with_reducible refine CondN.or ?_ | refine CondN.lt (fun hc => ?_) (fun hc => ?_) | refine CondN.le (fun hc => ?_) (fun hc => ?_) | refine CondN.dec (fun hc => ?_) (fun hc => ?_) | refine CondN.any (fun hc => ?_) (fun hc => ?_) | refine nS ?_ | refine iA ?_ | refine iB ?_ | refine iC fun x hx => ?_ | refine iD fun x hx => ?_ | refine iE ?_ | refine iF ?_ | refine iG ?_ | refine iH fun x hx => ?_ | refine iI fun x hx => ?_ | refine iJ ?_ | refine hB ?_ | refine aP ?_ | refine .last ?_ | refine .last2 ?_ | refine zN fun k hk => ?_ | refine aR fun k hk => ?_ | refine mA ?_ | refine mS (fun hc => ?_) (fun hc => ?_) | refine RetP.nrm ?_) <;> conv => whnf)
    · rw [addV_in hc] at hfs
      refine RoundP.by ?_ rfl rfl rfl
      conv => whnf
      repeat' ((first | refine xB ?_ | (refine BxN.mk ?_ ?_; (focus (simp [hfs]; done))) | exact True.intro) <;> conv => whnf)
    · rw [addV_out hc] at hfs
      refine RoundP.by ?_ rfl rfl rfl
      conv => whnf
      repeat' ((first | refine xB ?_ | (refine BxN.mk ?_ ?_; (focus (simp [hfs, msOf_put, St.ev]; done))) | exact True.intro) <;> conv => whnf)
  · conv => whnf
    repeat' ((first | refine cY ?_ | refine cN ?_ | refine .not ?_ | refine wI ?_ | refine .map ?_ | refine .nil ?_ | refine .one ?_ | refine .app ?_ | refine .set ?_ | refine .rep ?_ | refine .any ?_ | refine cI ?_ | refine cJ ?_ | refine cYa ?_ | refine cNa ?_ | refine cIa ?_ | refine cJa ?_ | refine cIr ?_ | refine cId ?_ | refine cJd ?_ | with_reducible refine CondN.and ?_ | with_reducible refine CondN.or ?_ | refine CondN.lt (fun hc => ?_) (fun hc => ?_) | refine CondN.le (fun hc => ?_) (fun hc => ?_) | refine CondN.dec (fun hc => ?_) (fun hc => ?_) | refine CondN.any (fun hc => ?_) (fun hc => ?_) | refine nS ?_ | refine iA ?_ | refine iB ?_ | refine iC fun x hx => ?_ | refine iD fun x hx => ?_ | refine iE ?_ | refine iF ?_ | refine iG ?_ | refine iH fun x hx => ?_ | refine iI fun x hx => ?_ | refine iJ ?_ | refine hB ?_ | refine aP ?_ | refine .last ?_ | refine .last2 ?_ | refine zN fun k hk => ?_ | refine aR fun k hk => ?_ | refine mA ?_ | refine mS (fun hc => ?_) (fun hc => ?_) | refine RetP.nrm ?_) <;> conv => whnf)
end Go.CK
