/-
  LOOKUP, in the abstract machine: the functions' contracts, 1: Known. By an AI agent.
-/
import Derived.Test.YtfpmkfoddeogbaaRcLkp
import Derived.Test.YtfpmkfoddeogbaaVarsB
import Derived.Test.YtfpmkfoddeogbaaJusL
set_option linter.unusedSimpArgs false
set_option linter.unusedVariables false
namespace Go.CK
open Go.AM Go.Proofs
def Rl.heads (x : Rl) : List At := x.keep ++ x.remove
theorem Rl.heads_len (x : Rl) : x.heads.length = x.keep.length + x.remove.length := by simp [Rl.heads]
set_option maxRecDepth 100000 in
theorem count_ok {x : Rl} (h : x.keep.length + x.remove.length ≤ 100000) : Fun Try.prog 89 [x.av] (.int .i64 (x.keep.length + x.remove.length)) := by
  refine Fun.of (op_occur_count (by simp) ?_) rfl rfl
  conv => whnf
  conv => whnf
  repeat' ((first | refine cY ?_ | refine cN ?_ | refine .not ?_ | refine wI ?_ | refine .map ?_ | refine .nil ?_ | refine .one ?_ | refine .app ?_ | refine .set ?_ | refine .rep ?_ | refine .any ?_ | refine cI ?_ | refine cJ ?_ | refine cYa ?_ | refine cNa ?_ | refine cIa ?_ | refine cJa ?_ | refine cIr ?_ | refine cId ?_ | refine cJd ?_ | with_reducible refine CondN.and ?_ | with_reducible refine CondN.or ?_ | refine CondN.lt (fun hc => ?_) (fun hc => ?_) | refine CondN.le (fun hc => ?_) (fun hc => ?_) | refine CondN.dec (fun hc => ?_) (fun hc => ?_) | refine CondN.any (fun hc => ?_) (fun hc => ?_) | refine nS ?_ | refine iA ?_ | refine iB ?_ | refine iC fun x hx => ?_ | refine iD fun x hx => ?_ | refine iE ?_ | refine iF ?_ | refine iG ?_ | refine iH fun x hx => ?_ | refine iI fun x hx => ?_ | refine iJ ?_ | refine hB ?_ | refine aP ?_ | refine .last ?_ | refine .last2 ?_ | refine zN fun k hk => ?_ | refine aR fun k hk => ?_ | refine mA ?_ | refine mS (fun hc => ?_) (fun hc => ?_) | refine RetP.nrm ?_) <;> conv => whnf)
set_option maxRecDepth 100000 in
theorem heads_ok {x : Rl} (h : x.keep.length + x.remove.length ≤ 100000) : Fun Try.prog 54 [x.av] (slA At.av x.heads) := by
  refine Fun.of (op_occur_Heads (by simp) ?_) rfl rfl
  conv => whnf
  conv => whnf
  repeat' ((first | refine CallN.fn (count_ok h) ?_ | refine CallP.fn (count_ok h) ?_ | refine cY ?_ | refine cN ?_ | refine .not ?_ | refine wI ?_ | refine .map ?_ | refine .nil ?_ | refine .one ?_ | refine .app ?_ | refine .set ?_ | refine .rep ?_ | refine .any ?_ | refine cI ?_ | refine cJ ?_ | refine cYa ?_ | refine cNa ?_ | refine cIa ?_ | refine cJa ?_ | refine cIr ?_ | refine cId ?_ | refine cJd ?_ | with_reducible refine CondN.and ?_ | with_reducible refine CondN.or ?_ | refine CondN.lt (fun hc => ?_) (fun hc => ?_) | refine CondN.le (fun hc => ?_) (fun hc => ?_) | refine CondN.dec (fun hc => ?_) (fun hc => ?_) | refine CondN.any (fun hc => ?_) (fun hc => ?_) | refine nS ?_ | refine iA ?_ | refine iB ?_ | refine iC fun x hx => ?_ | refine iD fun x hx => ?_ | refine iE ?_ | refine iF ?_ | refine iG ?_ | refine iH fun x hx => ?_ | refine iI fun x hx => ?_ | refine iJ ?_ | refine hB ?_ | refine aP ?_ | refine .last ?_ | refine .last2 ?_ | refine zN fun k hk => ?_ | refine aR fun k hk => ?_ | refine mA ?_ | refine mS (fun hc => ?_) (fun hc => ?_) | refine RetP.nrm ?_) <;> conv => whnf)
  simp [Rl.heads]
set_option maxRecDepth 100000 in
theorem refHeads_ok {x : Rl} (h : x.keep.length + x.remove.length ≤ 100000) : Fun Try.prog 59 [x.av] (slA At.av x.heads) := by
  refine Fun.of (op_constraintref16_Heads (by simp) ?_) rfl rfl
  conv => whnf
  conv => whnf
  repeat' ((first | refine cY ?_ | refine cN ?_ | refine .not ?_ | refine wI ?_ | refine .map ?_ | refine .nil ?_ | refine .one ?_ | refine .app ?_ | refine .set ?_ | refine .rep ?_ | refine .any ?_ | refine cI ?_ | refine cJ ?_ | refine cYa ?_ | refine cNa ?_ | refine cIa ?_ | refine cJa ?_ | refine cIr ?_ | refine cId ?_ | refine cJd ?_ | with_reducible refine CondN.and ?_ | with_reducible refine CondN.or ?_ | refine CondN.lt (fun hc => ?_) (fun hc => ?_) | refine CondN.le (fun hc => ?_) (fun hc => ?_) | refine CondN.dec (fun hc => ?_) (fun hc => ?_) | refine CondN.any (fun hc => ?_) (fun hc => ?_) | refine nS ?_ | refine iA ?_ | refine iB ?_ | refine iC fun x hx => ?_ | refine iD fun x hx => ?_ | refine iE ?_ | refine iF ?_ | refine iG ?_ | refine iH fun x hx => ?_ | refine iI fun x hx => ?_ | refine iJ ?_ | refine hB ?_ | refine aP ?_ | refine .last ?_ | refine .last2 ?_ | refine zN fun k hk => ?_ | refine aR fun k hk => ?_ | refine mA ?_ | refine mS (fun hc => ?_) (fun hc => ?_) | refine RetP.nrm ?_) <;> conv => whnf)
  simp [Rl.heads]
/-- the variables of the heads that are done -/
def kvs (hs : List At) : List Int → List Int
  | [] => []
  | k :: r => (if 0 ≤ k then match hs[k.toNat]? with
    | some h => firsts (Tm.vss h.args)
    | none => []
    else []) ++ kvs hs r
theorem kvs_app (hs : List At) : ∀ l m, kvs hs (l ++ m) = kvs hs l ++ kvs hs m
  | [], m => rfl
  | k :: l, m => by rw [List.cons_append, kvs, kvs, kvs_app hs l m, List.append_assoc]
theorem kvs_yes {hs : List At} {l : List Int} {j : Nat} {k : Int} {h : At} (hk : l[j]? = some k) (h0 : 0 ≤ k) (hh : hs[k.toNat]? = some h) : kvs hs (l.take (j + 1)) = kvs hs (l.take j) ++ firsts (Tm.vss h.args) := by
  obtain ⟨hj, rfl⟩ := List.getElem?_eq_some_iff.1 hk
  rw [List.take_succ_eq_append_getElem hj, kvs_app]
  simp [kvs, h0, hh]
theorem kvs_no {hs : List At} {l : List Int} {j : Nat} {k : Int} (hk : l[j]? = some k) (h0 : k < 0 ∨ (hs.length : Int) ≤ k) : kvs hs (l.take (j + 1)) = kvs hs (l.take j) := by
  obtain ⟨hj, rfl⟩ := List.getElem?_eq_some_iff.1 hk
  rw [List.take_succ_eq_append_getElem hj, kvs_app]
  rcases h0 with h0 | h0
  · simp [kvs, Int.not_le.2 h0]
  · have : hs[(l[j]).toNat]? = none := List.getElem?_eq_none (by omega)
    simp [kvs, this]
/-- the places of the terms for which p holds -/
def placesP (p : Tm → Bool) (l : List Tm) : Nat → List Int
  | 0 => []
  | j + 1 => placesP p l j ++ match l[j]? with
    | some t => if p t then [(j : Int)] else []
    | none => []
theorem placesP_yes {p : Tm → Bool} {l : List Tm} {j : Nat} {t : Tm} (h : l[j]? = some t) (hp : p t = true) : placesP p l (j + 1) = placesP p l j ++ [(j : Int)] := by simp [placesP, h, hp]
theorem placesP_no {p : Tm → Bool} {l : List Tm} {j : Nat} {t : Tm} (h : l[j]? = some t) (hp : p t = false) : placesP p l (j + 1) = placesP p l j := by simp [placesP, h, hp]
theorem placesP_len (p : Tm → Bool) (l : List Tm) : ∀ j, (placesP p l j).length ≤ j
  | 0 => Nat.le_refl _
  | j + 1 => by
    have := placesP_len p l j
    rw [placesP, List.length_append]
    split
    · split <;> simp <;> omega
    · simp; omega
def allIn (known : List Int) (t : Tm) : Bool := (firsts t.vs).all fun v => decide (v ∈ known)
def knownI (r : Rl) (done : List Int) (head : Int) : List Int :=
  if head < 0 then [] else match r.heads[head.toNat]? with
    | some h => placesP (allIn (kvs r.heads done)) h.args h.args.length
    | none => []
/-- what the bounds of the statements give -/
def Rl.ok (r : Rl) : Prop := r.keep.length + r.remove.length ≤ 1000 ∧ ∀ h ∈ r.heads, h.args.length ≤ 100000 ∧ (Tm.vss h.args).length ≤ 100000 ∧ ∀ t ∈ h.args, t.vs.length ≤ 100000
set_option maxRecDepth 100000 in
theorem known1_ok {bs : List Box} {b c : Nat} {xs : List Int} {v : Int} (hp : boxCells bs c = some [.mpt b]) (hb : bs[b]? = some (.mp (msOf (.bool true) xs))) : AM.Sem Try.prog 58 [.int .i64 v, .ptr c 0] bs fun r bs' => r = .bool (!decide (v ∈ xs)) ∧ bs' = bs := by
  refine opS_lookup_Known_1 (by simp) ?_
  conv => whnf
  repeat' ((first | refine cY ?_ | refine cN ?_ | refine .not ?_ | refine wI ?_ | refine .map ?_ | refine .nil ?_ | refine .one ?_ | refine .app ?_ | refine .set ?_ | refine .rep ?_ | refine .any ?_ | refine cI ?_ | refine cJ ?_ | refine cYa ?_ | refine cNa ?_ | refine cIa ?_ | refine cJa ?_ | refine cIr ?_ | refine cId ?_ | refine cJd ?_ | with_reducible refine CondN.and ?_ | with_reducible refine CondN.or ?_ | refine CondN.lt (fun hc => ?_) (fun hc => ?_) | refine CondN.le (fun hc => ?_) (fun hc => ?_) | refine CondN.dec (fun hc => ?_) (fun hc => ?_) | refine CondN.any (fun hc => ?_) (fun hc => ?_) | refine nS ?_ | refine iA ?_ | refine iB ?_ | refine iC fun x hx => ?_ | refine iD fun x hx => ?_ | refine iE ?_ | refine iF ?_ | refine iG ?_ | refine iH fun x hx => ?_ | refine iI fun x hx => ?_ | refine iJ ?_ | refine hB ?_ | refine aP ?_ | refine .last ?_ | refine .last2 ?_ | refine zN fun k hk => ?_ | refine aR fun k hk => ?_ | refine mA ?_ | refine mS (fun hc => ?_) (fun hc => ?_)) <;> conv => whnf)
  refine BxAt.of hp ?_
  conv => whnf
  repeat' ((first | refine cY ?_ | refine cN ?_ | refine .not ?_ | refine wI ?_ | refine .map ?_ | refine .nil ?_ | refine .one ?_ | refine .app ?_ | refine .set ?_ | refine .rep ?_ | refine .any ?_ | refine cI ?_ | refine cJ ?_ | refine cYa ?_ | refine cNa ?_ | refine cIa ?_ | refine cJa ?_ | refine cIr ?_ | refine cId ?_ | refine cJd ?_ | with_reducible refine CondN.and ?_ | with_reducible refine CondN.or ?_ | refine CondN.lt (fun hc => ?_) (fun hc => ?_) | refine CondN.le (fun hc => ?_) (fun hc => ?_) | refine CondN.dec (fun hc => ?_) (fun hc => ?_) | refine CondN.any (fun hc => ?_) (fun hc => ?_) | refine nS ?_ | refine iA ?_ | refine iB ?_ | refine iC fun x hx => ?_ | refine iD fun x hx => ?_ | refine iE ?_ | refine iF ?_ | refine iG ?_ | refine iH fun x hx => ?_ | refine iI fun x hx => ?_ | refine iJ ?_ | refine hB ?_ | refine aP ?_ | refine .last ?_ | refine .last2 ?_ | refine zN fun k hk => ?_ | refine aR fun k hk => ?_ | refine mA ?_ | refine mS (fun hc => ?_) (fun hc => ?_)) <;> conv => whnf)
  · refine RetP.slot ⟨?_, rfl⟩
    rw [decide_eq_true hc]; rfl
  · refine RetP.slot ⟨?_, rfl⟩
    rw [decide_eq_false hc]; rfl
set_option maxRecDepth 100000 in
theorem indexKnown_ok {bs : List Box} {b c : Nat} {xs l : List Int} (hp : boxCells bs c = some [.mpt b]) (hb : bs[b]? = some (.mp (msOf (.bool true) xs))) : AM.Sem Try.prog 92 [slA intA l, .fn (.func 58) [] [.ptr c 0]] bs fun r bs' => r = .int .i64 (findI (fun v => !decide (v ∈ xs)) l) ∧ bs' = bs := by
  refine Sem.assume fun hg0 _ => ?_
  have hg := (good_sla (hg0 (slA intA l) (by simp) rfl)).1
  refine opS_slices_IndexFunc_int_int (by simp) ?_
  conv => whnf
  repeat' ((first | refine cY ?_ | refine cN ?_ | refine .not ?_ | refine wI ?_ | refine .map ?_ | refine .nil ?_ | refine .one ?_ | refine .app ?_ | refine .set ?_ | refine .rep ?_ | refine .any ?_ | refine cI ?_ | refine cJ ?_ | refine cYa ?_ | refine cNa ?_ | refine cIa ?_ | refine cJa ?_ | refine cIr ?_ | refine cId ?_ | refine cJd ?_ | with_reducible refine CondN.and ?_ | with_reducible refine CondN.or ?_ | refine CondN.lt (fun hc => ?_) (fun hc => ?_) | refine CondN.le (fun hc => ?_) (fun hc => ?_) | refine CondN.dec (fun hc => ?_) (fun hc => ?_) | refine CondN.any (fun hc => ?_) (fun hc => ?_) | refine nS ?_ | refine iA ?_ | refine iB ?_ | refine iC fun x hx => ?_ | refine iD fun x hx => ?_ | refine iE ?_ | refine iF ?_ | refine iG ?_ | refine iH fun x hx => ?_ | refine iI fun x hx => ?_ | refine iJ ?_ | refine hB ?_ | refine aP ?_ | refine .last ?_ | refine .last2 ?_ | refine zN fun k hk => ?_ | refine aR fun k hk => ?_ | refine mA ?_ | refine mS (fun hc => ?_) (fun hc => ?_) | refine RetP.nrm ?_) <;> conv => whnf)
  refine LoopP.count (fb := false) l.length (fun st_ j => ⟨[(0, slA intA l), (1, .fn (.func 58) [] [.ptr c 0]), (7, .int .i64 l.length), (8, .int .i64 j)], bs, bs.length⟩) (fun j => ∀ i x, i < j → l[i]? = some x → (!decide (x ∈ xs)) = false) no_zero ?_ (fun j hj hij => ?_) (fun hij => ?_)
  · refine EndN.atS ?_ rfl rfl
    conv => whnf
    repeat' ((first | refine vE ?_ | refine vI ?_ | refine vB ?_ | refine vC ?_ | refine vN ?_ | refine xB ?_ | exact True.intro | ((first | refine WkN.sl ?_ ?_ | refine vD ?_ ?_ | refine WkN.norm ?_ ?_ | refine BxN.mk ?_ ?_); (focus (simp [AV.norm, AV.norm1, ]; done)))) <;> conv => whnf)
  · obtain ⟨y, hy⟩ : ∃ y, l[j]? = some y := ⟨_, List.getElem?_eq_getElem hj⟩
    conv => whnf
    repeat' ((first | refine cY ?_ | refine cN ?_ | refine .not ?_ | refine wI ?_ | refine .map ?_ | refine .nil ?_ | refine .one ?_ | refine .app ?_ | refine .set ?_ | refine .rep ?_ | refine .any ?_ | refine cI ?_ | refine cJ ?_ | refine cYa ?_ | refine cNa ?_ | refine cIa ?_ | refine cJa ?_ | refine cIr ?_ | refine cId ?_ | refine cJd ?_ | with_reducible refine CondN.and ?_ | with_reducible refine CondN.or ?_ | refine CondN.lt (fun hc => ?_) (fun hc => ?_) | refine CondN.le (fun hc => ?_) (fun hc => ?_) | refine CondN.dec (fun hc => ?_) (fun hc => ?_) | refine CondN.any (fun hc => ?_) (fun hc => ?_) | refine nS ?_ | refine iA ?_ | refine iB ?_ | refine iC fun x hx => ?_ | refine iD fun x hx => ?_ | refine iE ?_ | refine iF ?_ | refine iG ?_ | refine iH fun x hx => ?_ | refine iI fun x hx => ?_ | refine iJ ?_ | refine hB ?_ | refine aP ?_ | refine .last ?_ | refine .last2 ?_ | refine zN fun k hk => ?_ | refine aR fun k hk => ?_ | refine mA ?_ | refine mS (fun hc => ?_) (fun hc => ?_)) <;> conv => whnf)
    refine CallN.raw (known1_ok hp hb) ?_
    rintro r bs' ⟨rfl, rfl⟩
    conv => whnf
    repeat' ((first | refine cY ?_ | refine cN ?_ | refine .not ?_ | refine wI ?_ | refine .map ?_ | refine .nil ?_ | refine .one ?_ | refine .app ?_ | refine .set ?_ | refine .rep ?_ | refine .any ?_ | refine cI ?_ | refine cJ ?_ | refine cYa ?_ | refine cNa ?_ | refine cIa ?_ | refine cJa ?_ | refine cIr ?_ | refine cId ?_ | refine cJd ?_ | with_reducible refine CondN.and ?_ | with_reducible refine CondN.or ?_ | refine CondN.lt (fun hc => ?_) (fun hc => ?_) | refine CondN.le (fun hc => ?_) (fun hc => ?_) | refine CondN.dec (fun hc => ?_) (fun hc => ?_) | refine CondN.any (fun hc => ?_) (fun hc => ?_) | refine nS ?_ | refine iA ?_ | refine iB ?_ | refine iC fun x hx => ?_ | refine iD fun x hx => ?_ | refine iE ?_ | refine iF ?_ | refine iG ?_ | refine iH fun x hx => ?_ | refine iI fun x hx => ?_ | refine iJ ?_ | refine hB ?_ | refine aP ?_ | refine .last ?_ | refine .last2 ?_ | refine zN fun k hk => ?_ | refine aR fun k hk => ?_ | refine mA ?_ | refine mS (fun hc => ?_) (fun hc => ?_)) <;> conv => whnf)
    · refine ⟨no_succ hij hy (by rw [decide_eq_true hc]; rfl), ?_⟩
      refine EndN.atS ?_ rfl rfl
      conv => whnf
      repeat' ((first | refine vE ?_ | refine vI ?_ | refine vB ?_ | refine vC ?_ | refine vN ?_ | refine xB ?_ | exact True.intro | ((first | refine WkN.sl ?_ ?_ | refine vD ?_ ?_ | refine WkN.norm ?_ ?_ | refine BxN.mk ?_ ?_); (focus (simp [AV.norm, AV.norm1, ]; done)))) <;> conv => whnf)
    · refine RetP.slot ⟨?_, rfl⟩
      rw [findI_at hij hy (by rw [decide_eq_false hc]; rfl)]; rfl
  · conv => whnf
    repeat' ((first | refine cY ?_ | refine cN ?_ | refine .not ?_ | refine wI ?_ | refine .map ?_ | refine .nil ?_ | refine .one ?_ | refine .app ?_ | refine .set ?_ | refine .rep ?_ | refine .any ?_ | refine cI ?_ | refine cJ ?_ | refine cYa ?_ | refine cNa ?_ | refine cIa ?_ | refine cJa ?_ | refine cIr ?_ | refine cId ?_ | refine cJd ?_ | with_reducible refine CondN.and ?_ | with_reducible refine CondN.or ?_ | refine CondN.lt (fun hc => ?_) (fun hc => ?_) | refine CondN.le (fun hc => ?_) (fun hc => ?_) | refine CondN.dec (fun hc => ?_) (fun hc => ?_) | refine CondN.any (fun hc => ?_) (fun hc => ?_) | refine nS ?_ | refine iA ?_ | refine iB ?_ | refine iC fun x hx => ?_ | refine iD fun x hx => ?_ | refine iE ?_ | refine iF ?_ | refine iG ?_ | refine iH fun x hx => ?_ | refine iI fun x hx => ?_ | refine iJ ?_ | refine hB ?_ | refine aP ?_ | refine .last ?_ | refine .last2 ?_ | refine zN fun k hk => ?_ | refine aR fun k hk => ?_ | refine mA ?_ | refine mS (fun hc => ?_) (fun hc => ?_)) <;> conv => whnf)
    refine RetP.slot ⟨?_, rfl⟩
    rw [findI_no hij]; rfl
set_option maxRecDepth 100000 in
theorem containsKnown_ok {bs : List Box} {b c : Nat} {xs l : List Int} (hp : boxCells bs c = some [.mpt b]) (hb : bs[b]? = some (.mp (msOf (.bool true) xs))) : AM.Sem Try.prog 56 [slA intA l, .fn (.func 58) [] [.ptr c 0]] bs fun r bs' => r = .bool (!l.all fun v => decide (v ∈ xs)) ∧ bs' = bs := by
  rw [show (!l.all fun v => decide (v ∈ xs)) = l.any fun v => !decide (v ∈ xs) by rw [List.all_eq_not_any_not, Bool.not_not], ← findI_pos]
  refine opS_slices_ContainsFunc_int_int (by simp) ?_
  conv => whnf
  repeat' ((first | refine cY ?_ | refine cN ?_ | refine .not ?_ | refine wI ?_ | refine .map ?_ | refine .nil ?_ | refine .one ?_ | refine .app ?_ | refine .set ?_ | refine .rep ?_ | refine .any ?_ | refine cI ?_ | refine cJ ?_ | refine cYa ?_ | refine cNa ?_ | refine cIa ?_ | refine cJa ?_ | refine cIr ?_ | refine cId ?_ | refine cJd ?_ | with_reducible refine CondN.and ?_ | with_reducible refine CondN.or ?_ | refine CondN.lt (fun hc => ?_) (fun hc => ?_) | refine CondN.le (fun hc => ?_) (fun hc => ?_) | refine CondN.dec (fun hc => ?_) (fun hc => ?_) | refine CondN.any (fun hc => ?_) (fun hc => ?_) | refine nS ?_ | refine iA ?_ | refine iB ?_ | refine iC fun x hx => ?_ | refine iD fun x hx => ?_ | refine iE ?_ | refine iF ?_ | refine iG ?_ | refine iH fun x hx => ?_ | refine iI fun x hx => ?_ | refine iJ ?_ | refine hB ?_ | refine aP ?_ | refine .last ?_ | refine .last2 ?_ | refine zN fun k hk => ?_ | refine aR fun k hk => ?_ | refine mA ?_ | refine mS (fun hc => ?_) (fun hc => ?_)) <;> conv => whnf)
  refine CallN.raw (indexKnown_ok hp hb) ?_
  rintro r bs' ⟨rfl, rfl⟩
  conv => whnf
  repeat' ((first | refine cY ?_ | refine cN ?_ | refine .not ?_ | refine wI ?_ | refine .map ?_ | refine .nil ?_ | refine .one ?_ | refine .app ?_ | refine .set ?_ | refine .rep ?_ | refine .any ?_ | refine cI ?_ | refine cJ ?_ | refine cYa ?_ | refine cNa ?_ | refine cIa ?_ | refine cJa ?_ | refine cIr ?_ | refine cId ?_ | refine cJd ?_ | with_reducible refine CondN.and ?_ | with_reducible refine CondN.or ?_ | refine CondN.lt (fun hc => ?_) (fun hc => ?_) | refine CondN.le (fun hc => ?_) (fun hc => ?_) | refine CondN.dec (fun hc => ?_) (fun hc => ?_) | refine CondN.any (fun hc => ?_) (fun hc => ?_) | refine nS ?_ | refine iA ?_ | refine iB ?_ | refine iC fun x hx => ?_ | refine iD fun x hx => ?_ | refine iE ?_ | refine iF ?_ | refine iG ?_ | refine iH fun x hx => ?_ | refine iI fun x hx => ?_ | refine iJ ?_ | refine hB ?_ | refine aP ?_ | refine .last ?_ | refine .last2 ?_ | refine zN fun k hk => ?_ | refine aR fun k hk => ?_ | refine mA ?_ | refine mS (fun hc => ?_) (fun hc => ?_)) <;> conv => whnf)
  exact RetP.slot ⟨rfl, rfl⟩
set_option maxRecDepth 100000 in
theorem known_ok {r : Rl} {done : List Int} {head : Int} (hr : r.ok) (hd : done.length ≤ 100000) : Fun Try.prog 15 [r.av, slA intA done, .int .i64 head] (slA intA (knownI r done head)) := by
  have hhl : r.heads.length ≤ 1000 := by rw [Rl.heads_len]; exact hr.1
  refine Fun.of (op_lookup_Known (by simp) ?_) rfl rfl
  conv => whnf
  conv => whnf
  repeat' ((first | refine CallN.fn (heads_ok (x := r) (by have := hr.1; omega)) ?_ | refine CallP.fn (heads_ok (x := r) (by have := hr.1; omega)) ?_ | refine cY ?_ | refine cN ?_ | refine .not ?_ | refine wI ?_ | refine .map ?_ | refine .nil ?_ | refine .one ?_ | refine .app ?_ | refine .set ?_ | refine .rep ?_ | refine .any ?_ | refine cI ?_ | refine cJ ?_ | refine cYa ?_ | refine cNa ?_ | refine cIa ?_ | refine cJa ?_ | refine cIr ?_ | refine cId ?_ | refine cJd ?_ | with_reducible refine CondN.and ?_ | with_reducible refine CondN.or ?_ | refine CondN.lt (fun hc => ?_) (fun hc => ?_) | refine CondN.le (fun hc => ?_) (fun hc => ?_) | refine CondN.dec (fun hc => ?_) (fun hc => ?_) | refine CondN.any (fun hc => ?_) (fun hc => ?_) | refine nS ?_ | refine iA ?_ | refine iB ?_ | refine iC fun x hx => ?_ | refine iD fun x hx => ?_ | refine iE ?_ | refine iF ?_ | refine iG ?_ | refine iH fun x hx => ?_ | refine iI fun x hx => ?_ | refine iJ ?_ | refine hB ?_ | refine aP ?_ | refine .last ?_ | refine .last2 ?_ | refine zN fun k hk => ?_ | refine aR fun k hk => ?_ | refine mA ?_ | refine mS (fun hc => ?_) (fun hc => ?_) | refine RetP.nrm ?_) <;> conv => whnf)
  · rw [knownI, if_pos hc]; rfl
  · have : r.heads[head.toNat]? = none := List.getElem?_eq_none (by omega)
    rw [knownI, this]; split <;> rfl
  · obtain ⟨h, hh⟩ : ∃ h, r.heads[head.toNat]? = some h := ⟨_, List.getElem?_eq_getElem (by omega)⟩
    have hho := hr.2 h (List.mem_of_getElem? hh)
    rw [knownI, if_neg (by omega), hh]
    refine LoopP.count (fb := true) done.length (fun st_ j => ⟨(st_.sets [(29, .int .i64 j)]).env, [.cells [.str r.name, .sl .no (r.keep.map At.av), .sl .no (r.remove.map At.av), .sl .no (r.guard.map Gl.av), .sl .no (r.body.map Gl.av), .int .i64 r.vars], .mp (msOf (.bool true) (kvs r.heads (done.take j))), .cells [.mpt 1]], 0⟩) (fun _ => True) trivial ?_ (fun j hj _ => ?_) (fun _ => ?_)
    · refine EndN.at_ ?_ rfl
      conv => whnf
      refine And.intro ?_ ?_ <;> conv => whnf
      all_goals repeat' ((first | refine vE ?_ | refine vI ?_ | refine vB ?_ | refine vC ?_ | refine vN ?_ | refine xB ?_ | exact True.intro | ((first | refine WkN.sl ?_ ?_ | refine vD ?_ ?_ | refine WkN.norm ?_ ?_ | refine BxN.mk ?_ ?_); (focus (simp [AV.norm, AV.norm1, msOf, kvs]; done)))) <;> conv => whnf)
    · obtain ⟨k, hk⟩ : ∃ k, done[j]? = some k := ⟨_, List.getElem?_eq_getElem hj⟩
      by_cases hv : 0 ≤ k ∧ k < r.heads.length
      · obtain ⟨g, hgk⟩ : ∃ g, r.heads[k.toNat]? = some g := ⟨_, List.getElem?_eq_getElem (by omega)⟩
        have hgo := (hr.2 g (List.mem_of_getElem? hgk)).2.1
        have hks := kvs_yes hk hv.1 hgk
        have hgl : (firsts (Tm.vss g.args)).length ≤ 100000 := by
          have := addVs_len (Tm.vss g.args) []
          simp only [List.length_nil] at this
          unfold firsts; omega
        conv => whnf
        repeat' ((first | refine CallN.fn (atomVars_ok (x := g) hgo) ?_ | refine CallP.fn (atomVars_ok (x := g) hgo) ?_ | refine cY ?_ | refine cN ?_ | refine .not ?_ | refine wI ?_ | refine .map ?_ | refine .nil ?_ | refine .one ?_ | refine .app ?_ | refine .set ?_ | refine .rep ?_ | refine .any ?_ | refine cI ?_ | refine cJ ?_ | refine cYa ?_ | refine cNa ?_ | refine cIa ?_ | refine cJa ?_ | refine cIr ?_ | refine cId ?_ | refine cJd ?_ | with_reducible refine CondN.and ?_ | with_reducible refine CondN.or ?_ | refine CondN.lt (fun hc => ?_) (fun hc => ?_) | refine CondN.le (fun hc => ?_) (fun hc => ?_) | refine CondN.dec (fun hc => ?_) (fun hc => ?_) | refine CondN.any (fun hc => ?_) (fun hc => ?_) | refine nS ?_ | refine iA ?_ | refine iB ?_ | refine iC fun x hx => ?_ | refine iD fun x hx => ?_ | refine iE ?_ | refine iF ?_ | refine iG ?_ | refine iH fun x hx => ?_ | refine iI fun x hx => ?_ | refine iJ ?_ | refine hB ?_ | refine aP ?_ | refine .last ?_ | refine .last2 ?_ | refine zN fun k hk => ?_ | refine aR fun k hk => ?_ | refine mA ?_ | refine mS (fun hc => ?_) (fun hc => ?_) | refine RetP.nrm ?_) <;> conv => whnf)
        generalize firsts (Tm.vss g.args) = vs at *
        refine LoopP.count (fb := true) vs.length (fun st_ m => ⟨(st_.sets [(47, .int .i64 m)]).env, [.cells [.str r.name, .sl .no (r.keep.map At.av), .sl .no (r.remove.map At.av), .sl .no (r.guard.map Gl.av), .sl .no (r.body.map Gl.av), .int .i64 r.vars], .mp (msOf (.bool true) (kvs r.heads (done.take j) ++ vs.take m)), .cells [.mpt 1]], 0⟩) (fun _ => True) trivial ?_ (fun m hm _ => ?_) (fun _ => ?_)
        · refine EndN.at_ ?_ rfl
          conv => whnf
          refine And.intro ?_ ?_ <;> conv => whnf
          all_goals repeat' ((first | refine vE ?_ | refine vI ?_ | refine vB ?_ | refine vC ?_ | refine vN ?_ | refine xB ?_ | exact True.intro | ((first | refine WkN.sl ?_ ?_ | refine vD ?_ ?_ | refine WkN.norm ?_ ?_ | refine BxN.mk ?_ ?_); (focus (simp [AV.norm, AV.norm1, ]; done)))) <;> conv => whnf)
        · obtain ⟨y, hy⟩ : ∃ y, vs[m]? = some y := ⟨_, List.getElem?_eq_getElem hm⟩
          have hs : vs.take (m + 1) = vs.take m ++ [y] := by
            rw [List.take_succ_eq_append_getElem hm, (List.getElem?_eq_some_iff.1 hy).2]
          conv => whnf
          repeat' ((first | refine cY ?_ | refine cN ?_ | refine .not ?_ | refine wI ?_ | refine .map ?_ | refine .nil ?_ | refine .one ?_ | refine .app ?_ | refine .set ?_ | refine .rep ?_ | refine .any ?_ | refine cI ?_ | refine cJ ?_ | refine cYa ?_ | refine cNa ?_ | refine cIa ?_ | refine cJa ?_ | refine cIr ?_ | refine cId ?_ | refine cJd ?_ | with_reducible refine CondN.and ?_ | with_reducible refine CondN.or ?_ | refine CondN.lt (fun hc => ?_) (fun hc => ?_) | refine CondN.le (fun hc => ?_) (fun hc => ?_) | refine CondN.dec (fun hc => ?_) (fun hc => ?_) | refine CondN.any (fun hc => ?_) (fun hc => ?_) | refine nS ?_ | refine iA ?_ | refine iB ?_ | refine iC fun x hx => ?_ | refine iD fun x hx => ?_ | refine iE ?_ | refine iF ?_ | refine iG ?_ | refine iH fun x hx => ?_ | refine iI fun x hx => ?_ | refine iJ ?_ | refine hB ?_ | refine aP ?_ | refine .last ?_ | refine .last2 ?_ | refine zN fun k hk => ?_ | refine aR fun k hk => ?_ | refine mA ?_ | refine mS (fun hc => ?_) (fun hc => ?_) | refine RetP.nrm ?_) <;> conv => whnf)
          refine ⟨trivial, ?_⟩
          refine EndN.at_ ?_ rfl
          conv => whnf
          refine And.intro ?_ ?_ <;> conv => whnf
          all_goals repeat' ((first | refine vE ?_ | refine vI ?_ | refine vB ?_ | refine vC ?_ | refine vN ?_ | refine xB ?_ | exact True.intro | ((first | refine WkN.sl ?_ ?_ | refine vD ?_ ?_ | refine WkN.norm ?_ ?_ | refine BxN.mk ?_ ?_); (focus (simp [AV.norm, AV.norm1, ]; done)))) <;> conv => whnf)
          refine BxN.mk ?_ (xB True.intro)
          show mput _ y (.bool true) = _
          rw [hs, ← List.append_assoc, msOf_put]
        · rw [List.take_length, ← hks]
          conv => whnf
          repeat' ((first | refine cY ?_ | refine cN ?_ | refine .not ?_ | refine wI ?_ | refine .map ?_ | refine .nil ?_ | refine .one ?_ | refine .app ?_ | refine .set ?_ | refine .rep ?_ | refine .any ?_ | refine cI ?_ | refine cJ ?_ | refine cYa ?_ | refine cNa ?_ | refine cIa ?_ | refine cJa ?_ | refine cIr ?_ | refine cId ?_ | refine cJd ?_ | with_reducible refine CondN.and ?_ | with_reducible refine CondN.or ?_ | refine CondN.lt (fun hc => ?_) (fun hc => ?_) | refine CondN.le (fun hc => ?_) (fun hc => ?_) | refine CondN.dec (fun hc => ?_) (fun hc => ?_) | refine CondN.any (fun hc => ?_) (fun hc => ?_) | refine nS ?_ | refine iA ?_ | refine iB ?_ | refine iC fun x hx => ?_ | refine iD fun x hx => ?_ | refine iE ?_ | refine iF ?_ | refine iG ?_ | refine iH fun x hx => ?_ | refine iI fun x hx => ?_ | refine iJ ?_ | refine hB ?_ | refine aP ?_ | refine .last ?_ | refine .last2 ?_ | refine zN fun k hk => ?_ | refine aR fun k hk => ?_ | refine mA ?_ | refine mS (fun hc => ?_) (fun hc => ?_) | refine RetP.nrm ?_) <;> conv => whnf)
          refine ⟨trivial, ?_⟩
          refine EndN.at_ ?_ rfl
          conv => whnf
          refine And.intro ?_ ?_ <;> conv => whnf
          all_goals repeat' ((first | refine vE ?_ | refine vI ?_ | refine vB ?_ | refine vC ?_ | refine vN ?_ | refine xB ?_ | exact True.intro | ((first | refine WkN.sl ?_ ?_ | refine vD ?_ ?_ | refine WkN.norm ?_ ?_ | refine BxN.mk ?_ ?_); (focus (simp [AV.norm, AV.norm1, ]; done)))) <;> conv => whnf)
      · have hks := kvs_no (hs := r.heads) hk (by omega)
        conv => whnf
        repeat' ((first | refine cY ?_ | refine cN ?_ | refine .not ?_ | refine wI ?_ | refine .map ?_ | refine .nil ?_ | refine .one ?_ | refine .app ?_ | refine .set ?_ | refine .rep ?_ | refine .any ?_ | refine cI ?_ | refine cJ ?_ | refine cYa ?_ | refine cNa ?_ | refine cIa ?_ | refine cJa ?_ | refine cIr ?_ | refine cId ?_ | refine cJd ?_ | with_reducible refine CondN.and ?_ | with_reducible refine CondN.or ?_ | refine CondN.lt (fun hc => ?_) (fun hc => ?_) | refine CondN.le (fun hc => ?_) (fun hc => ?_) | refine CondN.dec (fun hc => ?_) (fun hc => ?_) | refine CondN.any (fun hc => ?_) (fun hc => ?_) | refine nS ?_ | refine iA ?_ | refine iB ?_ | refine iC fun x hx => ?_ | refine iD fun x hx => ?_ | refine iE ?_ | refine iF ?_ | refine iG ?_ | refine iH fun x hx => ?_ | refine iI fun x hx => ?_ | refine iJ ?_ | refine hB ?_ | refine aP ?_ | refine .last ?_ | refine .last2 ?_ | refine zN fun k hk => ?_ | refine aR fun k hk => ?_ | refine mA ?_ | refine mS (fun hc => ?_) (fun hc => ?_) | refine RetP.nrm ?_) <;> conv => whnf)
        · refine ⟨trivial, ?_⟩
          refine EndN.at_ ?_ rfl
          conv => whnf
          refine And.intro ?_ ?_ <;> conv => whnf
          all_goals repeat' ((first | refine vE ?_ | refine vI ?_ | refine vB ?_ | refine vC ?_ | refine vN ?_ | refine xB ?_ | exact True.intro | ((first | refine WkN.sl ?_ ?_ | refine vD ?_ ?_ | refine WkN.norm ?_ ?_ | refine BxN.mk ?_ ?_); (focus (simp [AV.norm, AV.norm1, hks]; done)))) <;> conv => whnf)
        · refine ⟨trivial, ?_⟩
          refine EndN.at_ ?_ rfl
          conv => whnf
          refine And.intro ?_ ?_ <;> conv => whnf
          all_goals repeat' ((first | refine vE ?_ | refine vI ?_ | refine vB ?_ | refine vC ?_ | refine vN ?_ | refine xB ?_ | exact True.intro | ((first | refine WkN.sl ?_ ?_ | refine vD ?_ ?_ | refine WkN.norm ?_ ?_ | refine BxN.mk ?_ ?_); (focus (simp [AV.norm, AV.norm1, hks]; done)))) <;> conv => whnf)
    · rw [List.take_length]
      conv => whnf
      repeat' ((first | refine cY ?_ | refine cN ?_ | refine .not ?_ | refine wI ?_ | refine .map ?_ | refine .nil ?_ | refine .one ?_ | refine .app ?_ | refine .set ?_ | refine .rep ?_ | refine .any ?_ | refine cI ?_ | refine cJ ?_ | refine cYa ?_ | refine cNa ?_ | refine cIa ?_ | refine cJa ?_ | refine cIr ?_ | refine cId ?_ | refine cJd ?_ | with_reducible refine CondN.and ?_ | with_reducible refine CondN.or ?_ | refine CondN.lt (fun hc => ?_) (fun hc => ?_) | refine CondN.le (fun hc => ?_) (fun hc => ?_) | refine CondN.dec (fun hc => ?_) (fun hc => ?_) | refine CondN.any (fun hc => ?_) (fun hc => ?_) | refine nS ?_ | refine iA ?_ | refine iB ?_ | refine iC fun x hx => ?_ | refine iD fun x hx => ?_ | refine iE ?_ | refine iF ?_ | refine iG ?_ | refine iH fun x hx => ?_ | refine iI fun x hx => ?_ | refine iJ ?_ | refine hB ?_ | refine aP ?_ | refine .last ?_ | refine .last2 ?_ | refine zN fun k hk => ?_ | refine aR fun k hk => ?_ | refine mA ?_ | refine mS (fun hc => ?_) (fun hc => ?_) | refine RetP.nrm ?_) <;> conv => whnf)
      obtain ⟨p, hp⟩ : ∃ p, p = allIn (kvs r.heads done) := ⟨_, rfl⟩
      rw [← hp]
      refine LoopP.count (fb := true) h.args.length (fun st_ j => st_.sets [(13, .sl (.own 1) ((placesP p h.args j).map intA)), (61, .int .i64 j)]) (fun _ => True) trivial ?_ (fun j hj _ => ?_) (fun _ => ?_)
      · refine EndN.at_ ?_ rfl
        conv => whnf
        refine And.intro ?_ ?_ <;> conv => whnf
        all_goals repeat' ((first | refine vE ?_ | refine vI ?_ | refine vB ?_ | refine vC ?_ | refine vN ?_ | refine xB ?_ | exact True.intro | ((first | refine WkN.sl ?_ ?_ | refine vD ?_ ?_ | refine WkN.norm ?_ ?_ | refine BxN.mk ?_ ?_); (focus (simp [AV.norm, AV.norm1, placesP]; done)))) <;> conv => whnf)
      · obtain ⟨t, ht⟩ : ∃ t, h.args[j]? = some t := ⟨_, List.getElem?_eq_getElem hj⟩
        have hto := hho.2.2 t (List.mem_of_getElem? ht)
        have hpl := placesP_len p h.args j
        conv => whnf
        repeat' ((first | refine CallN.fn (vars_ok (t := t) hto) ?_ | refine CallP.fn (vars_ok (t := t) hto) ?_ | refine cY ?_ | refine cN ?_ | refine .not ?_ | refine wI ?_ | refine .map ?_ | refine .nil ?_ | refine .one ?_ | refine .app ?_ | refine .set ?_ | refine .rep ?_ | refine .any ?_ | refine cI ?_ | refine cJ ?_ | refine cYa ?_ | refine cNa ?_ | refine cIa ?_ | refine cJa ?_ | refine cIr ?_ | refine cId ?_ | refine cJd ?_ | with_reducible refine CondN.and ?_ | with_reducible refine CondN.or ?_ | refine CondN.lt (fun hc => ?_) (fun hc => ?_) | refine CondN.le (fun hc => ?_) (fun hc => ?_) | refine CondN.dec (fun hc => ?_) (fun hc => ?_) | refine CondN.any (fun hc => ?_) (fun hc => ?_) | refine nS ?_ | refine iA ?_ | refine iB ?_ | refine iC fun x hx => ?_ | refine iD fun x hx => ?_ | refine iE ?_ | refine iF ?_ | refine iG ?_ | refine iH fun x hx => ?_ | refine iI fun x hx => ?_ | refine iJ ?_ | refine hB ?_ | refine aP ?_ | refine .last ?_ | refine .last2 ?_ | refine zN fun k hk => ?_ | refine aR fun k hk => ?_ | refine mA ?_ | refine mS (fun hc => ?_) (fun hc => ?_)) <;> conv => whnf)
        refine CallN.raw (containsKnown_ok (xs := kvs r.heads done) (b := 1) rfl rfl) ?_
        rintro r' bs' ⟨rfl, rfl⟩
        have hpt : ((firsts t.vs).all fun v => decide (v ∈ kvs r.heads done)) = p t := by rw [hp]; rfl
        rw [hpt]
        conv => whnf
        repeat' ((first | refine cY ?_ | refine cN ?_ | refine .not ?_ | refine wI ?_ | refine .map ?_ | refine .nil ?_ | refine .one ?_ | refine .app ?_ | refine .set ?_ | refine .rep ?_ | refine .any ?_ | refine cI ?_ | refine cJ ?_ | refine cYa ?_ | refine cNa ?_ | refine cIa ?_ | refine cJa ?_ | refine cIr ?_ | refine cId ?_ | refine cJd ?_ | with_reducible refine CondN.and ?_ | with_reducible refine CondN.or ?_ | refine CondN.lt (fun hc => ?_) (fun hc => ?_) | refine CondN.le (fun hc => ?_) (fun hc => ?_) | refine CondN.dec (fun hc => ?_) (fun hc => ?_) | refine CondN.any (fun hc => ?_) (fun hc => ?_) | refine nS ?_ | refine iA ?_ | refine iB ?_ | refine iC fun x hx => ?_ | refine iD fun x hx => ?_ | refine iE ?_ | refine iF ?_ | refine iG ?_ | refine iH fun x hx => ?_ | refine iI fun x hx => ?_ | refine iJ ?_ | refine hB ?_ | refine aP ?_ | refine .last ?_ | refine .last2 ?_ | refine zN fun k hk => ?_ | refine aR fun k hk => ?_ | refine mA ?_ | refine mS (fun hc => ?_) (fun hc => ?_) | refine RetP.nrm ?_) <;> conv => whnf)
        · have hs := placesP_yes ht hc
          refine ⟨trivial, ?_⟩
          refine EndN.atC 3 ?_ rfl rfl rfl rfl rfl
          conv => whnf
          refine And.intro ?_ ?_ <;> conv => whnf
          all_goals repeat' ((first | refine vE ?_ | refine vI ?_ | refine vB ?_ | refine vC ?_ | refine vN ?_ | refine xB ?_ | exact True.intro | ((first | refine WkN.sl ?_ ?_ | refine vD ?_ ?_ | refine WkN.norm ?_ ?_ | refine BxN.mk ?_ ?_); (focus (simp [AV.norm, AV.norm1, hs]; done)))) <;> conv => whnf)
        · have hs := placesP_no ht hc
          refine ⟨trivial, ?_⟩
          refine EndN.atC 3 ?_ rfl rfl rfl rfl rfl
          conv => whnf
          refine And.intro ?_ ?_ <;> conv => whnf
          all_goals repeat' ((first | refine vE ?_ | refine vI ?_ | refine vB ?_ | refine vC ?_ | refine vN ?_ | refine xB ?_ | exact True.intro | ((first | refine WkN.sl ?_ ?_ | refine vD ?_ ?_ | refine WkN.norm ?_ ?_ | refine BxN.mk ?_ ?_); (focus (simp [AV.norm, AV.norm1, hs]; done)))) <;> conv => whnf)
      · conv => whnf
        repeat' ((first | refine cY ?_ | refine cN ?_ | refine .not ?_ | refine wI ?_ | refine .map ?_ | refine .nil ?_ | refine .one ?_ | refine .app ?_ | refine .set ?_ | refine .rep ?_ | refine .any ?_ | refine cI ?_ | refine cJ ?_ | refine cYa ?_ | refine cNa ?_ | refine cIa ?_ | refine cJa ?_ | refine cIr ?_ | refine cId ?_ | refine cJd ?_ | with_reducible refine CondN.and ?_ | with_reducible refine CondN.or ?_ | refine CondN.lt (fun hc => ?_) (fun hc => ?_) | refine CondN.le (fun hc => ?_) (fun hc => ?_) | refine CondN.dec (fun hc => ?_) (fun hc => ?_) | refine CondN.any (fun hc => ?_) (fun hc => ?_) | refine nS ?_ | refine iA ?_ | refine iB ?_ | refine iC fun x hx => ?_ | refine iD fun x hx => ?_ | refine iE ?_ | refine iF ?_ | refine iG ?_ | refine iH fun x hx => ?_ | refine iI fun x hx => ?_ | refine iJ ?_ | refine hB ?_ | refine aP ?_ | refine .last ?_ | refine .last2 ?_ | refine zN fun k hk => ?_ | refine aR fun k hk => ?_ | refine mA ?_ | refine mS (fun hc => ?_) (fun hc => ?_) | refine RetP.nrm ?_) <;> conv => whnf)
end Go.CK
