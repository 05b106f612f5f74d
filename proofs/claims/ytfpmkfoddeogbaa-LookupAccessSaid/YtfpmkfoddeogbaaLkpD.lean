/-
  LOOKUP, in the abstract machine: the functions' contracts, 4: heads of plans, accesses, keys. By an AI agent.
-/
import Derived.Test.YtfpmkfoddeogbaaLkpC
set_option linter.unusedSimpArgs false
set_option linter.unusedVariables false
namespace Go.CK
open Go.AM Go.Proofs
def At.zero : At := ⟨.empty, []⟩
/-- the head k of a plan and its positions -/
def headI (p : Pg) (x : Pl) (k : Int) : Option (At × List Int) :=
  if k < 0 ∨ (x.order.length : Int) ≤ k ∨ x.occ.rule < 0 ∨ (p.rules.length : Int) ≤ x.occ.rule then none else match p.rules[x.occ.rule.toNat]? with
  | none => none
  | some r => match x.order[k.toNat]? with
    | none => none
    | some n => if n < 0 ∨ (r.heads.length : Int) ≤ n then none else match r.heads[n.toNat]? with
      | none => none
      | some h => some (h, if k < x.known.length then (x.known[k.toNat]?).getD [] else [])
def headAV (p : Pg) (x : Pl) (k : Int) : AV := match headI p x k with
  | some y => .tup [y.1.av, slA intA y.2, .bool true]
  | none => .tup [At.zero.av, .sl .no [], .bool false]
theorem headAV_1 {p : Pg} {x : Pl} {k : Int} (h : k < 0 ∨ (x.order.length : Int) ≤ k ∨ x.occ.rule < 0 ∨ (p.rules.length : Int) ≤ x.occ.rule) : headAV p x k = .tup [At.zero.av, .sl .no [], .bool false] := by rw [headAV, headI, if_pos h]
theorem headAV_2 {p : Pg} {x : Pl} {k n : Int} {r : Rl} (h : ¬ (k < 0 ∨ (x.order.length : Int) ≤ k ∨ x.occ.rule < 0 ∨ (p.rules.length : Int) ≤ x.occ.rule)) (hr : p.rules[x.occ.rule.toNat]? = some r) (hn : x.order[k.toNat]? = some n) (h2 : n < 0 ∨ (r.heads.length : Int) ≤ n) : headAV p x k = .tup [At.zero.av, .sl .no [], .bool false] := by
  rw [headAV, headI, if_neg h, hr, hn]
  simp only [if_pos h2]
theorem headAV_3 {p : Pg} {x : Pl} {k n : Int} {r : Rl} {g : At} {ps : List Int} (h : ¬ (k < 0 ∨ (x.order.length : Int) ≤ k ∨ x.occ.rule < 0 ∨ (p.rules.length : Int) ≤ x.occ.rule)) (hr : p.rules[x.occ.rule.toNat]? = some r) (hn : x.order[k.toNat]? = some n) (h2 : ¬ (n < 0 ∨ (r.heads.length : Int) ≤ n)) (hg : r.heads[n.toNat]? = some g) (hp : (if k < x.known.length then (x.known[k.toNat]?).getD [] else []) = ps) : headAV p x k = .tup [g.av, slA intA ps, .bool true] := by
  rw [headAV, headI, if_neg h, hr, hn]
  simp only [if_neg h2, hg, hp]
/-- no rule has many heads -/
def Pg.ok8 (p : Pg) : Prop := ∀ r ∈ p.rules, r.keep.length + r.remove.length ≤ 8
set_option maxRecDepth 100000 in
theorem head_ok {p : Pg} {x : Pl} {k : Int} (hp : p.ok8) : Fun Try.prog 66 [p.av, x.av, .int .i64 k] (headAV p x k) := by
  by_cases h1 : k < 0 ∨ (x.order.length : Int) ≤ k ∨ x.occ.rule < 0 ∨ (p.rules.length : Int) ≤ x.occ.rule
  · rw [headAV_1 h1]
    refine Fun.of (op_lookup_head (by simp) ?_) rfl rfl
    conv => whnf
    conv => whnf
    repeat' ((first | refine cY ?_ | refine cN ?_ | refine .not ?_ | refine wI ?_ | refine .map ?_ | refine .nil ?_ | refine .one ?_ | refine .app ?_ | refine .set ?_ | refine .rep ?_ | refine .any ?_ | refine cI ?_ | refine cJ ?_ | refine cYa ?_ | refine cNa ?_ | refine cIa ?_ | refine cJa ?_ | refine cIr ?_ | refine cId ?_ | refine cJd ?_ | with_reducible refine CondN.and ?_ | with_reducible refine CondN.or ?_ | refine CondN.lt (fun hc => ?_) (fun hc => ?_) | refine CondN.le (fun hc => ?_) (fun hc => ?_) | refine CondN.dec (fun hc => ?_) (fun hc => ?_) | refine CondN.any (fun hc => ?_) (fun hc => ?_) | refine nS ?_ | refine iA ?_ | refine iB ?_ | refine iC fun x hx => ?_ | refine iD fun x hx => ?_ | refine iE ?_ | refine iF ?_ | refine iG ?_ | refine iH fun x hx => ?_ | refine iI fun x hx => ?_ | refine iJ ?_ | refine hB ?_ | refine aP ?_ | refine .last ?_ | refine .last2 ?_ | refine zN fun k hk => ?_ | refine aR fun k hk => ?_ | refine mA ?_ | refine mS (fun hc => ?_) (fun hc => ?_) | refine RetP.nrm ?_) <;> conv => whnf)
    all_goals first | rfl | (exfalso; omega)
  · obtain ⟨r, hr⟩ : ∃ r, p.rules[x.occ.rule.toNat]? = some r := ⟨_, List.getElem?_eq_getElem (by omega)⟩
    obtain ⟨n, hn⟩ : ∃ n, x.order[k.toNat]? = some n := ⟨_, List.getElem?_eq_getElem (by omega)⟩
    have hrl := hp r (List.mem_of_getElem? hr)
    have hhl : r.heads.length ≤ 8 := by rw [Rl.heads_len]; exact hrl
    by_cases h2 : n < 0 ∨ (r.heads.length : Int) ≤ n
    · rw [headAV_2 h1 hr hn h2]
      refine Fun.of (op_lookup_head (by simp) ?_) rfl rfl
      conv => whnf
      conv => whnf
      repeat' ((first | refine CallN.fn (heads_ok (x := r) (by omega)) ?_ | refine CallP.fn (heads_ok (x := r) (by omega)) ?_ | refine CallN.fn (refHeads_ok (x := r) (by omega)) ?_ | refine CallP.fn (refHeads_ok (x := r) (by omega)) ?_ | refine cY ?_ | refine cN ?_ | refine .not ?_ | refine wI ?_ | refine .map ?_ | refine .nil ?_ | refine .one ?_ | refine .app ?_ | refine .set ?_ | refine .rep ?_ | refine .any ?_ | refine cI ?_ | refine cJ ?_ | refine cYa ?_ | refine cNa ?_ | refine cIa ?_ | refine cJa ?_ | refine cIr ?_ | refine cId ?_ | refine cJd ?_ | with_reducible refine CondN.and ?_ | with_reducible refine CondN.or ?_ | refine CondN.lt (fun hc => ?_) (fun hc => ?_) | refine CondN.le (fun hc => ?_) (fun hc => ?_) | refine CondN.dec (fun hc => ?_) (fun hc => ?_) | refine CondN.any (fun hc => ?_) (fun hc => ?_) | refine nS ?_ | refine iA ?_ | refine iB ?_ | refine iC fun x hx => ?_ | refine iD fun x hx => ?_ | refine iE ?_ | refine iF ?_ | refine iG ?_ | refine iH fun x hx => ?_ | refine iI fun x hx => ?_ | refine iJ ?_ | refine hB ?_ | refine aP ?_ | refine .last ?_ | refine .last2 ?_ | refine zN fun k hk => ?_ | refine aR fun k hk => ?_ | refine mA ?_ | refine mS (fun hc => ?_) (fun hc => ?_) | refine RetP.nrm ?_) <;> conv => whnf)
      all_goals first | rfl | (exfalso; omega)
    · obtain ⟨g, hg⟩ : ∃ g, r.heads[n.toNat]? = some g := ⟨_, List.getElem?_eq_getElem (by omega)⟩
      by_cases h3 : k < x.known.length
      · obtain ⟨ps, hps⟩ : ∃ ps, x.known[k.toNat]? = some ps := ⟨_, List.getElem?_eq_getElem (by omega)⟩
        rw [headAV_3 h1 hr hn h2 hg (by rw [if_pos h3, hps]; first | rfl | skip)]
        refine Fun.of (op_lookup_head (by simp) ?_) rfl rfl
        conv => whnf
        conv => whnf
        repeat' ((first | refine CallN.fn (heads_ok (x := r) (by omega)) ?_ | refine CallP.fn (heads_ok (x := r) (by omega)) ?_ | refine CallN.fn (refHeads_ok (x := r) (by omega)) ?_ | refine CallP.fn (refHeads_ok (x := r) (by omega)) ?_ | refine cY ?_ | refine cN ?_ | refine .not ?_ | refine wI ?_ | refine .map ?_ | refine .nil ?_ | refine .one ?_ | refine .app ?_ | refine .set ?_ | refine .rep ?_ | refine .any ?_ | refine cI ?_ | refine cJ ?_ | refine cYa ?_ | refine cNa ?_ | refine cIa ?_ | refine cJa ?_ | refine cIr ?_ | refine cId ?_ | refine cJd ?_ | with_reducible refine CondN.and ?_ | with_reducible refine CondN.or ?_ | refine CondN.lt (fun hc => ?_) (fun hc => ?_) | refine CondN.le (fun hc => ?_) (fun hc => ?_) | refine CondN.dec (fun hc => ?_) (fun hc => ?_) | refine CondN.any (fun hc => ?_) (fun hc => ?_) | refine nS ?_ | refine iA ?_ | refine iB ?_ | refine iC fun x hx => ?_ | refine iD fun x hx => ?_ | refine iE ?_ | refine iF ?_ | refine iG ?_ | refine iH fun x hx => ?_ | refine iI fun x hx => ?_ | refine iJ ?_ | refine hB ?_ | refine aP ?_ | refine .last ?_ | refine .last2 ?_ | refine zN fun k hk => ?_ | refine aR fun k hk => ?_ | refine mA ?_ | refine mS (fun hc => ?_) (fun hc => ?_) | refine RetP.nrm ?_) <;> conv => whnf)
        all_goals first | rfl | (exfalso; omega)
      · rw [headAV_3 h1 hr hn h2 hg (if_neg h3)]
        refine Fun.of (op_lookup_head (by simp) ?_) rfl rfl
        conv => whnf
        conv => whnf
        repeat' ((first | refine CallN.fn (heads_ok (x := r) (by omega)) ?_ | refine CallP.fn (heads_ok (x := r) (by omega)) ?_ | refine CallN.fn (refHeads_ok (x := r) (by omega)) ?_ | refine CallP.fn (refHeads_ok (x := r) (by omega)) ?_ | refine cY ?_ | refine cN ?_ | refine .not ?_ | refine wI ?_ | refine .map ?_ | refine .nil ?_ | refine .one ?_ | refine .app ?_ | refine .set ?_ | refine .rep ?_ | refine .any ?_ | refine cI ?_ | refine cJ ?_ | refine cYa ?_ | refine cNa ?_ | refine cIa ?_ | refine cJa ?_ | refine cIr ?_ | refine cId ?_ | refine cJd ?_ | with_reducible refine CondN.and ?_ | with_reducible refine CondN.or ?_ | refine CondN.lt (fun hc => ?_) (fun hc => ?_) | refine CondN.le (fun hc => ?_) (fun hc => ?_) | refine CondN.dec (fun hc => ?_) (fun hc => ?_) | refine CondN.any (fun hc => ?_) (fun hc => ?_) | refine nS ?_ | refine iA ?_ | refine iB ?_ | refine iC fun x hx => ?_ | refine iD fun x hx => ?_ | refine iE ?_ | refine iF ?_ | refine iG ?_ | refine iH fun x hx => ?_ | refine iI fun x hx => ?_ | refine iJ ?_ | refine hB ?_ | refine aP ?_ | refine .last ?_ | refine .last2 ?_ | refine zN fun k hk => ?_ | refine aR fun k hk => ?_ | refine mA ?_ | refine mS (fun hc => ?_) (fun hc => ?_) | refine RetP.nrm ?_) <;> conv => whnf)
        all_goals first | rfl | (exfalso; omega)
set_option maxRecDepth 100000 in
theorem refHead_ok {p : Pg} {x : Pl} {k : Int} (hp : p.ok8) : Fun Try.prog 69 [p.av, x.av, .int .i64 k] (headAV p x k) := by
  by_cases h1 : k < 0 ∨ (x.order.length : Int) ≤ k ∨ x.occ.rule < 0 ∨ (p.rules.length : Int) ≤ x.occ.rule
  · rw [headAV_1 h1]
    refine Fun.of (op_constraintref30_head (by simp) ?_) rfl rfl
    conv => whnf
    conv => whnf
    repeat' ((first | refine cY ?_ | refine cN ?_ | refine .not ?_ | refine wI ?_ | refine .map ?_ | refine .nil ?_ | refine .one ?_ | refine .app ?_ | refine .set ?_ | refine .rep ?_ | refine .any ?_ | refine cI ?_ | refine cJ ?_ | refine cYa ?_ | refine cNa ?_ | refine cIa ?_ | refine cJa ?_ | refine cIr ?_ | refine cId ?_ | refine cJd ?_ | with_reducible refine CondN.and ?_ | with_reducible refine CondN.or ?_ | refine CondN.lt (fun hc => ?_) (fun hc => ?_) | refine CondN.le (fun hc => ?_) (fun hc => ?_) | refine CondN.dec (fun hc => ?_) (fun hc => ?_) | refine CondN.any (fun hc => ?_) (fun hc => ?_) | refine nS ?_ | refine iA ?_ | refine iB ?_ | refine iC fun x hx => ?_ | refine iD fun x hx => ?_ | refine iE ?_ | refine iF ?_ | refine iG ?_ | refine iH fun x hx => ?_ | refine iI fun x hx => ?_ | refine iJ ?_ | refine hB ?_ | refine aP ?_ | refine .last ?_ | refine .last2 ?_ | refine zN fun k hk => ?_ | refine aR fun k hk => ?_ | refine mA ?_ | refine mS (fun hc => ?_) (fun hc => ?_) | refine RetP.nrm ?_) <;> conv => whnf)
    all_goals first | rfl | (exfalso; omega)
  · obtain ⟨r, hr⟩ : ∃ r, p.rules[x.occ.rule.toNat]? = some r := ⟨_, List.getElem?_eq_getElem (by omega)⟩
    obtain ⟨n, hn⟩ : ∃ n, x.order[k.toNat]? = some n := ⟨_, List.getElem?_eq_getElem (by omega)⟩
    have hrl := hp r (List.mem_of_getElem? hr)
    have hhl : r.heads.length ≤ 8 := by rw [Rl.heads_len]; exact hrl
    by_cases h2 : n < 0 ∨ (r.heads.length : Int) ≤ n
    · rw [headAV_2 h1 hr hn h2]
      refine Fun.of (op_constraintref30_head (by simp) ?_) rfl rfl
      conv => whnf
      conv => whnf
      repeat' ((first | refine CallN.fn (heads_ok (x := r) (by omega)) ?_ | refine CallP.fn (heads_ok (x := r) (by omega)) ?_ | refine CallN.fn (refHeads_ok (x := r) (by omega)) ?_ | refine CallP.fn (refHeads_ok (x := r) (by omega)) ?_ | refine cY ?_ | refine cN ?_ | refine .not ?_ | refine wI ?_ | refine .map ?_ | refine .nil ?_ | refine .one ?_ | refine .app ?_ | refine .set ?_ | refine .rep ?_ | refine .any ?_ | refine cI ?_ | refine cJ ?_ | refine cYa ?_ | refine cNa ?_ | refine cIa ?_ | refine cJa ?_ | refine cIr ?_ | refine cId ?_ | refine cJd ?_ | with_reducible refine CondN.and ?_ | with_reducible refine CondN.or ?_ | refine CondN.lt (fun hc => ?_) (fun hc => ?_) | refine CondN.le (fun hc => ?_) (fun hc => ?_) | refine CondN.dec (fun hc => ?_) (fun hc => ?_) | refine CondN.any (fun hc => ?_) (fun hc => ?_) | refine nS ?_ | refine iA ?_ | refine iB ?_ | refine iC fun x hx => ?_ | refine iD fun x hx => ?_ | refine iE ?_ | refine iF ?_ | refine iG ?_ | refine iH fun x hx => ?_ | refine iI fun x hx => ?_ | refine iJ ?_ | refine hB ?_ | refine aP ?_ | refine .last ?_ | refine .last2 ?_ | refine zN fun k hk => ?_ | refine aR fun k hk => ?_ | refine mA ?_ | refine mS (fun hc => ?_) (fun hc => ?_) | refine RetP.nrm ?_) <;> conv => whnf)
      all_goals first | rfl | (exfalso; omega)
    · obtain ⟨g, hg⟩ : ∃ g, r.heads[n.toNat]? = some g := ⟨_, List.getElem?_eq_getElem (by omega)⟩
      by_cases h3 : k < x.known.length
      · obtain ⟨ps, hps⟩ : ∃ ps, x.known[k.toNat]? = some ps := ⟨_, List.getElem?_eq_getElem (by omega)⟩
        rw [headAV_3 h1 hr hn h2 hg (by rw [if_pos h3, hps]; first | rfl | skip)]
        refine Fun.of (op_constraintref30_head (by simp) ?_) rfl rfl
        conv => whnf
        conv => whnf
        repeat' ((first | refine CallN.fn (heads_ok (x := r) (by omega)) ?_ | refine CallP.fn (heads_ok (x := r) (by omega)) ?_ | refine CallN.fn (refHeads_ok (x := r) (by omega)) ?_ | refine CallP.fn (refHeads_ok (x := r) (by omega)) ?_ | refine cY ?_ | refine cN ?_ | refine .not ?_ | refine wI ?_ | refine .map ?_ | refine .nil ?_ | refine .one ?_ | refine .app ?_ | refine .set ?_ | refine .rep ?_ | refine .any ?_ | refine cI ?_ | refine cJ ?_ | refine cYa ?_ | refine cNa ?_ | refine cIa ?_ | refine cJa ?_ | refine cIr ?_ | refine cId ?_ | refine cJd ?_ | with_reducible refine CondN.and ?_ | with_reducible refine CondN.or ?_ | refine CondN.lt (fun hc => ?_) (fun hc => ?_) | refine CondN.le (fun hc => ?_) (fun hc => ?_) | refine CondN.dec (fun hc => ?_) (fun hc => ?_) | refine CondN.any (fun hc => ?_) (fun hc => ?_) | refine nS ?_ | refine iA ?_ | refine iB ?_ | refine iC fun x hx => ?_ | refine iD fun x hx => ?_ | refine iE ?_ | refine iF ?_ | refine iG ?_ | refine iH fun x hx => ?_ | refine iI fun x hx => ?_ | refine iJ ?_ | refine hB ?_ | refine aP ?_ | refine .last ?_ | refine .last2 ?_ | refine zN fun k hk => ?_ | refine aR fun k hk => ?_ | refine mA ?_ | refine mS (fun hc => ?_) (fun hc => ?_) | refine RetP.nrm ?_) <;> conv => whnf)
        all_goals first | rfl | (exfalso; omega)
      · rw [headAV_3 h1 hr hn h2 hg (if_neg h3)]
        refine Fun.of (op_constraintref30_head (by simp) ?_) rfl rfl
        conv => whnf
        conv => whnf
        repeat' ((first | refine CallN.fn (heads_ok (x := r) (by omega)) ?_ | refine CallP.fn (heads_ok (x := r) (by omega)) ?_ | refine CallN.fn (refHeads_ok (x := r) (by omega)) ?_ | refine CallP.fn (refHeads_ok (x := r) (by omega)) ?_ | refine cY ?_ | refine cN ?_ | refine .not ?_ | refine wI ?_ | refine .map ?_ | refine .nil ?_ | refine .one ?_ | refine .app ?_ | refine .set ?_ | refine .rep ?_ | refine .any ?_ | refine cI ?_ | refine cJ ?_ | refine cYa ?_ | refine cNa ?_ | refine cIa ?_ | refine cJa ?_ | refine cIr ?_ | refine cId ?_ | refine cJd ?_ | with_reducible refine CondN.and ?_ | with_reducible refine CondN.or ?_ | refine CondN.lt (fun hc => ?_) (fun hc => ?_) | refine CondN.le (fun hc => ?_) (fun hc => ?_) | refine CondN.dec (fun hc => ?_) (fun hc => ?_) | refine CondN.any (fun hc => ?_) (fun hc => ?_) | refine nS ?_ | refine iA ?_ | refine iB ?_ | refine iC fun x hx => ?_ | refine iD fun x hx => ?_ | refine iE ?_ | refine iF ?_ | refine iG ?_ | refine iH fun x hx => ?_ | refine iI fun x hx => ?_ | refine iJ ?_ | refine hB ?_ | refine aP ?_ | refine .last ?_ | refine .last2 ?_ | refine zN fun k hk => ?_ | refine aR fun k hk => ?_ | refine mA ?_ | refine mS (fun hc => ?_) (fun hc => ?_) | refine RetP.nrm ?_) <;> conv => whnf)
        all_goals first | rfl | (exfalso; omega)
/-! ### finding accesses -/
def acSame (x y : Ac) : Bool := decide (x.name = y.name) && (decide (x.arity = y.arity) && decide (x.positions = y.positions))
def acOf (a : At) (ps : List Int) : Ac := ⟨a.name, a.args.length, ps⟩
def isAc (y : Ac) (x : Ac) : Bool := acSame x y
set_option maxRecDepth 100000 in
theorem find1_ok {a : At} {ps : List Int} {x : Ac} : AM.Sem Try.prog 95 [x.av, .ptr 0 0, .ptr 1 0] [.cells [.str a.name, .sl .no (a.args.map Tm.av)], .cells [.sl .no (ps.map intA)]] fun r bs' => r = .bool (isAc (acOf a ps) x) ∧ bs' = [.cells [.str a.name, .sl .no (a.args.map Tm.av)], .cells [.sl .no (ps.map intA)]] := by
  refine op_lookup_find_1 (by simp) ?_
  conv => whnf
  repeat' ((first | refine CallN.fn (equalI_ok (a := x.positions) (b := ps)) ?_ | refine CallP.fn (equalI_ok (a := x.positions) (b := ps)) ?_ | refine cY ?_ | refine cN ?_ | refine .not ?_ | refine wI ?_ | refine .map ?_ | refine .nil ?_ | refine .one ?_ | refine .app ?_ | refine .set ?_ | refine .rep ?_ | refine .any ?_ | refine cI ?_ | refine cJ ?_ | refine cYa ?_ | refine cNa ?_ | refine cIa ?_ | refine cJa ?_ | refine cIr ?_ | refine cId ?_ | refine cJd ?_ | with_reducible refine CondN.and ?_ | with_reducible refine CondN.or ?_ | refine CondN.lt (fun hc => ?_) (fun hc => ?_) | refine CondN.le (fun hc => ?_) (fun hc => ?_) | refine CondN.dec (fun hc => ?_) (fun hc => ?_) | refine CondN.any (fun hc => ?_) (fun hc => ?_) | refine nS ?_ | refine iA ?_ | refine iB ?_ | refine iC fun x hx => ?_ | refine iD fun x hx => ?_ | refine iE ?_ | refine iF ?_ | refine iG ?_ | refine iH fun x hx => ?_ | refine iI fun x hx => ?_ | refine iJ ?_ | refine hB ?_ | refine aP ?_ | refine .last ?_ | refine .last2 ?_ | refine zN fun k hk => ?_ | refine aR fun k hk => ?_ | refine mA ?_ | refine mS (fun hc => ?_) (fun hc => ?_)) <;> conv => whnf)
  all_goals refine RetP.cut 2 (Nat.le_refl _) (by simp) rfl rfl ?_
  all_goals refine RetP.slot ⟨?_, rfl⟩
  all_goals simp [St.get, envGet, isAc, acSame, acOf, *]
  all_goals rfl
/-- the boxes of find -/
def fbs (a : At) (ps : List Int) : List Box := [.cells [.str a.name, .sl .no (a.args.map Tm.av)], .cells [.sl .no (ps.map intA)]]
set_option maxRecDepth 100000 in
theorem indexAc_ok {a : At} {ps : List Int} {l : List Ac} : AM.Sem Try.prog 94 [slA Ac.av l, .fn (.func 95) [] [.ptr 0 0, .ptr 1 0]] (fbs a ps) fun r bs' => r = .int .i64 (findI (isAc (acOf a ps)) l) ∧ bs' = fbs a ps := by
  unfold fbs
  refine Sem.assume fun hg0 _ => ?_
  have hg := (good_sla (hg0 (slA Ac.av l) (by simp) rfl)).1
  refine op_slices_IndexFunc_api_Access_api_Access (by simp) ?_
  conv => whnf
  repeat' ((first | refine cY ?_ | refine cN ?_ | refine .not ?_ | refine wI ?_ | refine .map ?_ | refine .nil ?_ | refine .one ?_ | refine .app ?_ | refine .set ?_ | refine .rep ?_ | refine .any ?_ | refine cI ?_ | refine cJ ?_ | refine cYa ?_ | refine cNa ?_ | refine cIa ?_ | refine cJa ?_ | refine cIr ?_ | refine cId ?_ | refine cJd ?_ | with_reducible refine CondN.and ?_ | with_reducible refine CondN.or ?_ | refine CondN.lt (fun hc => ?_) (fun hc => ?_) | refine CondN.le (fun hc => ?_) (fun hc => ?_) | refine CondN.dec (fun hc => ?_) (fun hc => ?_) | refine CondN.any (fun hc => ?_) (fun hc => ?_) | refine nS ?_ | refine iA ?_ | refine iB ?_ | refine iC fun x hx => ?_ | refine iD fun x hx => ?_ | refine iE ?_ | refine iF ?_ | refine iG ?_ | refine iH fun x hx => ?_ | refine iI fun x hx => ?_ | refine iJ ?_ | refine hB ?_ | refine aP ?_ | refine .last ?_ | refine .last2 ?_ | refine zN fun k hk => ?_ | refine aR fun k hk => ?_ | refine mA ?_ | refine mS (fun hc => ?_) (fun hc => ?_) | refine RetP.nrm ?_) <;> conv => whnf)
  refine LoopP.count (fb := true) (l.length) (fun st_ j => st_.sets [(8, .int .i64 j)]) (fun j => ∀ i x, i < j → l[i]? = some x → isAc (acOf a ps) x = false) ?_ ?_ (fun j hj hij => ?_) (fun hij => ?_)
  · exact no_zero
  · refine EndN.at_ ?_ rfl
    conv => whnf
    refine And.intro ?_ ?_ <;> conv => whnf
    all_goals repeat' ((first | refine vE ?_ | refine vI ?_ | refine vB ?_ | refine vC ?_ | refine vN ?_ | refine xB ?_ | exact True.intro | ((first | refine WkN.sl ?_ ?_ | refine vD ?_ ?_ | refine WkN.norm ?_ ?_ | refine BxN.mk ?_ ?_); (focus (simp [AV.norm, AV.norm1, ]; done)))) <;> conv => whnf)
  · obtain ⟨y, hy⟩ : ∃ y, l[j]? = some y := ⟨_, List.getElem?_eq_getElem hj⟩
    conv => whnf
    repeat' ((first | refine cY ?_ | refine cN ?_ | refine .not ?_ | refine wI ?_ | refine .map ?_ | refine .nil ?_ | refine .one ?_ | refine .app ?_ | refine .set ?_ | refine .rep ?_ | refine .any ?_ | refine cI ?_ | refine cJ ?_ | refine cYa ?_ | refine cNa ?_ | refine cIa ?_ | refine cJa ?_ | refine cIr ?_ | refine cId ?_ | refine cJd ?_ | with_reducible refine CondN.and ?_ | with_reducible refine CondN.or ?_ | refine CondN.lt (fun hc => ?_) (fun hc => ?_) | refine CondN.le (fun hc => ?_) (fun hc => ?_) | refine CondN.dec (fun hc => ?_) (fun hc => ?_) | refine CondN.any (fun hc => ?_) (fun hc => ?_) | refine nS ?_ | refine iA ?_ | refine iB ?_ | refine iC fun x hx => ?_ | refine iD fun x hx => ?_ | refine iE ?_ | refine iF ?_ | refine iG ?_ | refine iH fun x hx => ?_ | refine iI fun x hx => ?_ | refine iJ ?_ | refine hB ?_ | refine aP ?_ | refine .last ?_ | refine .last2 ?_ | refine zN fun k hk => ?_ | refine aR fun k hk => ?_ | refine mA ?_ | refine mS (fun hc => ?_) (fun hc => ?_)) <;> conv => whnf)
    refine CallN.raw (find1_ok (a := a) (ps := ps) (x := y)) ?_
    rintro r bs' ⟨rfl, rfl⟩
    conv => whnf
    repeat' ((first | refine cY ?_ | refine cN ?_ | refine .not ?_ | refine wI ?_ | refine .map ?_ | refine .nil ?_ | refine .one ?_ | refine .app ?_ | refine .set ?_ | refine .rep ?_ | refine .any ?_ | refine cI ?_ | refine cJ ?_ | refine cYa ?_ | refine cNa ?_ | refine cIa ?_ | refine cJa ?_ | refine cIr ?_ | refine cId ?_ | refine cJd ?_ | with_reducible refine CondN.and ?_ | with_reducible refine CondN.or ?_ | refine CondN.lt (fun hc => ?_) (fun hc => ?_) | refine CondN.le (fun hc => ?_) (fun hc => ?_) | refine CondN.dec (fun hc => ?_) (fun hc => ?_) | refine CondN.any (fun hc => ?_) (fun hc => ?_) | refine nS ?_ | refine iA ?_ | refine iB ?_ | refine iC fun x hx => ?_ | refine iD fun x hx => ?_ | refine iE ?_ | refine iF ?_ | refine iG ?_ | refine iH fun x hx => ?_ | refine iI fun x hx => ?_ | refine iJ ?_ | refine hB ?_ | refine aP ?_ | refine .last ?_ | refine .last2 ?_ | refine zN fun k hk => ?_ | refine aR fun k hk => ?_ | refine mA ?_ | refine mS (fun hc => ?_) (fun hc => ?_)) <;> conv => whnf)
    · refine RetP.slot ⟨?_, rfl⟩
      rw [findI_at hij hy hc]; rfl
    · refine ⟨no_succ hij hy hc, ?_⟩
      refine EndN.at_ ?_ rfl
      conv => whnf
      refine And.intro ?_ ?_ <;> conv => whnf
      all_goals repeat' ((first | refine vE ?_ | refine vI ?_ | refine vB ?_ | refine vC ?_ | refine vN ?_ | refine xB ?_ | exact True.intro | ((first | refine WkN.sl ?_ ?_ | refine vD ?_ ?_ | refine WkN.norm ?_ ?_ | refine BxN.mk ?_ ?_); (focus (simp [AV.norm, AV.norm1, ]; done)))) <;> conv => whnf)
  · conv => whnf
    repeat' ((first | refine cY ?_ | refine cN ?_ | refine .not ?_ | refine wI ?_ | refine .map ?_ | refine .nil ?_ | refine .one ?_ | refine .app ?_ | refine .set ?_ | refine .rep ?_ | refine .any ?_ | refine cI ?_ | refine cJ ?_ | refine cYa ?_ | refine cNa ?_ | refine cIa ?_ | refine cJa ?_ | refine cIr ?_ | refine cId ?_ | refine cJd ?_ | with_reducible refine CondN.and ?_ | with_reducible refine CondN.or ?_ | refine CondN.lt (fun hc => ?_) (fun hc => ?_) | refine CondN.le (fun hc => ?_) (fun hc => ?_) | refine CondN.dec (fun hc => ?_) (fun hc => ?_) | refine CondN.any (fun hc => ?_) (fun hc => ?_) | refine nS ?_ | refine iA ?_ | refine iB ?_ | refine iC fun x hx => ?_ | refine iD fun x hx => ?_ | refine iE ?_ | refine iF ?_ | refine iG ?_ | refine iH fun x hx => ?_ | refine iI fun x hx => ?_ | refine iJ ?_ | refine hB ?_ | refine aP ?_ | refine .last ?_ | refine .last2 ?_ | refine zN fun k hk => ?_ | refine aR fun k hk => ?_ | refine mA ?_ | refine mS (fun hc => ?_) (fun hc => ?_)) <;> conv => whnf)
    refine RetP.slot ⟨?_, rfl⟩
    rw [findI_no hij]; rfl
set_option maxRecDepth 100000 in
theorem lkFind_ok {l : List Ac} {a : At} {ps : List Int} : Fun Try.prog 67 [slA Ac.av l, a.av, slA intA ps] (.int .i64 (findI (isAc (acOf a ps)) l)) := by
  refine Fun.of (op_lookup_find (by simp) ?_) rfl rfl
  conv => whnf
  conv => whnf
  repeat' ((first | refine cY ?_ | refine cN ?_ | refine .not ?_ | refine wI ?_ | refine .map ?_ | refine .nil ?_ | refine .one ?_ | refine .app ?_ | refine .set ?_ | refine .rep ?_ | refine .any ?_ | refine cI ?_ | refine cJ ?_ | refine cYa ?_ | refine cNa ?_ | refine cIa ?_ | refine cJa ?_ | refine cIr ?_ | refine cId ?_ | refine cJd ?_ | with_reducible refine CondN.and ?_ | with_reducible refine CondN.or ?_ | refine CondN.lt (fun hc => ?_) (fun hc => ?_) | refine CondN.le (fun hc => ?_) (fun hc => ?_) | refine CondN.dec (fun hc => ?_) (fun hc => ?_) | refine CondN.any (fun hc => ?_) (fun hc => ?_) | refine nS ?_ | refine iA ?_ | refine iB ?_ | refine iC fun x hx => ?_ | refine iD fun x hx => ?_ | refine iE ?_ | refine iF ?_ | refine iG ?_ | refine iH fun x hx => ?_ | refine iI fun x hx => ?_ | refine iJ ?_ | refine hB ?_ | refine aP ?_ | refine .last ?_ | refine .last2 ?_ | refine zN fun k hk => ?_ | refine aR fun k hk => ?_ | refine mA ?_ | refine mS (fun hc => ?_) (fun hc => ?_)) <;> conv => whnf)
  refine CallN.raw (indexAc_ok (a := a) (ps := ps) (l := l)) ?_
  rintro r bs' ⟨rfl, rfl⟩
  conv => whnf
  repeat' ((first | refine cY ?_ | refine cN ?_ | refine .not ?_ | refine wI ?_ | refine .map ?_ | refine .nil ?_ | refine .one ?_ | refine .app ?_ | refine .set ?_ | refine .rep ?_ | refine .any ?_ | refine cI ?_ | refine cJ ?_ | refine cYa ?_ | refine cNa ?_ | refine cIa ?_ | refine cJa ?_ | refine cIr ?_ | refine cId ?_ | refine cJd ?_ | with_reducible refine CondN.and ?_ | with_reducible refine CondN.or ?_ | refine CondN.lt (fun hc => ?_) (fun hc => ?_) | refine CondN.le (fun hc => ?_) (fun hc => ?_) | refine CondN.dec (fun hc => ?_) (fun hc => ?_) | refine CondN.any (fun hc => ?_) (fun hc => ?_) | refine nS ?_ | refine iA ?_ | refine iB ?_ | refine iC fun x hx => ?_ | refine iD fun x hx => ?_ | refine iE ?_ | refine iF ?_ | refine iG ?_ | refine iH fun x hx => ?_ | refine iI fun x hx => ?_ | refine iJ ?_ | refine hB ?_ | refine aP ?_ | refine .last ?_ | refine .last2 ?_ | refine zN fun k hk => ?_ | refine aR fun k hk => ?_ | refine mA ?_ | refine mS (fun hc => ?_) (fun hc => ?_)) <;> conv => whnf)
  exact RetP.slot rfl
set_option maxRecDepth 100000 in
theorem acSame_ok {x y : Ac} : Fun Try.prog 68 [x.av, y.av] (.bool (acSame x y)) := by
  refine Fun.of (op_constraintref30_Same (by simp) ?_) rfl rfl
  conv => whnf
  conv => whnf
  repeat' ((first | refine CallN.fn (sameInts_ok (a := x.positions) (b := y.positions)) ?_ | refine CallP.fn (sameInts_ok (a := x.positions) (b := y.positions)) ?_ | refine cY ?_ | refine cN ?_ | refine .not ?_ | refine wI ?_ | refine .map ?_ | refine .nil ?_ | refine .one ?_ | refine .app ?_ | refine .set ?_ | refine .rep ?_ | refine .any ?_ | refine cI ?_ | refine cJ ?_ | refine cYa ?_ | refine cNa ?_ | refine cIa ?_ | refine cJa ?_ | refine cIr ?_ | refine cId ?_ | refine cJd ?_ | with_reducible refine CondN.and ?_ | with_reducible refine CondN.or ?_ | refine CondN.lt (fun hc => ?_) (fun hc => ?_) | refine CondN.le (fun hc => ?_) (fun hc => ?_) | refine CondN.dec (fun hc => ?_) (fun hc => ?_) | refine CondN.any (fun hc => ?_) (fun hc => ?_) | refine nS ?_ | refine iA ?_ | refine iB ?_ | refine iC fun x hx => ?_ | refine iD fun x hx => ?_ | refine iE ?_ | refine iF ?_ | refine iG ?_ | refine iH fun x hx => ?_ | refine iI fun x hx => ?_ | refine iJ ?_ | refine hB ?_ | refine aP ?_ | refine .last ?_ | refine .last2 ?_ | refine zN fun k hk => ?_ | refine aR fun k hk => ?_ | refine mA ?_ | refine mS (fun hc => ?_) (fun hc => ?_) | refine RetP.nrm ?_) <;> conv => whnf)
  all_goals simp [acSame, *]
theorem acSame_refl (x : Ac) : acSame x x = true := by simp [acSame]
set_option maxRecDepth 100000 in
theorem refFindAc_ok {l : List Ac} {y : Ac} : Fun Try.prog 70 [slA Ac.av l, y.av] (.int .i64 (findI (isAc y) l)) := by
  refine Fun.assume rfl fun hg0 => ?_
  have hg := (good_sla (hg0 (slA Ac.av l) (by simp))).1
  refine Fun.of (op_constraintref30_find (by simp) ?_) rfl rfl
  conv => whnf
  conv => whnf
  repeat' ((first | refine cY ?_ | refine cN ?_ | refine .not ?_ | refine wI ?_ | refine .map ?_ | refine .nil ?_ | refine .one ?_ | refine .app ?_ | refine .set ?_ | refine .rep ?_ | refine .any ?_ | refine cI ?_ | refine cJ ?_ | refine cYa ?_ | refine cNa ?_ | refine cIa ?_ | refine cJa ?_ | refine cIr ?_ | refine cId ?_ | refine cJd ?_ | with_reducible refine CondN.and ?_ | with_reducible refine CondN.or ?_ | refine CondN.lt (fun hc => ?_) (fun hc => ?_) | refine CondN.le (fun hc => ?_) (fun hc => ?_) | refine CondN.dec (fun hc => ?_) (fun hc => ?_) | refine CondN.any (fun hc => ?_) (fun hc => ?_) | refine nS ?_ | refine iA ?_ | refine iB ?_ | refine iC fun x hx => ?_ | refine iD fun x hx => ?_ | refine iE ?_ | refine iF ?_ | refine iG ?_ | refine iH fun x hx => ?_ | refine iI fun x hx => ?_ | refine iJ ?_ | refine hB ?_ | refine aP ?_ | refine .last ?_ | refine .last2 ?_ | refine zN fun k hk => ?_ | refine aR fun k hk => ?_ | refine mA ?_ | refine mS (fun hc => ?_) (fun hc => ?_) | refine RetP.nrm ?_) <;> conv => whnf)
  refine LoopP.count (fb := true) (l.length) (fun st_ j => st_.sets [(5, .int .i64 j)]) (fun j => ∀ i x, i < j → l[i]? = some x → isAc y x = false) ?_ ?_ (fun j hj hij => ?_) (fun hij => ?_)
  · exact no_zero
  · refine EndN.at_ ?_ rfl
    conv => whnf
    refine And.intro ?_ ?_ <;> conv => whnf
    all_goals repeat' ((first | refine vE ?_ | refine vI ?_ | refine vB ?_ | refine vC ?_ | refine vN ?_ | refine xB ?_ | exact True.intro | ((first | refine WkN.sl ?_ ?_ | refine vD ?_ ?_ | refine WkN.norm ?_ ?_ | refine BxN.mk ?_ ?_); (focus (simp [AV.norm, AV.norm1, ]; done)))) <;> conv => whnf)
  · obtain ⟨z, hz⟩ : ∃ z, l[j]? = some z := ⟨_, List.getElem?_eq_getElem hj⟩
    have hS : Fun Try.prog 68 [z.av, y.av] (.bool (isAc y z)) := acSame_ok
    conv => whnf
    repeat' ((first | refine CallN.fn (hS) ?_ | refine CallP.fn (hS) ?_ | refine cY ?_ | refine cN ?_ | refine .not ?_ | refine wI ?_ | refine .map ?_ | refine .nil ?_ | refine .one ?_ | refine .app ?_ | refine .set ?_ | refine .rep ?_ | refine .any ?_ | refine cI ?_ | refine cJ ?_ | refine cYa ?_ | refine cNa ?_ | refine cIa ?_ | refine cJa ?_ | refine cIr ?_ | refine cId ?_ | refine cJd ?_ | with_reducible refine CondN.and ?_ | with_reducible refine CondN.or ?_ | refine CondN.lt (fun hc => ?_) (fun hc => ?_) | refine CondN.le (fun hc => ?_) (fun hc => ?_) | refine CondN.dec (fun hc => ?_) (fun hc => ?_) | refine CondN.any (fun hc => ?_) (fun hc => ?_) | refine nS ?_ | refine iA ?_ | refine iB ?_ | refine iC fun x hx => ?_ | refine iD fun x hx => ?_ | refine iE ?_ | refine iF ?_ | refine iG ?_ | refine iH fun x hx => ?_ | refine iI fun x hx => ?_ | refine iJ ?_ | refine hB ?_ | refine aP ?_ | refine .last ?_ | refine .last2 ?_ | refine zN fun k hk => ?_ | refine aR fun k hk => ?_ | refine mA ?_ | refine mS (fun hc => ?_) (fun hc => ?_) | refine RetP.nrm ?_) <;> conv => whnf)
    · rw [findI_at hij hz hc]
    · refine ⟨no_succ hij hz hc, ?_⟩
      refine EndN.at_ ?_ rfl
      conv => whnf
      refine And.intro ?_ ?_ <;> conv => whnf
      all_goals repeat' ((first | refine vE ?_ | refine vI ?_ | refine vB ?_ | refine vC ?_ | refine vN ?_ | refine xB ?_ | exact True.intro | ((first | refine WkN.sl ?_ ?_ | refine vD ?_ ?_ | refine WkN.norm ?_ ?_ | refine BxN.mk ?_ ?_); (focus (simp [AV.norm, AV.norm1, ]; done)))) <;> conv => whnf)
  · conv => whnf
    repeat' ((first | refine cY ?_ | refine cN ?_ | refine .not ?_ | refine wI ?_ | refine .map ?_ | refine .nil ?_ | refine .one ?_ | refine .app ?_ | refine .set ?_ | refine .rep ?_ | refine .any ?_ | refine cI ?_ | refine cJ ?_ | refine cYa ?_ | refine cNa ?_ | refine cIa ?_ | refine cJa ?_ | refine cIr ?_ | refine cId ?_ | refine cJd ?_ | with_reducible refine CondN.and ?_ | with_reducible refine CondN.or ?_ | refine CondN.lt (fun hc => ?_) (fun hc => ?_) | refine CondN.le (fun hc => ?_) (fun hc => ?_) | refine CondN.dec (fun hc => ?_) (fun hc => ?_) | refine CondN.any (fun hc => ?_) (fun hc => ?_) | refine nS ?_ | refine iA ?_ | refine iB ?_ | refine iC fun x hx => ?_ | refine iD fun x hx => ?_ | refine iE ?_ | refine iF ?_ | refine iG ?_ | refine iH fun x hx => ?_ | refine iI fun x hx => ?_ | refine iJ ?_ | refine hB ?_ | refine aP ?_ | refine .last ?_ | refine .last2 ?_ | refine zN fun k hk => ?_ | refine aR fun k hk => ?_ | refine mA ?_ | refine mS (fun hc => ?_) (fun hc => ?_) | refine RetP.nrm ?_) <;> conv => whnf)
    rw [findI_no hij]
def sameAllB : List Ac → List Ac → Bool
  | [], [] => true
  | x :: a, y :: b => acSame x y && sameAllB a b
  | _, _ => false
set_option maxRecDepth 100000 in
theorem sameAll_ok {a : List Ac} (hl : a.length ≤ 100000) : Fun Try.prog 20 [slA Ac.av a, slA Ac.av a] (.bool true) := by
  refine Fun.of (op_constraintref30_SameAll (by simp) ?_) rfl rfl
  conv => whnf
  conv => whnf
  repeat' ((first | refine cY ?_ | refine cN ?_ | refine .not ?_ | refine wI ?_ | refine .map ?_ | refine .nil ?_ | refine .one ?_ | refine .app ?_ | refine .set ?_ | refine .rep ?_ | refine .any ?_ | refine cI ?_ | refine cJ ?_ | refine cYa ?_ | refine cNa ?_ | refine cIa ?_ | refine cJa ?_ | refine cIr ?_ | refine cId ?_ | refine cJd ?_ | with_reducible refine CondN.and ?_ | with_reducible refine CondN.or ?_ | refine CondN.lt (fun hc => ?_) (fun hc => ?_) | refine CondN.le (fun hc => ?_) (fun hc => ?_) | refine CondN.dec (fun hc => ?_) (fun hc => ?_) | refine CondN.any (fun hc => ?_) (fun hc => ?_) | refine nS ?_ | refine iA ?_ | refine iB ?_ | refine iC fun x hx => ?_ | refine iD fun x hx => ?_ | refine iE ?_ | refine iF ?_ | refine iG ?_ | refine iH fun x hx => ?_ | refine iI fun x hx => ?_ | refine iJ ?_ | refine hB ?_ | refine aP ?_ | refine .last ?_ | refine .last2 ?_ | refine zN fun k hk => ?_ | refine aR fun k hk => ?_ | refine mA ?_ | refine mS (fun hc => ?_) (fun hc => ?_) | refine RetP.nrm ?_) <;> conv => whnf)
  refine LoopP.count (fb := true) (a.length) (fun st_ j => st_.sets [(5, .int .i64 j)]) (fun j => True) ?_ ?_ (fun j hj hij => ?_) (fun hij => ?_)
  · trivial
  · refine EndN.at_ ?_ rfl
    conv => whnf
    refine And.intro ?_ ?_ <;> conv => whnf
    all_goals repeat' ((first | refine vE ?_ | refine vI ?_ | refine vB ?_ | refine vC ?_ | refine vN ?_ | refine xB ?_ | exact True.intro | ((first | refine WkN.sl ?_ ?_ | refine vD ?_ ?_ | refine WkN.norm ?_ ?_ | refine BxN.mk ?_ ?_); (focus (simp [AV.norm, AV.norm1, ]; done)))) <;> conv => whnf)
  · obtain ⟨x, hx⟩ : ∃ x, a[j]? = some x := ⟨_, List.getElem?_eq_getElem hj⟩
    have hS : Fun Try.prog 68 [x.av, x.av] (.bool true) := by
      have := acSame_ok (x := x) (y := x)
      rwa [acSame_refl] at this
    conv => whnf
    repeat' ((first | refine CallN.fn (hS) ?_ | refine CallP.fn (hS) ?_ | refine cY ?_ | refine cN ?_ | refine .not ?_ | refine wI ?_ | refine .map ?_ | refine .nil ?_ | refine .one ?_ | refine .app ?_ | refine .set ?_ | refine .rep ?_ | refine .any ?_ | refine cI ?_ | refine cJ ?_ | refine cYa ?_ | refine cNa ?_ | refine cIa ?_ | refine cJa ?_ | refine cIr ?_ | refine cId ?_ | refine cJd ?_ | with_reducible refine CondN.and ?_ | with_reducible refine CondN.or ?_ | refine CondN.lt (fun hc => ?_) (fun hc => ?_) | refine CondN.le (fun hc => ?_) (fun hc => ?_) | refine CondN.dec (fun hc => ?_) (fun hc => ?_) | refine CondN.any (fun hc => ?_) (fun hc => ?_) | refine nS ?_ | refine iA ?_ | refine iB ?_ | refine iC fun x hx => ?_ | refine iD fun x hx => ?_ | refine iE ?_ | refine iF ?_ | refine iG ?_ | refine iH fun x hx => ?_ | refine iI fun x hx => ?_ | refine iJ ?_ | refine hB ?_ | refine aP ?_ | refine .last ?_ | refine .last2 ?_ | refine zN fun k hk => ?_ | refine aR fun k hk => ?_ | refine mA ?_ | refine mS (fun hc => ?_) (fun hc => ?_) | refine RetP.nrm ?_) <;> conv => whnf)
    refine ⟨trivial, ?_⟩
    refine EndN.at_ ?_ rfl
    conv => whnf
    refine And.intro ?_ ?_ <;> conv => whnf
    all_goals repeat' ((first | refine vE ?_ | refine vI ?_ | refine vB ?_ | refine vC ?_ | refine vN ?_ | refine xB ?_ | exact True.intro | ((first | refine WkN.sl ?_ ?_ | refine vD ?_ ?_ | refine WkN.norm ?_ ?_ | refine BxN.mk ?_ ?_); (focus (simp [AV.norm, AV.norm1, ]; done)))) <;> conv => whnf)
  · conv => whnf
    repeat' ((first | refine cY ?_ | refine cN ?_ | refine .not ?_ | refine wI ?_ | refine .map ?_ | refine .nil ?_ | refine .one ?_ | refine .app ?_ | refine .set ?_ | refine .rep ?_ | refine .any ?_ | refine cI ?_ | refine cJ ?_ | refine cYa ?_ | refine cNa ?_ | refine cIa ?_ | refine cJa ?_ | refine cIr ?_ | refine cId ?_ | refine cJd ?_ | with_reducible refine CondN.and ?_ | with_reducible refine CondN.or ?_ | refine CondN.lt (fun hc => ?_) (fun hc => ?_) | refine CondN.le (fun hc => ?_) (fun hc => ?_) | refine CondN.dec (fun hc => ?_) (fun hc => ?_) | refine CondN.any (fun hc => ?_) (fun hc => ?_) | refine nS ?_ | refine iA ?_ | refine iB ?_ | refine iC fun x hx => ?_ | refine iD fun x hx => ?_ | refine iE ?_ | refine iF ?_ | refine iG ?_ | refine iH fun x hx => ?_ | refine iI fun x hx => ?_ | refine iJ ?_ | refine hB ?_ | refine aP ?_ | refine .last ?_ | refine .last2 ?_ | refine zN fun k hk => ?_ | refine aR fun k hk => ?_ | refine mA ?_ | refine mS (fun hc => ?_) (fun hc => ?_) | refine RetP.nrm ?_) <;> conv => whnf)
/-! ### all accesses -/
def acStep (p : Pg) (x : Pl) (out : List Ac) (k : Int) : List Ac := match headI p x k with
  | some y => if findI (isAc (acOf y.1 y.2)) out < 0 then out ++ [acOf y.1 y.2] else out
  | none => out
def allK (p : Pg) (x : Pl) (out : List Ac) : Nat → List Ac
  | 0 => out
  | k + 1 => acStep p x (allK p x out k) k
def allJ (p : Pg) (plans : List Pl) : Nat → List Ac
  | 0 => []
  | j + 1 => match plans[j]? with
    | some x => allK p x (allJ p plans j) x.order.length
    | none => allJ p plans j
theorem acStep_len (p : Pg) (x : Pl) (out : List Ac) (k : Int) : (acStep p x out k).length ≤ out.length + 1 := by
  unfold acStep
  split
  · split <;> simp
  · omega
theorem allK_len (p : Pg) (x : Pl) (out : List Ac) : ∀ k, (allK p x out k).length ≤ out.length + k
  | 0 => Nat.le_refl _
  | k + 1 => by
    have h1 := allK_len p x out k
    have h2 := acStep_len p x (allK p x out k) k
    rw [allK]; omega
theorem allJ_len {p : Pg} {plans : List Pl} (h : ∀ x ∈ plans, x.order.length ≤ 8) : ∀ j, (allJ p plans j).length ≤ 8 * j
  | 0 => Nat.le_refl _
  | j + 1 => by
    have h1 := allJ_len (p := p) h j
    rw [allJ]
    split
    · rename_i x hx
      have h2 := allK_len p x (allJ p plans j) x.order.length
      have h3 := h x (List.mem_of_getElem? hx)
      omega
    · omega
def allAc (p : Pg) (plans : List Pl) : List Ac := allJ p plans plans.length
end Go.CK
