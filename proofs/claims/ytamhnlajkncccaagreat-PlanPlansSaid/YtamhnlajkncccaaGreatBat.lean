/-
  Texts of this claim joined (wip/gen/bundle.py), those declarations only that are needed: PlB PlC PlD PlE. By an AI agent.
-/
import Derived.Test.YtamhnlajkncccaaGreatBas
set_option linter.unusedSimpArgs false
set_option linter.unusedVariables false
namespace Go.CK
open Go.AM Go.Proofs
open Go.AM Go.Proofs
def Rl.heads (x : Rl) : List At := x.keep ++ x.remove
theorem Rl.heads_len (x : Rl) : x.heads.length = x.keep.length + x.remove.length := by simp [Rl.heads]
set_option maxRecDepth 100000 in
theorem count_ok {x : Rl} (h : x.keep.length + x.remove.length ≤ 100000) : Fun Tryz.prog 65 [x.av] (.int .i64 (x.keep.length + x.remove.length)) := by
  refine Fun.of (op_occur_count (by simp) ?_) rfl rfl
  conv => whnf
  conv => whnf
  repeat' ((first | (refine gW ?_; refine wI ?_) | (refine gL ?_; refine .map ?_) | refine RetP.nrm ?_) <;> conv => whnf)
set_option maxRecDepth 100000 in
theorem heads_ok {x : Rl} (h : x.keep.length + x.remove.length ≤ 100000) : Fun Tryz.prog 46 [x.av] (slA At.av x.heads) := by
  refine Fun.of (op_occur_Heads (by simp) ?_) rfl rfl
  conv => whnf
  conv => whnf
  repeat' ((first | (refine gF ?_; refine CallN.fn (count_ok h) ?_) | (refine gN ?_; refine nS ?_) | refine RetP.nrm ?_) <;> conv => whnf)
  simp [Rl.heads]
set_option maxRecDepth 100000 in
theorem refHeads_ok {x : Rl} (h : x.keep.length + x.remove.length ≤ 100000) : Fun Tryz.prog 52 [x.av] (slA At.av x.heads) := by
  refine Fun.of (op_constraintref16_Heads (by simp) ?_) rfl rfl
  conv => whnf
  conv => whnf
  repeat' ((first | (refine gN ?_; refine nS ?_) | refine RetP.nrm ?_) <;> conv => whnf)
  simp [Rl.heads]
/-- the variables of the heads that are done -/
def kvs (hs : List At) : List Int → List Int
  | [] => []
  | k :: r => (if 0 ≤ k then match hs[k.toNat]? with
    | some h => firsts (Tm.vss h.args)
    | none => []
    else []) ++ kvs hs r
theorem kvs_app (hs : List At) : ∀ l m, kvs hs (l ++ m) = kvs hs l ++ kvs hs m
  | [], m => rfl
  | k :: l, m => by rw [List.cons_append, kvs, kvs, kvs_app hs l m, List.append_assoc]
theorem kvs_yes {hs : List At} {l : List Int} {j : Nat} {k : Int} {h : At} (hk : l[j]? = some k) (h0 : 0 ≤ k) (hh : hs[k.toNat]? = some h) : kvs hs (l.take (j + 1)) = kvs hs (l.take j) ++ firsts (Tm.vss h.args) := by
  obtain ⟨hj, rfl⟩ := List.getElem?_eq_some_iff.1 hk
  rw [List.take_succ_eq_append_getElem hj, kvs_app]
  simp [kvs, h0, hh]
theorem kvs_no {hs : List At} {l : List Int} {j : Nat} {k : Int} (hk : l[j]? = some k) (h0 : k < 0 ∨ (hs.length : Int) ≤ k) : kvs hs (l.take (j + 1)) = kvs hs (l.take j) := by
  obtain ⟨hj, rfl⟩ := List.getElem?_eq_some_iff.1 hk
  rw [List.take_succ_eq_append_getElem hj, kvs_app]
  rcases h0 with h0 | h0
  · simp [kvs, Int.not_le.2 h0]
  · have : hs[(l[j]).toNat]? = none := List.getElem?_eq_none (by omega)
    simp [kvs, this]
/-- the places of the terms for which p holds -/
def placesP (p : Tm → Bool) (l : List Tm) : Nat → List Int
  | 0 => []
  | j + 1 => placesP p l j ++ match l[j]? with
    | some t => if p t then [(j : Int)] else []
    | none => []
theorem placesP_yes {p : Tm → Bool} {l : List Tm} {j : Nat} {t : Tm} (h : l[j]? = some t) (hp : p t = true) : placesP p l (j + 1) = placesP p l j ++ [(j : Int)] := by simp [placesP, h, hp]
theorem placesP_no {p : Tm → Bool} {l : List Tm} {j : Nat} {t : Tm} (h : l[j]? = some t) (hp : p t = false) : placesP p l (j + 1) = placesP p l j := by simp [placesP, h, hp]
theorem placesP_len (p : Tm → Bool) (l : List Tm) : ∀ j, (placesP p l j).length ≤ j
  | 0 => Nat.le_refl _
  | j + 1 => by
    have := placesP_len p l j
    rw [placesP, List.length_append]
    split
    · split <;> simp <;> omega
    · simp; omega
def allIn (known : List Int) (t : Tm) : Bool := (firsts t.vs).all fun v => decide (v ∈ known)
def knownI (r : Rl) (done : List Int) (head : Int) : List Int :=
  if head < 0 then [] else match r.heads[head.toNat]? with
    | some h => placesP (allIn (kvs r.heads done)) h.args h.args.length
    | none => []
/-- what the bounds of the statements give -/
def Rl.ok (r : Rl) : Prop := r.keep.length + r.remove.length ≤ 1000 ∧ ∀ h ∈ r.heads, h.args.length ≤ 100000 ∧ (Tm.vss h.args).length ≤ 100000 ∧ ∀ t ∈ h.args, t.vs.length ≤ 100000
open Go.AM Go.Proofs
/-- the arguments of the heads that are done -/
def argsOf (hs : List At) : List Int → List Tm
  | [] => []
  | k :: r => (if 0 ≤ k then match hs[k.toNat]? with
    | some h => h.args
    | none => []
    else []) ++ argsOf hs r
theorem argsOf_app (hs : List At) : ∀ l m, argsOf hs (l ++ m) = argsOf hs l ++ argsOf hs m
  | [], m => rfl
  | k :: l, m => by rw [List.cons_append, argsOf, argsOf, argsOf_app hs l m, List.append_assoc]
theorem argsOf_yes {hs : List At} {l : List Int} {j : Nat} {k : Int} {h : At} (hk : l[j]? = some k) (h0 : 0 ≤ k) (hh : hs[k.toNat]? = some h) : argsOf hs (l.take (j + 1)) = argsOf hs (l.take j) ++ h.args := by
  obtain ⟨hj, rfl⟩ := List.getElem?_eq_some_iff.1 hk
  rw [List.take_succ_eq_append_getElem hj, argsOf_app]
  simp [argsOf, h0, hh]
theorem argsOf_no {hs : List At} {l : List Int} {j : Nat} {k : Int} (hk : l[j]? = some k) (h0 : k < 0 ∨ (hs.length : Int) ≤ k) : argsOf hs (l.take (j + 1)) = argsOf hs (l.take j) := by
  obtain ⟨hj, rfl⟩ := List.getElem?_eq_some_iff.1 hk
  rw [List.take_succ_eq_append_getElem hj, argsOf_app]
  rcases h0 with h0 | h0
  · simp [argsOf, Int.not_le.2 h0]
  · have : hs[(l[j]).toNat]? = none := List.getElem?_eq_none (by omega)
    simp [argsOf, this]
theorem argsOf_kvs (hs : List At) : ∀ (l : List Int) (x : Int), x ∈ firsts (Tm.vss (argsOf hs l)) ↔ x ∈ kvs hs l
  | [], x => by simp [argsOf, kvs, firsts, addVs, Tm.vss]
  | k :: r, x => by
    have ih := argsOf_kvs hs r x
    unfold firsts at ih
    rw [addVs_mem] at ih
    unfold firsts
    rw [argsOf, kvs, Tm.vss_app, addVs_mem, List.mem_append, List.mem_append, ← ih]
    simp only [List.not_mem_nil, false_or]
    refine or_congr ?_ Iff.rfl
    by_cases h0 : 0 ≤ k
    · rw [if_pos h0, if_pos h0]
      cases hs[k.toNat]? with
      | some h =>
        simp only
        unfold firsts; rw [addVs_mem]; simp
      | none => simp [Tm.vss]
    · rw [if_neg h0, if_neg h0]; simp [Tm.vss]
theorem argsOf_len {hs : List At} (hh : ∀ h ∈ hs, h.args.length ≤ 200 ∧ (Tm.vss h.args).length ≤ 200) : ∀ l : List Int, (argsOf hs l).length ≤ 200 * l.length ∧ (Tm.vss (argsOf hs l)).length ≤ 200 * l.length
  | [] => by simp [argsOf, Tm.vss]
  | k :: r => by
    have ih := argsOf_len hh r
    rw [argsOf, Tm.vss_app, List.length_append, List.length_append, List.length_cons]
    split
    · split
      · rename_i h hk
        have := hh h (List.mem_of_getElem? hk)
        omega
      · simp only [List.length_nil, Tm.vss]; omega
    · simp only [List.length_nil, Tm.vss]; omega
/-- narrower bounds -/
def Rl.ok2 (r : Rl) : Prop := r.keep.length + r.remove.length ≤ 8 ∧ ∀ h ∈ r.heads, h.args.length ≤ 200 ∧ (Tm.vss h.args).length ≤ 200 ∧ ∀ t ∈ h.args, t.vs.length ≤ 200
theorem Rl.ok2.ok {r : Rl} (h : r.ok2) : r.ok := ⟨by have := h.1; omega, fun g hg => by
  obtain ⟨h1, h2, h3⟩ := h.2 g hg
  exact ⟨by omega, by omega, fun t ht => by have := h3 t ht; omega⟩⟩
open Go.AM Go.Proofs
def greatP : List (List Tm × ByteArray) → Int → Bool
  | [], most => decide (most < 0)
  | a :: l, most => if most < 0 then true else greatP l (weighI a.1 (most - 1 - (a.2.size : Int).tdiv 8) 64)
theorem greatP_neg (l : List (List Tm × ByteArray)) {most : Int} (h : most < 0) : greatP l most = true := by
  cases l with
  | nil => simpa [greatP] using h
  | cons a l => rw [greatP, if_pos h]
theorem greatP_step {l : List (List Tm × ByteArray)} {j : Nat} {x : List Tm × ByteArray} (hx : l[j]? = some x) {most : Int} (h : 0 ≤ most) : greatP (l.drop j) most = greatP (l.drop (j + 1)) (weighI x.1 (most - 1 - (x.2.size : Int).tdiv 8) 64) := by
  obtain ⟨h1, rfl⟩ := List.getElem?_eq_some_iff.1 hx
  rw [List.drop_eq_getElem_cons h1, greatP, if_neg (by omega)]
def at2 (a : At) : List Tm × ByteArray := (a.args, a.name)
def gl2 (a : Gl) : List Tm × ByteArray := (a.args, a.name)
set_option maxRecDepth 100000 in
theorem greatAtoms_ok {l : List At} {most : Int} (b1 : -1 ≤ most) (b2 : most ≤ 100000) : Fun Tryz.prog 30 [slA At.av l, .int .i64 most] (.bool (greatP (l.map at2) most)) := by
  refine Fun.assume rfl fun hg0 => ?_
  have hgs := good_sla (hg0 (slA At.av l) (by simp))
  have hg := hgs.1
  have hml : (l.map at2).length = l.length := by simp
  refine Fun.of (op_constraintref03_GreatAtoms (by simp) ?_) rfl rfl
  conv => whnf
  conv => whnf
  skip
  refine LoopP.by (fb := true) (fun s (q : Nat × Int) => s.sets [(1, .int .i64 q.2), (5, .int .i64 q.1)]) (fun q => q.1 ≤ l.length ∧ (-1 ≤ q.2 ∧ q.2 ≤ 100000) ∧ greatP ((l.map at2).drop q.1) q.2 = greatP (l.map at2) most) (fun q => l.length - q.1) (0, most) ⟨Nat.zero_le _, by simp only; omega, rfl⟩ ?_ ?_
  · refine EndN.at_ ?_ rfl
    conv => whnf
    refine And.intro ?_ ?_ <;> conv => whnf
    all_goals repeat' ((first | (refine gV ?_; first | refine vE ?_ | refine vI ?_) | exact True.intro) <;> conv => whnf)
  · rintro ⟨j, r⟩ ⟨hj, hr, he⟩
    dsimp only at hj hr he ⊢
    by_cases hlt : j < l.length
    · obtain ⟨x, hx⟩ : ∃ x, l[j]? = some x := ⟨_, List.getElem?_eq_getElem hlt⟩
      have hx2 : (l.map at2)[j]? = some (at2 x) := by rw [List.getElem?_map, hx]; rfl
      have hxs := (At.good (hgs.2 x (List.mem_of_getElem? hx))).1
      by_cases hr0 : 0 ≤ r
      · rw [greatP_step hx2 hr0, show (at2 x).1 = x.args from rfl, show (at2 x).2 = x.name from rfl] at he
        have hw := weigh_le (.mk 0 0 .empty x.args) (r - 1 - (x.name.size : Int).tdiv 8) 64
        rw [show (Tm.mk 0 0 .empty x.args).args = x.args from rfl] at hw
        have h8 := tdiv8 x.name.size
        conv => whnf
        repeat' ((first | (refine gG ?_; refine CallP.fn (weigh_ok (by omega) (by omega) (by omega) (by omega)) ?_) | (refine gC ?_; (refine gD ?_; refine cI ?_)) | (refine gW ?_; refine wI ?_) | (refine gL ?_; refine .map ?_) | (refine gN ?_; refine nS ?_) | (refine gI ?_; (refine gM ?_; refine iE ?_))) <;> conv => whnf)
        refine ⟨(j + 1, weighI x.args (r - 1 - (x.name.size : Int).tdiv 8) 64), ⟨⟨hlt, ?_, he⟩, by simp only; omega⟩, ?_⟩
        · simp only; omega
        · refine EndN.at_ ?_ rfl
          conv => whnf
          refine And.intro ?_ ?_ <;> conv => whnf
          all_goals repeat' ((first | (refine gV ?_; first | refine vE ?_ | refine vI ?_) | exact True.intro) <;> conv => whnf)
      · rw [greatP_neg _ (by omega)] at he
        conv => whnf
        repeat' ((first | (refine gC ?_; (refine gD ?_; first | refine cI ?_ | refine cJ ?_)) | (refine gL ?_; refine .map ?_) | refine RetP.nrm ?_) <;> conv => whnf)
        rw [← he]; simp; omega
    · have hje : j = l.length := by omega
      subst hje
      rw [← hml, List.drop_length, greatP] at he
      conv => whnf
      repeat' ((first | (refine gC ?_; first | refine cN ?_ | (refine gD ?_; refine cJ ?_)) | (refine gL ?_; refine .map ?_) | refine RetP.nrm ?_) <;> conv => whnf)
      rw [← he]
set_option maxRecDepth 100000 in
theorem greatGoals_ok {l : List Gl} {most : Int} (b1 : -1 ≤ most) (b2 : most ≤ 100000) : Fun Tryz.prog 31 [slA Gl.av l, .int .i64 most] (.bool (greatP (l.map gl2) most)) := by
  refine Fun.assume rfl fun hg0 => ?_
  have hgs := good_sla (hg0 (slA Gl.av l) (by simp))
  have hg := hgs.1
  have hml : (l.map gl2).length = l.length := by simp
  refine Fun.of (op_constraintref03_GreatGoals (by simp) ?_) rfl rfl
  conv => whnf
  conv => whnf
  skip
  refine LoopP.by (fb := true) (fun s (q : Nat × Int) => s.sets [(1, .int .i64 q.2), (5, .int .i64 q.1)]) (fun q => q.1 ≤ l.length ∧ (-1 ≤ q.2 ∧ q.2 ≤ 100000) ∧ greatP ((l.map gl2).drop q.1) q.2 = greatP (l.map gl2) most) (fun q => l.length - q.1) (0, most) ⟨Nat.zero_le _, by simp only; omega, rfl⟩ ?_ ?_
  · refine EndN.at_ ?_ rfl
    conv => whnf
    refine And.intro ?_ ?_ <;> conv => whnf
    all_goals repeat' ((first | (refine gV ?_; first | refine vE ?_ | refine vI ?_) | exact True.intro) <;> conv => whnf)
  · rintro ⟨j, r⟩ ⟨hj, hr, he⟩
    dsimp only at hj hr he ⊢
    by_cases hlt : j < l.length
    · obtain ⟨x, hx⟩ : ∃ x, l[j]? = some x := ⟨_, List.getElem?_eq_getElem hlt⟩
      have hx2 : (l.map gl2)[j]? = some (gl2 x) := by rw [List.getElem?_map, hx]; rfl
      have hxs := (Gl.good (hgs.2 x (List.mem_of_getElem? hx))).1
      by_cases hr0 : 0 ≤ r
      · rw [greatP_step hx2 hr0, show (gl2 x).1 = x.args from rfl, show (gl2 x).2 = x.name from rfl] at he
        have hw := weigh_le (.mk 0 0 .empty x.args) (r - 1 - (x.name.size : Int).tdiv 8) 64
        rw [show (Tm.mk 0 0 .empty x.args).args = x.args from rfl] at hw
        have h8 := tdiv8 x.name.size
        conv => whnf
        repeat' ((first | (refine gG ?_; refine CallP.fn (weigh_ok (by omega) (by omega) (by omega) (by omega)) ?_) | (refine gC ?_; (refine gD ?_; refine cI ?_)) | (refine gW ?_; refine wI ?_) | (refine gL ?_; refine .map ?_) | (refine gN ?_; refine nS ?_) | (refine gI ?_; (refine gM ?_; refine iE ?_))) <;> conv => whnf)
        refine ⟨(j + 1, weighI x.args (r - 1 - (x.name.size : Int).tdiv 8) 64), ⟨⟨hlt, ?_, he⟩, by simp only; omega⟩, ?_⟩
        · simp only; omega
        · refine EndN.at_ ?_ rfl
          conv => whnf
          refine And.intro ?_ ?_ <;> conv => whnf
          all_goals repeat' ((first | (refine gV ?_; first | refine vE ?_ | refine vI ?_) | exact True.intro) <;> conv => whnf)
      · rw [greatP_neg _ (by omega)] at he
        conv => whnf
        repeat' ((first | (refine gC ?_; (refine gD ?_; first | refine cI ?_ | refine cJ ?_)) | (refine gL ?_; refine .map ?_) | refine RetP.nrm ?_) <;> conv => whnf)
        rw [← he]; simp; omega
    · have hje : j = l.length := by omega
      subst hje
      rw [← hml, List.drop_length, greatP] at he
      conv => whnf
      repeat' ((first | (refine gC ?_; first | refine cN ?_ | (refine gD ?_; refine cJ ?_)) | (refine gL ?_; refine .map ?_) | refine RetP.nrm ?_) <;> conv => whnf)
      rw [← he]
def gr1 (n : Nat) (most : Int) (r : Rl) : Bool := decide (most < n) || (decide (most < (r.name.size : Int).tdiv 8 + r.keep.length + r.remove.length) || (greatP (r.keep.map at2) most || (greatP (r.remove.map at2) most || (greatP (r.guard.map gl2) most || greatP (r.body.map gl2) most))))
set_option maxRecDepth 100000 in
theorem greatRules_ok {l : List Rl} {most : Int} (b1 : 0 ≤ most) (b2 : most ≤ 100000) : Fun Tryz.prog 11 [slA Rl.av l, .int .i64 most] (.bool (l.any (gr1 l.length most))) := by
  refine Fun.assume rfl fun hg0 => ?_
  have hgs := good_sla (hg0 (slA Rl.av l) (by simp))
  have hg := hgs.1
  refine Fun.of (op_constraintref03_GreatRules (by simp) ?_) rfl rfl
  conv => whnf
  conv => whnf
  skip
  refine LoopP.count (fb := true) (l.length) (fun st_ j => st_.sets [(5, .int .i64 j)]) (fun j => ∀ i x, i < j → l[i]? = some x → gr1 l.length most x = false) ?_ ?_ (fun j hj hij => ?_) (fun hij => ?_)
  · exact no_zero
  · refine EndN.at_ ?_ rfl
    conv => whnf
    refine And.intro ?_ ?_ <;> conv => whnf
    all_goals repeat' ((first | (refine gV ?_; first | refine vE ?_ | refine vI ?_) | exact True.intro) <;> conv => whnf)
  · obtain ⟨y, hy⟩ : ∃ y, l[j]? = some y := ⟨_, List.getElem?_eq_getElem hj⟩
    have hyg := Rl.good (hgs.2 y (List.mem_of_getElem? hy))
    have h8 := tdiv8 y.name.size
    conv => whnf
    repeat' ((first | (refine gF ?_; first | refine CallN.fn (greatAtoms_ok (l := y.keep) (most := most) (by omega) b2) ?_ | refine CallN.fn (greatAtoms_ok (l := y.remove) (most := most) (by omega) b2) ?_ | refine CallN.fn (greatGoals_ok (l := y.guard) (most := most) (by omega) b2) ?_ | refine CallN.fn (greatGoals_ok (l := y.body) (most := most) (by omega) b2) ?_) | (refine gC ?_; first | refine cY ?_ | (refine gD ?_; first | refine cI ?_ | refine cJ ?_) | refine cYa ?_ | refine cNa ?_ | refine CondN.lt (fun hc => ?_) (fun hc => ?_) | refine CondN.any (fun hc => ?_) (fun hc => ?_)) | (refine gW ?_; refine wI ?_) | (refine gL ?_; refine .map ?_) | (refine gN ?_; refine nS ?_) | (refine gI ?_; (refine gM ?_; refine iE ?_)) | refine RetP.nrm ?_) <;> conv => whnf)
    all_goals try (rw [any_at hy (by simp only [gr1, Bool.or_eq_true, decide_eq_true_eq]; first | exact .inl hc | exact .inr (.inl hc) | exact .inr (.inr (.inl hc)) | exact .inr (.inr (.inr (.inl hc))) | exact .inr (.inr (.inr (.inr (.inl hc)))) | exact .inr (.inr (.inr (.inr (.inr hc)))))]; done)
    · refine ⟨no_succ hij hy (by simp only [gr1, Bool.or_eq_false_iff, decide_eq_false_iff_not]; refine ⟨by omega, by omega, ?_, ?_, ?_, ?_⟩ <;> assumption), ?_⟩
      refine EndN.atC 0 ?_ rfl rfl rfl rfl (by first | rfl | (repeat' (first | rfl | refine bLtRow (row_allI _ _ _) ?_ | refine bLtRow (row_allB _ _ _) ?_ | refine bLtMp ?_ | refine bLtDead ?_ | refine bLtCells rfl ?_)))
      conv => whnf
      refine And.intro ?_ ?_ <;> conv => whnf
      all_goals repeat' ((first | (refine gV ?_; first | refine vE ?_ | refine vI ?_) | exact True.intro) <;> conv => whnf)
  · conv => whnf
    repeat' ((first | (refine gC ?_; (refine gD ?_; refine cJ ?_)) | (refine gL ?_; refine .map ?_) | refine RetP.nrm ?_) <;> conv => whnf)
    rw [any_no hij]
theorem vs_wgh (t : Tm) : ∀ left deep : Int, 0 ≤ t.wgh left deep → (t.vs.length : Int) ≤ left - t.wgh left deep ∧ 1 ≤ left - t.wgh left deep := by
  induction t using Tm.ind_all with
  | h k m s l ih =>
    have hl : ∀ (r : List Tm), (∀ t ∈ r, t ∈ l) → ∀ left deep : Int, 0 ≤ left → 0 ≤ Tm.wghs r left deep → Tm.wghs r left deep ≤ left ∧ ((Tm.vss r).length : Int) ≤ left - Tm.wghs r left deep := fun r => by
      induction r with
      | nil => intro _ left deep h1 h2; simp only [Tm.wghs, Tm.vss, List.length_nil] at *; omega
      | cons t r ihr =>
        intro hm left deep h1 h2
        rw [Tm.wghs, if_neg (by omega)] at h2 ⊢
        by_cases h3 : 0 ≤ t.wgh left deep
        · have h4 := ih t (hm t (by simp)) left deep h3
          have h5 := ihr (fun x hx => hm x (by simp [hx])) (t.wgh left deep) deep h3 h2
          rw [Tm.vss, List.length_append]
          omega
        · rw [wghs_neg _ (by omega)] at h2; omega
    intro left deep h
    rw [Tm.wgh] at h ⊢
    have h8 := tdiv8 s.size
    split at h
    · omega
    · rename_i hc
      rw [if_neg hc]
      have h2 := hl l (fun t h => h) (left - 1 - (s.size : Int).tdiv 8) (deep - 1) (by omega) h
      rw [Tm.vs]
      split
      · simp only [List.length_singleton]; omega
      · split
        · omega
        · simp only [List.length_nil]; omega
theorem weigh_vs {l : List Tm} {left deep : Int} (h : 0 ≤ weighI l left deep) : (l.length : Int) ≤ left ∧ ((Tm.vss l).length : Int) ≤ left ∧ weighI l left deep ≤ left := by
  by_cases hc : deep = 0 ∨ left < l.length
  · rw [weighI, if_pos hc] at h; omega
  · rw [weighI, if_neg hc] at h ⊢
    have : ∀ (r : List Tm) (left : Int), 0 ≤ left → 0 ≤ Tm.wghs r left deep → Tm.wghs r left deep ≤ left ∧ ((Tm.vss r).length : Int) ≤ left - Tm.wghs r left deep := fun r => by
      induction r with
      | nil => intro left h1 h2; simp only [Tm.wghs, Tm.vss, List.length_nil] at *; omega
      | cons t r ihr =>
        intro left h1 h2
        rw [Tm.wghs, if_neg (by omega)] at h2 ⊢
        by_cases h3 : 0 ≤ t.wgh left deep
        · have h4 := vs_wgh t left deep h3
          have h5 := ihr (t.wgh left deep) h3 h2
          rw [Tm.vss, List.length_append]
          omega
        · rw [wghs_neg _ (by omega)] at h2; omega
    have := this l left (by omega) h
    omega
theorem vss_mem {l : List Tm} {t : Tm} (h : t ∈ l) : t.vs.length ≤ (Tm.vss l).length := by
  obtain ⟨j, hj, rfl⟩ := List.getElem_of_mem h
  rw [Tm.vss_split (List.getElem?_eq_getElem hj)]
  simp only [List.length_append]; omega
theorem greatP_at : ∀ {l : List (List Tm × ByteArray)} {most : Int}, greatP l most = false → ∀ y ∈ l, (y.1.length : Int) ≤ most ∧ ((Tm.vss y.1).length : Int) ≤ most
  | [], _, _, y, hy => by cases hy
  | a :: l, most, h, y, hy => by
    rw [greatP] at h
    split at h
    · cases h
    · have h8 := tdiv8 a.2.size
      have h0 : 0 ≤ weighI a.1 (most - 1 - (a.2.size : Int).tdiv 8) 64 := by
        rcases Int.lt_or_le (weighI a.1 (most - 1 - (a.2.size : Int).tdiv 8) 64) 0 with h1 | h1
        · rw [greatP_neg _ h1] at h; cases h
        · exact h1
      have h2 := weigh_vs h0
      rcases List.mem_cons.1 hy with rfl | hy
      · omega
      · have := greatP_at h y hy
        omega
end Go.CK

set_option linter.unusedSimpArgs false
set_option linter.unusedVariables false
namespace Go.CK
open Go.AM Go.Proofs
/-- a rule with its heads -/
def Rl.wh (r : Rl) : AV := .agg [.str r.name, .sl .no (r.keep.map At.av), .sl .no (r.remove.map At.av), .sl .no (r.guard.map Gl.av), .sl .no (r.body.map Gl.av), .int .i64 r.vars, .sl .no (r.heads.map At.av)]
theorem has_yes {r : Rl} {k : Int} (h : 0 ≤ k ∧ k < r.heads.length) : Fun Tryz.prog 37 [r.wh, .int .i64 k] (.bool true) := by
  refine Fun.of (op_plan_rule_has (by simp) ?_) rfl rfl
  conv => whnf
  conv => whnf
  repeat' ((first | (refine gC ?_; (refine gD ?_; refine cI ?_)) | (refine gL ?_; refine .map ?_) | refine RetP.nrm ?_) <;> conv => whnf)
  rw [decide_eq_true h.2]
theorem has_no {r : Rl} {k : Int} (h : ¬ (0 ≤ k ∧ k < r.heads.length)) : Fun Tryz.prog 37 [r.wh, .int .i64 k] (.bool false) := by
  refine Fun.of (op_plan_rule_has (by simp) ?_) rfl rfl
  conv => whnf
  conv => whnf
  repeat' ((first | (refine gC ?_; first | (refine gD ?_; first | refine cI ?_ | refine cJ ?_) | refine CondN.le (fun hc => ?_) (fun hc => ?_)) | (refine gL ?_; refine .map ?_) | refine RetP.nrm ?_) <;> conv => whnf)
  rw [decide_eq_false (by omega)]
theorem removes_ok {r : Rl} {k : Int} : Fun Tryz.prog 50 [r.wh, .int .i64 k] (.bool (decide ((r.keep.length : Int) ≤ k))) := by
  refine Fun.of (op_plan_rule_removes (by simp) ?_) rfl rfl
  conv => whnf
  conv => whnf
  repeat' ((first | (refine gL ?_; refine .map ?_) | refine RetP.nrm ?_) <;> conv => whnf)
set_option maxRecDepth 100000 in
set_option maxHeartbeats 1000000 in
theorem known_ok {r : Rl} {done : List Int} {head : Int} (hr : r.ok) (hd : done.length ≤ 100000) (hh0 : 0 ≤ head) (hh1 : head < r.heads.length) : Fun Tryz.prog 48 [r.wh, slA intA done, .int .i64 head] (slA intA (knownI r done head)) := by
  have hhl : r.heads.length ≤ 1000 := by rw [Rl.heads_len]; exact hr.1
  obtain ⟨h, hh⟩ : ∃ h, r.heads[head.toNat]? = some h := ⟨_, List.getElem?_eq_getElem (by omega)⟩
  have hho := hr.2 h (List.mem_of_getElem? hh)
  rw [knownI, if_neg (by omega), hh]
  refine Fun.of (op_plan_rule_known (by simp) ?_) rfl rfl
  conv => whnf
  conv => whnf
  repeat' ((refine gL ?_; refine .map ?_) <;> conv => whnf)
  refine LoopP.count (fb := true) done.length (fun st_ j => ⟨(st_.sets [(22, .int .i64 j)]).env, [.cells [.str r.name, .sl .no (r.keep.map At.av), .sl .no (r.remove.map At.av), .sl .no (r.guard.map Gl.av), .sl .no (r.body.map Gl.av), .int .i64 r.vars, .sl .no (r.heads.map At.av)], .mp (msOf (.agg []) (kvs r.heads (done.take j)))], 0⟩) (fun _ => True) trivial ?_ (fun j hj _ => ?_) (fun _ => ?_)
  · refine EndN.at_ ?_ rfl
    conv => whnf
    refine And.intro ?_ ?_ <;> conv => whnf
    all_goals repeat' ((first | (refine gV ?_; first | refine vE ?_ | refine vI ?_) | (refine gX ?_; first | refine xB ?_ | (refine BxN.mk ?_ ?_; (focus (simp [AV.norm, AV.norm1, msOf, kvs]; done)))) | exact True.intro) <;> conv => whnf)
  · obtain ⟨k, hk⟩ : ∃ k, done[j]? = some k := ⟨_, List.getElem?_eq_getElem hj⟩
    by_cases hv : 0 ≤ k ∧ k < r.heads.length
    · obtain ⟨g, hgk⟩ : ∃ g, r.heads[k.toNat]? = some g := ⟨_, List.getElem?_eq_getElem (by omega)⟩
      have hgo := (hr.2 g (List.mem_of_getElem? hgk)).2.1
      have hks := kvs_yes hk hv.1 hgk
      have hgl : (firsts (Tm.vss g.args)).length ≤ 100000 := by
        have := addVs_len (Tm.vss g.args) []
        simp only [List.length_nil] at this
        unfold firsts; omega
      conv => whnf
      repeat' ((first | (refine gF ?_; first | refine CallN.fn (has_yes hv) ?_ | refine CallN.fn (atomVars_ok (x := g) hgo) ?_) | (refine gC ?_; first | refine cY ?_ | (refine gD ?_; refine cI ?_)) | (refine gL ?_; refine .map ?_) | (refine gI ?_; (refine gM ?_; first | refine iE ?_ | refine iF ?_))) <;> conv => whnf)
      generalize firsts (Tm.vss g.args) = vs at *
      refine LoopP.count (fb := true) vs.length (fun st_ m => ⟨(st_.sets [(36, .int .i64 m)]).env, [.cells [.str r.name, .sl .no (r.keep.map At.av), .sl .no (r.remove.map At.av), .sl .no (r.guard.map Gl.av), .sl .no (r.body.map Gl.av), .int .i64 r.vars, .sl .no (r.heads.map At.av)], .mp (msOf (.agg []) (kvs r.heads (done.take j) ++ vs.take m))], 0⟩) (fun _ => True) trivial ?_ (fun m hm _ => ?_) (fun _ => ?_)
      · refine EndN.at_ ?_ rfl
        conv => whnf
        refine And.intro ?_ ?_ <;> conv => whnf
        all_goals repeat' ((first | (refine gV ?_; first | refine vE ?_ | refine vI ?_) | (refine gX ?_; first | refine xB ?_ | (refine BxN.mk ?_ ?_; (focus (simp [AV.norm, AV.norm1, ]; done)))) | exact True.intro) <;> conv => whnf)
      · obtain ⟨y, hy⟩ : ∃ y, vs[m]? = some y := ⟨_, List.getElem?_eq_getElem hm⟩
        have hs : vs.take (m + 1) = vs.take m ++ [y] := by
          rw [List.take_succ_eq_append_getElem hm, (List.getElem?_eq_some_iff.1 hy).2]
        conv => whnf
        repeat' ((first | (refine gC ?_; (refine gD ?_; refine cI ?_)) | (refine gW ?_; refine wI ?_) | (refine gN ?_; refine nS ?_) | (refine gI ?_; (refine gM ?_; refine iE ?_)) | (refine gMp ?_; refine mA ?_)) <;> conv => whnf)
        refine ⟨trivial, ?_⟩
        refine EndN.at_ ?_ rfl
        conv => whnf
        refine And.intro ?_ ?_ <;> conv => whnf
        all_goals repeat' ((first | (refine gV ?_; first | refine vE ?_ | refine vI ?_) | (refine gX ?_; refine xB ?_) | exact True.intro) <;> conv => whnf)
        refine BxN.mk ?_ True.intro
        show mput _ y (.agg []) = _
        rw [hs, ← List.append_assoc, msOf_put]
      · rw [List.take_length, ← hks]
        conv => whnf
        repeat' ((first | (refine gC ?_; (refine gD ?_; refine cJ ?_)) | (refine gW ?_; refine wI ?_)) <;> conv => whnf)
        refine ⟨trivial, ?_⟩
        refine EndN.at_ ?_ rfl
        conv => whnf
        refine And.intro ?_ ?_ <;> conv => whnf
        all_goals repeat' ((first | (refine gV ?_; first | refine vE ?_ | refine vI ?_) | (refine gX ?_; refine xB ?_) | exact True.intro) <;> conv => whnf)
    · have hks := kvs_no (hs := r.heads) hk (by omega)
      conv => whnf
      repeat' ((first | (refine gF ?_; refine CallN.fn (has_no hv) ?_) | (refine gC ?_; first | refine cN ?_ | (refine gD ?_; refine cI ?_)) | (refine gW ?_; refine wI ?_) | (refine gI ?_; (refine gM ?_; refine iE ?_))) <;> conv => whnf)
      refine ⟨trivial, ?_⟩
      refine EndN.at_ ?_ rfl
      conv => whnf
      refine And.intro ?_ ?_ <;> conv => whnf
      all_goals repeat' ((first | (refine gV ?_; first | refine vE ?_ | refine vI ?_) | (refine gX ?_; first | refine xB ?_ | (refine BxN.mk ?_ ?_; (focus (simp [AV.norm, AV.norm1, hks]; done)))) | exact True.intro) <;> conv => whnf)
  · rw [List.take_length]
    conv => whnf
    repeat' ((first | (refine gC ?_; (refine gD ?_; refine cJ ?_)) | (refine gL ?_; refine .map ?_) | (refine gI ?_; (refine gM ?_; refine iF ?_))) <;> conv => whnf)
    obtain ⟨p, hp⟩ : ∃ p, p = allIn (kvs r.heads done) := ⟨_, rfl⟩
    rw [← hp]
    refine LoopP.count (fb := true) h.args.length (fun st_ j => st_.sets [(12, .sl (.own 1) ((placesP p h.args j).map intA)), (52, .int .i64 j)]) (fun _ => True) trivial ?_ (fun j hj _ => ?_) (fun _ => ?_)
    · refine EndN.at_ ?_ rfl
      conv => whnf
      refine And.intro ?_ ?_ <;> conv => whnf
      all_goals repeat' ((first | (refine gV ?_; first | refine vE ?_ | refine vI ?_ | ((refine gK ?_; refine vD ?_ ?_); (focus (simp [AV.norm, AV.norm1, placesP]; done)))) | (refine gX ?_; refine xB ?_) | exact True.intro) <;> conv => whnf)
    · obtain ⟨t, ht⟩ : ∃ t, h.args[j]? = some t := ⟨_, List.getElem?_eq_getElem hj⟩
      have hto := hho.2.2 t (List.mem_of_getElem? ht)
      have hpl := placesP_len p h.args j
      conv => whnf
      repeat' ((first | (refine gF ?_; refine CallN.fn (vars_ok (t := t) hto) ?_) | (refine gC ?_; (refine gD ?_; refine cI ?_)) | (refine gL ?_; refine .map ?_) | (refine gI ?_; (refine gT ?_; refine iA ?_))) <;> conv => whnf)
      have hvl : (firsts t.vs).length ≤ 100000 := by
        have := addVs_len t.vs []
        simp only [List.length_nil] at this
        unfold firsts; omega
      have hpt : ((firsts t.vs).all fun v => decide (v ∈ kvs r.heads done)) = p t := by rw [hp]; rfl
      generalize firsts t.vs = vs at *
      refine LoopP.count (fb := true) (vs.length) (fun st_ m => st_.sets [(60, .int .i64 m)]) (fun m => ∀ i x, i < m → vs[i]? = some x → x ∈ kvs r.heads done) ?_ ?_ (fun m hm him => ?_) (fun him => ?_)
      · exact fun i x hi => by omega
      · refine EndN.at_ ?_ rfl
        conv => whnf
        refine And.intro ?_ ?_ <;> conv => whnf
        all_goals repeat' ((first | (refine gV ?_; first | refine vE ?_ | refine vI ?_) | (refine gX ?_; refine xB ?_) | exact True.intro) <;> conv => whnf)
      · obtain ⟨y, hy⟩ : ∃ y, vs[m]? = some y := ⟨_, List.getElem?_eq_getElem hm⟩
        conv => whnf
        repeat' ((first | (refine gC ?_; first | refine cY ?_ | refine cN ?_ | refine .not ?_ | (refine gD ?_; refine cI ?_)) | (refine gW ?_; refine wI ?_) | (refine gI ?_; (refine gM ?_; refine iE ?_)) | (refine gMp ?_; refine mA ?_) | (refine gMs ?_; refine mS (fun hc => ?_) (fun hc => ?_))) <;> conv => whnf)
        · refine ⟨fun i x hi hx => ?_, ?_⟩
          · by_cases e : i = m
            · subst e; rw [hy] at hx; cases hx; assumption
            · exact him i x (by omega) hx
          · refine EndN.atC 3 ?_ rfl rfl rfl rfl (by first | rfl | (repeat' (first | rfl | refine bLtRow (row_allI _ _ _) ?_ | refine bLtRow (row_allB _ _ _) ?_ | refine bLtMp ?_ | refine bLtDead ?_ | refine bLtCells rfl ?_)))
            conv => whnf
            refine And.intro ?_ ?_ <;> conv => whnf
            all_goals repeat' ((first | (refine gV ?_; first | refine vE ?_ | refine vI ?_) | (refine gX ?_; refine xB ?_) | exact True.intro) <;> conv => whnf)
        · have hpf : p t = false := by
            rw [← hpt, List.all_eq_false]
            exact ⟨y, List.mem_of_getElem? hy, by simpa using (by assumption : ¬ y ∈ kvs r.heads done)⟩
          have hs := placesP_no ht hpf
          refine ⟨trivial, ?_⟩
          refine EndN.atC 2 ?_ rfl rfl rfl rfl (by first | rfl | (repeat' (first | rfl | refine bLtRow (row_allI _ _ _) ?_ | refine bLtRow (row_allB _ _ _) ?_ | refine bLtMp ?_ | refine bLtDead ?_ | refine bLtCells rfl ?_)))
          conv => whnf
          refine And.intro ?_ ?_ <;> conv => whnf
          all_goals repeat' ((first | (refine gV ?_; first | refine vE ?_ | refine vI ?_ | (refine WkN.sl ?_ ?_; (focus (simp [AV.norm, AV.norm1, hs]; done)))) | (refine gX ?_; refine xB ?_) | exact True.intro) <;> conv => whnf)
      · have hpf : p t = true := by
          rw [← hpt, List.all_eq_true]
          intro y hy
          obtain ⟨i, hi, rfl⟩ := List.mem_iff_getElem.1 hy
          exact decide_eq_true (him i _ hi (List.getElem?_eq_getElem hi))
        have hs := placesP_yes ht hpf
        conv => whnf
        repeat' ((first | (refine gC ?_; (refine gD ?_; refine cJ ?_)) | (refine gW ?_; refine wI ?_) | (refine gN ?_; refine nS ?_)) <;> conv => whnf)
        refine ⟨trivial, ?_⟩
        refine EndN.atC 2 ?_ rfl rfl rfl rfl (by first | rfl | (repeat' (first | rfl | refine bLtRow (row_allI _ _ _) ?_ | refine bLtRow (row_allB _ _ _) ?_ | refine bLtMp ?_ | refine bLtDead ?_ | refine bLtCells rfl ?_)))
        conv => whnf
        refine And.intro ?_ ?_ <;> conv => whnf
        all_goals repeat' ((first | (refine gV ?_; first | refine vE ?_ | refine vI ?_ | (refine WkN.sl ?_ ?_; (focus (simp [AV.norm, AV.norm1, hs]; done)))) | (refine gX ?_; refine xB ?_) | exact True.intro) <;> conv => whnf)
    · conv => whnf
      repeat' ((first | (refine gC ?_; (refine gD ?_; refine cJ ?_)) | refine RetP.nrm ?_) <;> conv => whnf)
end Go.CK

set_option linter.unusedSimpArgs false
set_option linter.unusedVariables false
namespace Go.CK
open Go.AM Go.Proofs
set_option maxRecDepth 100000 in
theorem subset_ok {l : List Int} {t : List Int} : Fun Tryz.prog 73 [slA intA t, slA intA l] (.bool (t.all fun v => decide (v ∈ l))) := by
  refine Fun.assume rfl fun hg0 => ?_
  have hg := (good_sla (hg0 (slA intA l) (by simp))).1
  have hg2 := (good_sla (hg0 (slA intA t) (by simp))).1
  refine Fun.of (op_constraintref29_subset (by simp) ?_) rfl rfl
  conv => whnf
  conv => whnf
  skip
  refine LoopP.count (fb := true) (t.length) (fun st_ j => st_.sets [(5, .int .i64 j)]) (fun j => ∀ i x, i < j → t[i]? = some x → decide (x ∈ l) = true) ?_ ?_ (fun j hj hij => ?_) (fun hij => ?_)
  · intro i _ hi; omega
  · refine EndN.at_ ?_ rfl
    conv => whnf
    refine And.intro ?_ ?_ <;> conv => whnf
    all_goals repeat' ((first | (refine gV ?_; first | refine vE ?_ | refine vI ?_) | exact True.intro) <;> conv => whnf)
  · obtain ⟨y, hy⟩ : ∃ y, t[j]? = some y := ⟨_, List.getElem?_eq_getElem hj⟩
    conv => whnf
    repeat' ((first | (refine gC ?_; (refine gD ?_; refine cI ?_)) | (refine gL ?_; refine .map ?_)) <;> conv => whnf)
    refine LoopP.count (fb := true) l.length (fun st_ k => st_.sets [(6, .bool (decide (y ∈ l.take k))), (7, .int .i64 k)]) (fun _ => True) trivial ?_ (fun k hk _ => ?_) (fun _ => ?_)
    · refine EndN.at_ ?_ rfl
      conv => whnf
      refine And.intro ?_ ?_ <;> conv => whnf
      all_goals repeat' ((first | (refine gV ?_; first | refine vE ?_ | refine vI ?_ | (refine WkN.norm ?_ ?_; (focus (simp [AV.norm, AV.norm1, ]; done)))) | exact True.intro) <;> conv => whnf)
    · obtain ⟨z, hz⟩ : ∃ z, l[k]? = some z := ⟨_, List.getElem?_eq_getElem hk⟩
      have htk : l.take (k + 1) = l.take k ++ [z] := by
        rw [List.take_succ_eq_append_getElem hk, (List.getElem?_eq_some_iff.1 hz).2]
      have e1 : y ∈ l.take k → true = decide (y ∈ l.take (k + 1)) := fun h => by rw [htk]; simp [h]
      have e2 : ¬ y ∈ l.take k → decide (z = y) = decide (y ∈ l.take (k + 1)) := fun h => by rw [htk]; simp [h, eq_comm]
      conv => whnf
      repeat' ((first | (refine gC ?_; first | (refine gD ?_; first | refine cI ?_ | refine cJ ?_) | refine CondN.dec (fun hc => ?_) (fun hc => ?_)) | (refine gW ?_; refine wI ?_) | (refine gL ?_; refine .map ?_) | (refine gI ?_; (refine gM ?_; refine iE ?_))) <;> conv => whnf)
      · have e3 := e1 hc
        refine ⟨trivial, ?_⟩
        refine EndN.at_ ?_ rfl
        conv => whnf
        refine And.intro ?_ ?_ <;> conv => whnf
        all_goals repeat' ((first | (refine gV ?_; first | refine vE ?_ | refine vI ?_ | refine vB ?_) | exact True.intro) <;> conv => whnf)
      · have e3 := e2 hc
        refine ⟨trivial, ?_⟩
        refine EndN.at_ ?_ rfl
        conv => whnf
        refine And.intro ?_ ?_ <;> conv => whnf
        all_goals repeat' ((first | (refine gV ?_; first | refine vE ?_ | refine vI ?_ | refine vB ?_) | exact True.intro) <;> conv => whnf)
    · rw [List.take_length]
      conv => whnf
      repeat' ((first | (refine gC ?_; first | refine .not ?_ | (refine gD ?_; refine cJ ?_) | refine CondN.dec (fun hc => ?_) (fun hc => ?_)) | (refine gW ?_; refine wI ?_) | (refine gL ?_; refine .map ?_) | refine RetP.nrm ?_) <;> conv => whnf)
      · refine ⟨yes_succ hij hy (decide_eq_true hc), ?_⟩
        refine EndN.at_ ?_ rfl
        conv => whnf
        refine And.intro ?_ ?_ <;> conv => whnf
        all_goals repeat' ((first | (refine gV ?_; first | refine vE ?_ | refine vI ?_) | exact True.intro) <;> conv => whnf)
      · rw [all_no hy (decide_eq_false hc)]
  · conv => whnf
    repeat' ((first | (refine gC ?_; (refine gD ?_; refine cJ ?_)) | (refine gL ?_; refine .map ?_) | refine RetP.nrm ?_) <;> conv => whnf)
    rw [all_yes hij]
set_option maxRecDepth 100000 in
set_option maxHeartbeats 1000000 in
theorem refKnown_ok {r : Rl} {done : List Int} {head : Int} (hr : r.ok2) (hd : done.length ≤ 100) (hh0 : 0 ≤ head) (hh1 : head < r.heads.length) : Fun Tryz.prog 53 [r.av, slA intA done, .int .i64 head] (slA intA (knownI r done head)) := by
  have hhl : r.heads.length ≤ 8 := by rw [Rl.heads_len]; exact hr.1
  obtain ⟨h, hh⟩ : ∃ h, r.heads[head.toNat]? = some h := ⟨_, List.getElem?_eq_getElem (by omega)⟩
  have hho := hr.2 h (List.mem_of_getElem? hh)
  have hal := argsOf_len (hs := r.heads) fun g hg => ⟨(hr.2 g hg).1, (hr.2 g hg).2.1⟩
  rw [knownI, if_neg (by omega), hh]
  refine Fun.of (op_constraintref29_Known (by simp) ?_) rfl rfl
  conv => whnf
  conv => whnf
  repeat' ((refine gF ?_; refine CallN.fn (refHeads_ok (x := r) (by have := hr.1; omega)) ?_) <;> conv => whnf)
  refine LoopP.count (fb := true) done.length (fun st_ j => st_.sets [(8, .sl (.own 4) ((argsOf r.heads (done.take j)).map Tm.av)), (9, .int .i64 j)]) (fun _ => True) trivial ?_ (fun j hj _ => ?_) (fun _ => ?_)
  · refine EndN.at_ ?_ rfl
    conv => whnf
    refine And.intro ?_ ?_ <;> conv => whnf
    all_goals repeat' ((first | (refine gV ?_; first | refine vE ?_ | refine vI ?_ | ((refine gK ?_; refine vD ?_ ?_); (focus (simp [AV.norm, AV.norm1, argsOf]; done)))) | (refine gX ?_; refine xB ?_) | exact True.intro) <;> conv => whnf)
  · obtain ⟨k, hk⟩ : ∃ k, done[j]? = some k := ⟨_, List.getElem?_eq_getElem hj⟩
    have hal2 := (hal (done.take j)).1
    have htl := List.length_take_le' j done
    by_cases hv : 0 ≤ k ∧ k < r.heads.length
    · obtain ⟨g, hgk⟩ : ∃ g, r.heads[k.toNat]? = some g := ⟨_, List.getElem?_eq_getElem (by omega)⟩
      have hgo := (hr.2 g (List.mem_of_getElem? hgk)).1
      have hks := argsOf_yes hk hv.1 hgk
      conv => whnf
      repeat' ((first | (refine gC ?_; (refine gD ?_; refine cI ?_)) | (refine gW ?_; refine wI ?_) | (refine gL ?_; refine .map ?_) | (refine gN ?_; refine nS ?_) | (refine gI ?_; (refine gM ?_; first | refine iE ?_ | refine iF ?_))) <;> conv => whnf)
      refine ⟨trivial, ?_⟩
      refine EndN.atC 1 ?_ rfl rfl rfl rfl (by first | rfl | (repeat' (first | rfl | refine bLtRow (row_allI _ _ _) ?_ | refine bLtRow (row_allB _ _ _) ?_ | refine bLtMp ?_ | refine bLtDead ?_ | refine bLtCells rfl ?_)))
      conv => whnf
      refine And.intro ?_ ?_ <;> conv => whnf
      all_goals repeat' ((first | (refine gV ?_; first | refine vE ?_ | refine vI ?_ | (refine WkN.sl ?_ ?_; (focus (simp [AV.norm, AV.norm1, hks]; done)))) | (refine gX ?_; refine xB ?_) | exact True.intro) <;> conv => whnf)
    · have hks := argsOf_no (hs := r.heads) hk (by omega)
      conv => whnf
      repeat' ((first | (refine gC ?_; first | refine cN ?_ | (refine gD ?_; first | refine cI ?_ | refine cJ ?_) | refine CondN.le (fun hc => ?_) (fun hc => ?_)) | (refine gW ?_; refine wI ?_) | (refine gL ?_; refine .map ?_) | (refine gI ?_; (refine gM ?_; refine iE ?_))) <;> conv => whnf)
      · refine ⟨trivial, ?_⟩
        refine EndN.atC 1 ?_ rfl rfl rfl rfl (by first | rfl | (repeat' (first | rfl | refine bLtRow (row_allI _ _ _) ?_ | refine bLtRow (row_allB _ _ _) ?_ | refine bLtMp ?_ | refine bLtDead ?_ | refine bLtCells rfl ?_)))
        conv => whnf
        refine And.intro ?_ ?_ <;> conv => whnf
        all_goals repeat' ((first | (refine gV ?_; first | refine vE ?_ | refine vI ?_ | (refine WkN.sl ?_ ?_; (focus (simp [AV.norm, AV.norm1, hks]; done)))) | (refine gX ?_; refine xB ?_) | exact True.intro) <;> conv => whnf)
      · refine ⟨trivial, ?_⟩
        refine EndN.atC 1 ?_ rfl rfl rfl rfl (by first | rfl | (repeat' (first | rfl | refine bLtRow (row_allI _ _ _) ?_ | refine bLtRow (row_allB _ _ _) ?_ | refine bLtMp ?_ | refine bLtDead ?_ | refine bLtCells rfl ?_)))
        conv => whnf
        refine And.intro ?_ ?_ <;> conv => whnf
        all_goals repeat' ((first | (refine gV ?_; first | refine vE ?_ | refine vI ?_ | (refine WkN.sl ?_ ?_; (focus (simp [AV.norm, AV.norm1, hks]; done)))) | (refine gX ?_; refine xB ?_) | exact True.intro) <;> conv => whnf)
  · rw [List.take_length]
    have hal3 := (hal done).2
    conv => whnf
    repeat' ((first | (refine gF ?_; refine CallN.fn (varsOf_ok (l := argsOf r.heads done) (by omega)) ?_) | (refine gC ?_; (refine gD ?_; refine cJ ?_)) | (refine gL ?_; refine .map ?_)) <;> conv => whnf)
    obtain ⟨p, hp⟩ : ∃ p, p = allIn (kvs r.heads done) := ⟨_, rfl⟩
    rw [← hp]
    obtain ⟨kn, hkn⟩ : ∃ kn, kn = firsts (Tm.vss (argsOf r.heads done)) := ⟨_, rfl⟩
    have hpt : ∀ t : Tm, ((firsts t.vs).all fun v => decide (v ∈ kn)) = p t := fun t => by
      rw [hp, hkn, allIn]
      refine congrArg (fun f => List.all (firsts t.vs) f) (funext fun v => ?_)
      rw [Bool.eq_iff_iff, decide_eq_true_eq, decide_eq_true_eq]
      exact argsOf_kvs r.heads done v
    rw [← hkn]
    refine LoopP.count (fb := true) h.args.length (fun st_ j => st_.sets [(11, .sl (.own 1) ((placesP p h.args j).map intA)), (12, .int .i64 j)]) (fun _ => True) trivial ?_ (fun j hj _ => ?_) (fun _ => ?_)
    · refine EndN.atC 1 ?_ rfl rfl rfl rfl (by first | rfl | (repeat' (first | rfl | refine bLtRow (row_allI _ _ _) ?_ | refine bLtRow (row_allB _ _ _) ?_ | refine bLtMp ?_ | refine bLtDead ?_ | refine bLtCells rfl ?_)))
      conv => whnf
      refine And.intro ?_ ?_ <;> conv => whnf
      all_goals repeat' ((first | (refine gV ?_; first | refine vE ?_ | refine vI ?_ | ((refine gK ?_; refine vD ?_ ?_); (focus (simp [AV.norm, AV.norm1, placesP]; done)))) | (refine gX ?_; refine xB ?_) | exact True.intro) <;> conv => whnf)
    · obtain ⟨t, ht⟩ : ∃ t, h.args[j]? = some t := ⟨_, List.getElem?_eq_getElem hj⟩
      have hto := hho.2.2 t (List.mem_of_getElem? ht)
      have hpl := placesP_len p h.args j
      have hpt1 := hpt t
      have hal1 : Fun Tryz.prog 73 [slA intA (firsts t.vs), slA intA kn] (.bool (p t)) := by rw [← hpt1]; exact subset_ok
      conv => whnf
      repeat' ((first | (refine gF ?_; first | refine CallN.fn (refVars_ok (t := t) (by omega)) ?_ | refine CallN.fn (hal1) ?_) | (refine gC ?_; first | (refine gD ?_; refine cI ?_) | refine CondN.any (fun hc => ?_) (fun hc => ?_)) | (refine gW ?_; refine wI ?_) | (refine gL ?_; refine .map ?_) | (refine gN ?_; refine nS ?_) | (refine gI ?_; first | (refine gT ?_; refine iA ?_) | (refine gM ?_; refine iF ?_))) <;> conv => whnf)
      · have hs := placesP_yes ht hc
        refine ⟨trivial, ?_⟩
        refine EndN.atC 1 ?_ rfl rfl rfl rfl (by first | rfl | (repeat' (first | rfl | refine bLtRow (row_allI _ _ _) ?_ | refine bLtRow (row_allB _ _ _) ?_ | refine bLtMp ?_ | refine bLtDead ?_ | refine bLtCells rfl ?_)))
        conv => whnf
        refine And.intro ?_ ?_ <;> conv => whnf
        all_goals repeat' ((first | (refine gV ?_; first | refine vE ?_ | refine vI ?_ | (refine WkN.sl ?_ ?_; (focus (simp [AV.norm, AV.norm1, hs]; done)))) | (refine gX ?_; refine xB ?_) | exact True.intro) <;> conv => whnf)
      · have hs := placesP_no ht hc
        refine ⟨trivial, ?_⟩
        refine EndN.atC 1 ?_ rfl rfl rfl rfl (by first | rfl | (repeat' (first | rfl | refine bLtRow (row_allI _ _ _) ?_ | refine bLtRow (row_allB _ _ _) ?_ | refine bLtMp ?_ | refine bLtDead ?_ | refine bLtCells rfl ?_)))
        conv => whnf
        refine And.intro ?_ ?_ <;> conv => whnf
        all_goals repeat' ((first | (refine gV ?_; first | refine vE ?_ | refine vI ?_ | (refine WkN.sl ?_ ?_; (focus (simp [AV.norm, AV.norm1, hs]; done)))) | (refine gX ?_; refine xB ?_) | exact True.intro) <;> conv => whnf)
    · conv => whnf
      repeat' ((first | (refine gC ?_; (refine gD ?_; refine cJ ?_)) | (refine gL ?_; refine .map ?_) | (refine gI ?_; (refine gM ?_; refine iF ?_)) | refine RetP.nrm ?_) <;> conv => whnf)
end Go.CK

set_option linter.unusedSimpArgs false
set_option linter.unusedVariables false
namespace Go.CK
open Go.AM Go.Proofs
set_option maxRecDepth 100000 in
theorem missing1_ok {bs : List Box} {c : Nat} {xs : List Int} {v : Int} (hp : boxCells bs c = some [slA intA xs]) : AM.Sem Tryz.prog 68 [.int .i64 v, .ptr c 0] bs fun r bs' => r = .bool (!decide (v ∈ xs)) ∧ bs' = bs := by
  refine opS_depend_Unique_1 (by simp) ?_
  conv => whnf
  skip
  refine BxAt.of hp ?_
  conv => whnf
  repeat' ((refine gF ?_; refine CallN.fn (contains_ok (l := xs) (n := v)) ?_) <;> conv => whnf)
  exact RetP.slot ⟨rfl, rfl⟩
set_option maxRecDepth 100000 in
theorem indexMissing_ok {bs : List Box} {c : Nat} {xs l : List Int} (hp : boxCells bs c = some [slA intA xs]) : AM.Sem Tryz.prog 83 [slA intA l, .fn (.func 68) [] [.ptr c 0]] bs fun r bs' => r = .int .i64 (findI (fun v => !decide (v ∈ xs)) l) ∧ bs' = bs := by
  refine Sem.assume fun hg0 _ => ?_
  have hg := (good_sla (hg0 (slA intA l) (by simp) rfl)).1
  refine opS_slices_IndexFunc_int_int (by simp) ?_
  conv => whnf
  repeat' ((refine gL ?_; refine .map ?_) <;> conv => whnf)
  refine LoopP.count (fb := false) l.length (fun st_ j => ⟨[(0, slA intA l), (1, .fn (.func 68) [] [.ptr c 0]), (7, .int .i64 l.length), (8, .int .i64 j)], bs, bs.length⟩) (fun j => ∀ i x, i < j → l[i]? = some x → (!decide (x ∈ xs)) = false) no_zero ?_ (fun j hj hij => ?_) (fun hij => ?_)
  · refine EndN.atS ?_ rfl rfl
    conv => whnf
    repeat' ((first | (refine gV ?_; first | refine vE ?_ | refine vI ?_) | exact True.intro) <;> conv => whnf)
  · obtain ⟨y, hy⟩ : ∃ y, l[j]? = some y := ⟨_, List.getElem?_eq_getElem hj⟩
    conv => whnf
    repeat' ((first | (refine gC ?_; (refine gD ?_; refine cI ?_)) | (refine gI ?_; (refine gM ?_; refine iE ?_)) | (refine gH ?_; refine hB ?_)) <;> conv => whnf)
    refine CallN.raw (missing1_ok hp) ?_
    rintro r bs' ⟨rfl, rfl⟩
    conv => whnf
    repeat' ((first | (refine gC ?_; first | refine .not ?_ | refine CondN.dec (fun hc => ?_) (fun hc => ?_)) | (refine gW ?_; refine wI ?_)) <;> conv => whnf)
    · refine ⟨no_succ hij hy (by rw [decide_eq_true hc]; rfl), ?_⟩
      refine EndN.atS ?_ rfl rfl
      conv => whnf
      repeat' ((first | (refine gV ?_; first | refine vE ?_ | refine vI ?_) | exact True.intro) <;> conv => whnf)
    · refine RetP.slot ⟨?_, rfl⟩
      rw [findI_at hij hy (by rw [decide_eq_false hc]; rfl)]; rfl
  · conv => whnf
    repeat' ((refine gC ?_; (refine gD ?_; refine cJ ?_)) <;> conv => whnf)
    refine RetP.slot ⟨?_, rfl⟩
    rw [findI_no hij]; rfl
set_option maxRecDepth 100000 in
theorem containsMissing_ok {bs : List Box} {c : Nat} {xs l : List Int} (hp : boxCells bs c = some [slA intA xs]) : AM.Sem Tryz.prog 69 [slA intA l, .fn (.func 68) [] [.ptr c 0]] bs fun r bs' => r = .bool (!l.all fun v => decide (v ∈ xs)) ∧ bs' = bs := by
  rw [show (!l.all fun v => decide (v ∈ xs)) = l.any fun v => !decide (v ∈ xs) by rw [List.all_eq_not_any_not, Bool.not_not], ← findI_pos]
  refine opS_slices_ContainsFunc_int_int (by simp) ?_
  conv => whnf
  skip
  refine CallN.raw (indexMissing_ok hp) ?_
  rintro r bs' ⟨rfl, rfl⟩
  conv => whnf
  skip
  exact RetP.slot ⟨rfl, rfl⟩
/-- a key of this name, all of whose positions are known -/
def keyIn (name : ByteArray) (ps : List Int) (k : Ky) : Bool := decide (k.name = name) && k.positions.all fun v => decide (v ∈ ps)
def uniqI (keys : List Ky) (name : ByteArray) (ps : List Int) : Bool := keys.any (keyIn name ps)
theorem any_noF {α : Type} {p : α → Bool} {l : List α} (h : ∀ i x, i < l.length → l[i]? = some x → p x = false) : l.any p = false := by
  rw [List.any_eq_false]
  intro x hx
  obtain ⟨i, hi, rfl⟩ := List.mem_iff_getElem.1 hx
  rw [h i _ hi (List.getElem?_eq_getElem hi)]; simp
set_option maxRecDepth 100000 in
theorem unique_ok {keys : List Ky} {name : ByteArray} {ps : List Int} (hk : keys.length ≤ 100000) : Fun Tryz.prog 49 [slA Ky.av keys, .str name, slA intA ps] (.bool (uniqI keys name ps)) := by
  refine Fun.of (op_depend_Unique (by simp) ?_) rfl rfl
  conv => whnf
  conv => whnf
  repeat' ((refine gL ?_; refine .map ?_) <;> conv => whnf)
  refine LoopP.count (fb := true) (keys.length) (fun st_ j => st_.sets [(12, .int .i64 j)]) (fun j => ∀ i x, i < j → keys[i]? = some x → keyIn name ps x = false) ?_ ?_ (fun j hj hij => ?_) (fun hij => ?_)
  · exact no_zero
  · refine EndN.at_ ?_ rfl
    conv => whnf
    refine And.intro ?_ ?_ <;> conv => whnf
    all_goals repeat' ((first | (refine gV ?_; first | refine vE ?_ | refine vI ?_) | (refine gX ?_; refine xB ?_) | exact True.intro) <;> conv => whnf)
  · obtain ⟨k, hk⟩ : ∃ k, keys[j]? = some k := ⟨_, List.getElem?_eq_getElem hj⟩
    conv => whnf
    repeat' ((first | (refine gC ?_; first | refine cN ?_ | (refine gD ?_; first | refine cI ?_ | refine cJ ?_) | refine CondN.dec (fun hc => ?_) (fun hc => ?_)) | (refine gW ?_; refine wI ?_) | (refine gI ?_; (refine gM ?_; refine iE ?_))) <;> conv => whnf)
    · refine CallN.raw (containsMissing_ok (xs := ps) rfl) ?_
      rintro r bs' ⟨rfl, rfl⟩
      cases ha : k.positions.all fun v => decide (v ∈ ps) with
      | true =>
        conv => whnf
        repeat' ((first | (refine gC ?_; first | refine cY ?_ | refine .not ?_ | (refine gD ?_; refine cI ?_)) | refine RetP.nrm ?_) <;> conv => whnf)
        have h1 : keyIn name ps k = true := by simp only [keyIn, ha, decide_eq_true (by assumption : k.name = name), Bool.and_self]
        rw [show uniqI keys name ps = true from List.any_eq_true.2 ⟨k, List.mem_of_getElem? hk, h1⟩]
      | false =>
        conv => whnf
        repeat' ((first | (refine gC ?_; first | refine cN ?_ | refine .not ?_ | (refine gD ?_; refine cI ?_)) | (refine gW ?_; refine wI ?_)) <;> conv => whnf)
        refine ⟨no_succ hij hk (by simp only [keyIn, ha, Bool.and_false]), ?_⟩
        refine EndN.atC 1 ?_ rfl rfl rfl rfl (by first | rfl | (repeat' (first | rfl | refine bLtRow (row_allI _ _ _) ?_ | refine bLtRow (row_allB _ _ _) ?_ | refine bLtMp ?_ | refine bLtDead ?_ | refine bLtCells rfl ?_)))
        conv => whnf
        refine And.intro ?_ ?_ <;> conv => whnf
        all_goals repeat' ((first | (refine gV ?_; first | refine vE ?_ | refine vI ?_) | (refine gX ?_; refine xB ?_) | exact True.intro) <;> conv => whnf)
    · refine ⟨no_succ hij hk (by simp only [keyIn, decide_eq_false (by assumption : ¬ k.name = name), Bool.false_and]), ?_⟩
      refine EndN.atC 1 ?_ rfl rfl rfl rfl (by first | rfl | (repeat' (first | rfl | refine bLtRow (row_allI _ _ _) ?_ | refine bLtRow (row_allB _ _ _) ?_ | refine bLtMp ?_ | refine bLtDead ?_ | refine bLtCells rfl ?_)))
      conv => whnf
      refine And.intro ?_ ?_ <;> conv => whnf
      all_goals repeat' ((first | (refine gV ?_; first | refine vE ?_ | refine vI ?_) | (refine gX ?_; refine xB ?_) | exact True.intro) <;> conv => whnf)
  · conv => whnf
    repeat' ((first | (refine gC ?_; (refine gD ?_; refine cJ ?_)) | refine RetP.nrm ?_) <;> conv => whnf)
    rw [show uniqI keys name ps = false from any_noF hij]
end Go.CK

