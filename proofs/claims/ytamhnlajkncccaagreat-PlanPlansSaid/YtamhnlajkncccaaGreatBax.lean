/-
  Texts of this claim joined (wip/gen/bundle.py), those declarations only that are needed: PlS PlT PlU PlV. By an AI agent.
-/
import Derived.Test.YtamhnlajkncccaaGreatBaw
set_option linter.unusedSimpArgs false
set_option linter.unusedVariables false
namespace Go.CK
open Go.AM Go.Proofs
theorem mG {l : List (Int × AV)} {n : Int} {ok : Bool} {z v : AV} {K : AV → Prop} (h : mget l n = some v) (hv : mapOk v = true) (k : K (okR ok v true)) : MapN l n ok z K := ⟨by rw [h]; exact ⟨hv, k⟩⟩
theorem mGn {l : List (Int × AV)} {n : Int} {ok : Bool} {z : AV} {K : AV → Prop} (h : mget l n = none) (k : K (okR ok z false)) : MapN l n ok z K := ⟨by rw [h]; exact k⟩
/-- the last place of a variable among the first j -/
def idxV (l : List Tm) (x : Int) : Nat → Option Nat
  | 0 => none
  | j + 1 => match l[j]? with
    | none => idxV l x j
    | some t => if x = t.num then some j else idxV l x j
def varsM (l : List Tm) : Nat → List (Int × AV)
  | 0 => []
  | j + 1 => match l[j]? with
    | none => varsM l j
    | some t => mput (varsM l j) t.num (.int .i64 j)
theorem varsM_get (l : List Tm) (x : Int) : ∀ j, mget (varsM l j) x = (idxV l x j).map fun i : Nat => AV.int .i64 i
  | 0 => rfl
  | j + 1 => by
    rw [varsM, idxV]
    cases e : l[j]? with
    | none => exact varsM_get l x j
    | some t =>
      simp only
      rw [mget_put]
      split
      · rfl
      · exact varsM_get l x j
def plainV (l : List Tm) : Nat → Bool
  | 0 => true
  | j + 1 => plainV l j && match l[j]? with
    | none => true
    | some t => decide (t.kind = 1) && (idxV l t.num j).isNone
theorem plainV_at {l : List Tm} {j : Nat} {t : Tm} (h : l[j]? = some t) : plainV l (j + 1) = (plainV l j && (decide (t.kind = 1) && (idxV l t.num j).isNone)) := by simp [plainV, h]
theorem plainV_no {l : List Tm} {j : Nat} : ∀ {n : Nat}, plainV l j = false → j ≤ n → plainV l n = false
  | 0, h, hn => by
    obtain rfl : j = 0 := by omega
    exact h
  | n + 1, h, hn => by
    rcases Nat.lt_or_eq_of_le hn with q | q
    · rw [plainV, plainV_no h (by omega), Bool.false_and]
    · rw [← q]; exact h
theorem varsM_at {l : List Tm} {j : Nat} {t : Tm} (h : l[j]? = some t) : varsM l (j + 1) = mput (varsM l j) t.num (.int .i64 j) := by simp [varsM, h]
theorem RetP.cutL {s : St} {rs : List RRes} {Q : AV → List Box → Prop} {own X : List Box} (hb : s.bs = own ++ X) (hlo : s.lo ≤ own.length) (h1 : envLt own.length s.env = true) (h2 : boxesLt own.length own = true) (h : RetP ⟨s.env, own, s.lo⟩ rs Q) : RetP s rs Q := by
  have ht : s.bs.take own.length = own := by rw [hb]; simp
  refine RetP.cut own.length hlo (by rw [hb]; simp) h1 (by rw [ht]; exact h2) ?_
  rw [ht]; exact h
set_option maxRecDepth 100000 in
set_option maxHeartbeats 1000000 in
theorem variables_ok {a : At} {bs : List Box} (ha : a.args.length ≤ 100000) (hbb : boxesLt bs.length bs = true) : AM.Sem Tryz.prog 61 [a.av] bs fun r bs' => (plainV a.args a.args.length = true ∧ r = .tup [.mpt (bs.length + 1), .bool true] ∧ bs' = bs ++ [.cells [.str a.name, .sl .no (a.args.map Tm.av)], .mp (varsM a.args a.args.length)]) ∨ (plainV a.args a.args.length = false ∧ r = .tup [.nmp, .bool false] ∧ bs' = bs) := by
  refine opS_depend_variables (by simp) ?_
  conv => whnf
  try dsimp only
  repeat' ((first | (refine gL ?_; refine .map ?_) | (refine gB ?_; refine .last2 ?_)) <;> (conv => whnf; try dsimp only))
  obtain ⟨own, hown⟩ : ∃ own, own = bs ++ [Box.cells [AV.str a.name, .sl .no (a.args.map Tm.av)]] := ⟨_, rfl⟩
  have hol : own.length = bs.length + 1 := by rw [hown]; simp
  have hob : boxesLt own.length own = true := by
    rw [hown]
    exact boxesLt_app (boxesLt_le (by simp) hbb) (by rfl)
  rw [← hown]
  refine LoopP.count (fb := false) a.args.length (fun st_ j => ⟨[(4, .mpt own.length), (11, .sl .no (a.args.map Tm.av)), (12, .int .i64 a.args.length), (13, .int .i64 j)], own ++ [.mp (varsM a.args j)], bs.length⟩) (fun j => plainV a.args j = true) rfl ?_ (fun j hj hij => ?_) (fun hij => ?_)
  · refine EndN.atS ?_ rfl rfl
    conv => whnf
    repeat' ((first | (refine gV ?_; first | refine vE ?_ | refine vI ?_) | exact True.intro) <;> conv => whnf)
  · obtain ⟨t, ht⟩ : ∃ t, a.args[j]? = some t := ⟨_, List.getElem?_eq_getElem hj⟩
    have hmp : ∀ q : Box, ((own ++ [.mp (varsM a.args j)]) ++ [q])[own.length]? = some (.mp (varsM a.args j)) := fun q => by simp
    have hpa := plainV_at ht
    rw [hij, Bool.true_and] at hpa
    have hlt := varsM_at ht
    have hno : plainV a.args (j + 1) = false → plainV a.args a.args.length = false := fun h => plainV_no h hj
    conv => whnf
    try dsimp only
    repeat' ((first | (refine gC ?_; first | refine .not ?_ | (refine gD ?_; refine cI ?_) | refine CondN.dec (fun hc => ?_) (fun hc => ?_)) | (refine gI ?_; (refine gT ?_; refine iA ?_)) | (refine gB ?_; refine .last ?_) | refine BxSet.last ?_) <;> (conv => whnf; try dsimp only))
    · have hk : t.kind = 1 := by assumption
      rw [decide_eq_true hk, Bool.true_and] at hpa
      refine ⟨_, hmp _, ?_⟩
      cases hi : idxV a.args t.num j with
      | some i =>
        refine mG (v := .int .i64 i) (by rw [varsM_get, hi]; rfl) rfl ?_
        conv => whnf
        try dsimp only
        repeat' ((refine gC ?_; refine cY ?_) <;> (conv => whnf; try dsimp only))
        refine RetP.cutL (own := bs) (X := .cells [AV.str a.name, .sl .no (a.args.map Tm.av)] :: [.mp (varsM a.args j), .cells [.int .i64 t.kind, .int .i64 t.num, .str t.name, .sl .no (t.args.map Tm.av)]]) (by simp [hown]) (Nat.le_refl _) rfl hbb ?_
        conv => whnf
        try dsimp only
        repeat' (refine RetP.nrm ?_ <;> (conv => whnf; try dsimp only))
        exact Or.inr ⟨hno (by rw [hpa, hi]; rfl), rfl, rfl⟩
      | none =>
        refine mGn (by rw [varsM_get, hi]; rfl) ?_
        conv => whnf
        try dsimp only
        repeat' ((first | (refine gC ?_; refine cN ?_) | (refine gB ?_; refine .last ?_)) <;> (conv => whnf; try dsimp only))
        refine ⟨_, hmp _, ?_⟩
        conv => whnf
        try dsimp only
        repeat' ((first | (refine gW ?_; refine wI ?_) | (refine gN ?_; refine nS ?_)) <;> (conv => whnf; try dsimp only))
        refine ⟨by rw [hpa, hi]; rfl, ?_⟩
        refine EndN.cutS (own := own ++ [.mp (varsM a.args (j + 1))]) (x := .cells [.int .i64 t.kind, .int .i64 t.num, .str t.name, .sl .no (t.args.map Tm.av)]) (by simp [hlt, St.ev, St.get, envGet, Nat.beq, AV.deown]) (by simp [hol]; omega) (by simp [envLt, AV.lt, AV.lt1, AV.lt0, AV.flat1]) (boxesLt_app (boxesLt_le (by simp) hob) rfl) ?_
        refine EndN.atS ?_ rfl rfl
        conv => whnf
        repeat' ((first | (refine gV ?_; first | refine vE ?_ | refine vI ?_) | exact True.intro) <;> conv => whnf)
    · have hk : ¬ t.kind = 1 := by assumption
      rw [decide_eq_false hk, Bool.false_and] at hpa
      refine RetP.cutL (own := bs) (X := .cells [AV.str a.name, .sl .no (a.args.map Tm.av)] :: [.mp (varsM a.args j), .cells [.int .i64 t.kind, .int .i64 t.num, .str t.name, .sl .no (t.args.map Tm.av)]]) (by simp [hown]) (Nat.le_refl _) rfl hbb ?_
      conv => whnf
      try dsimp only
      repeat' (refine RetP.nrm ?_ <;> (conv => whnf; try dsimp only))
      exact Or.inr ⟨hno hpa, rfl, rfl⟩
  · conv => whnf
    try dsimp only
    repeat' ((refine gC ?_; (refine gD ?_; refine cJ ?_)) <;> (conv => whnf; try dsimp only))
    refine ⟨_, Weak.refl _, Or.inl (Or.inl ⟨hij, ?_, by rw [hown]; simp⟩)⟩
    show AV.tup [.mpt own.length, .bool true] = _
    rw [hol]
theorem variables_yes {a : At} {bs : List Box} (h : plainV a.args a.args.length = true) (ha : a.args.length ≤ 100000) (hbb : boxesLt bs.length bs = true) : AM.Sem Tryz.prog 61 [a.av] bs fun r bs' => r = .tup [.mpt (bs.length + 1), .bool true] ∧ bs' = bs ++ [.cells [.str a.name, .sl .no (a.args.map Tm.av)], .mp (varsM a.args a.args.length)] :=
  (variables_ok ha hbb).mono fun r bs' hq => by
    rcases hq with ⟨_, h1⟩ | ⟨h1, _⟩
    · exact h1
    · rw [h] at h1; cases h1
theorem variables_no {a : At} {bs : List Box} (h : plainV a.args a.args.length = false) (ha : a.args.length ≤ 100000) (hbb : boxesLt bs.length bs = true) : AM.Sem Tryz.prog 61 [a.av] bs fun r bs' => r = .tup [.nmp, .bool false] ∧ bs' = bs :=
  (variables_ok ha hbb).mono fun r bs' hq => by
    rcases hq with ⟨h1, _⟩ | ⟨_, h1⟩
    · rw [h] at h1; cases h1
    · exact h1
/-- the shared places among the first j; none: a variable is shared at different places -/
def shareT (la lb : List Tm) : Nat → Option (List Int)
  | 0 => some []
  | j + 1 => match shareT la lb j, la[j]? with
    | none, _ => none
    | some ps, none => some ps
    | some ps, some t => match idxV lb t.num lb.length with
      | none => some ps
      | some m => if m = j then some (ps ++ [(j : Int)]) else none
theorem shareT_no {la lb : List Tm} {j : Nat} : ∀ {n : Nat}, shareT la lb j = none → j ≤ n → shareT la lb n = none
  | 0, h, hn => by
    obtain rfl : j = 0 := by omega
    exact h
  | n + 1, h, hn => by
    rcases Nat.lt_or_eq_of_le hn with q | q
    · rw [shareT, shareT_no h (by omega)]
    · rw [← q]; exact h
theorem shareT_len {la lb : List Tm} : ∀ {j : Nat} {ps : List Int}, shareT la lb j = some ps → ps.length ≤ j
  | 0, ps, h => by cases h; exact Nat.le_refl _
  | j + 1, ps, h => by
    rw [shareT] at h
    split at h
    · cases h
    · rename_i e _
      have := shareT_len e
      cases h; omega
    · rename_i e _
      have := shareT_len e
      split at h
      · cases h; omega
      · split at h
        · cases h; simp; omega
        · cases h
def Ky.zero : Ky := ⟨⟨⟨[]⟩⟩, 0, []⟩
def ofRuleI (r : Rl) : Option Ky :=
  if r.remove.length = 0 ∨ 0 < r.guard.length then none else match r.heads with
  | [a, b] => if a.name = b.name ∧ a.args.length = b.args.length ∧ plainV a.args a.args.length = true ∧ plainV b.args b.args.length = true then (shareT a.args b.args a.args.length).map fun ps => ⟨a.name, a.args.length, ps⟩ else none
  | _ => none
def ofRuleAV : Option Ky → AV
  | none => .tup [Ky.zero.av, .bool false]
  | some k => .tup [k.av, .bool true]
theorem ofRuleAV_lt : ∀ o, (ofRuleAV o).lt 0 = true
  | none => rfl
  | some _ => rfl
set_option maxRecDepth 100000 in
set_option maxHeartbeats 2000000 in
theorem ofRule_ok {r : Rl} (hr : r.ok2) (hg : r.okG) : Fun Tryz.prog 38 [r.av] (ofRuleAV (ofRuleI r)) := by
  have hgl := hg.1
  have hh := heads_ok (x := r) (by have := hr.1; omega)
  have hpr := prop_ok (x := r)
  by_cases h2 : r.heads.length = 2
  · obtain ⟨a, b, hab⟩ : ∃ a b, r.heads = [a, b] := by
      match r.heads, h2 with
      | [a, b], _ => exact ⟨a, b, rfl⟩
    have hal := (hr.2 a (by rw [hab]; simp)).1
    have hbl := (hr.2 b (by rw [hab]; simp)).1
    rw [hab] at hh
    rw [ofRuleI, hab]
    by_cases hc0 : r.remove.length = 0 ∨ 0 < r.guard.length
    · rw [if_pos hc0]
      refine Fun.of (op_depend_OfRule (by simp) ?_) rfl rfl
      conv => whnf
      conv => whnf
      repeat' ((first | (refine gF ?_; first | refine CallN.fn (hh) ?_ | refine CallN.fn (hpr) ?_) | (refine gC ?_; first | refine cY ?_ | refine .not ?_ | (refine gD ?_; first | refine cI ?_ | refine cJ ?_) | refine CondN.dec (fun hc => ?_) (fun hc => ?_)) | (refine gL ?_; refine .map ?_) | refine RetP.nrm ?_) <;> conv => whnf)
      all_goals rfl
    · rw [if_neg hc0]
      dsimp only
      have hrl : ¬ (r.remove.length : Int) = 0 := by omega
      have hg0 : r.guard.length = 0 := by omega
      have h20 : (([a, b] : List At).length : Int) = 2 := rfl
      have hx0 : ([a, b] : List At)[(0 : Int).toNat]? = some a := rfl
      have hx1 : ([a, b] : List At)[(1 : Int).toNat]? = some b := rfl
      by_cases hn : a.name = b.name
      · by_cases hl : a.args.length = b.args.length
        · cases ha : plainV a.args a.args.length with
          | false =>
            rw [if_neg (by simp)]
            cases hb : plainV b.args b.args.length with
            | false =>
              refine Fun.of (op_depend_OfRule (by simp) ?_) rfl rfl
              conv => whnf
              conv => whnf
              repeat' ((first | (refine gF ?_; first | refine CallN.fn (hh) ?_ | refine CallN.fn (hpr) ?_ | refine CallN.to (variables_no ha (by omega) (by first | rfl | (repeat' (first | rfl | refine bLtRow (row_allI _ _ _) ?_ | refine bLtRow (row_allB _ _ _) ?_ | refine bLtMp ?_ | refine bLtDead ?_ | refine bLtCells rfl ?_)))) ?_ | refine CallN.to (variables_no hb (by omega) (by first | rfl | (repeat' (first | rfl | refine bLtRow (row_allI _ _ _) ?_ | refine bLtRow (row_allB _ _ _) ?_ | refine bLtMp ?_ | refine bLtDead ?_ | refine bLtCells rfl ?_)))) ?_) | (refine gC ?_; first | refine cY ?_ | refine cN ?_ | refine .not ?_ | (refine gD ?_; first | refine cI ?_ | refine cJ ?_)) | (refine gL ?_; refine .map ?_) | (refine gI ?_; (refine gM ?_; refine iE ?_)) | refine BothN.mk ?_ ?_ | refine RetP.nrm ?_) <;> conv => whnf)
              all_goals rfl
            | true =>
              refine Fun.of (op_depend_OfRule (by simp) ?_) rfl rfl
              conv => whnf
              conv => whnf
              repeat' ((first | (refine gF ?_; first | refine CallN.fn (hh) ?_ | refine CallN.fn (hpr) ?_ | refine CallN.to (variables_no ha (by omega) (by first | rfl | (repeat' (first | rfl | refine bLtRow (row_allI _ _ _) ?_ | refine bLtRow (row_allB _ _ _) ?_ | refine bLtMp ?_ | refine bLtDead ?_ | refine bLtCells rfl ?_)))) ?_ | refine CallN.to (variables_yes hb (by omega) (by first | rfl | (repeat' (first | rfl | refine bLtRow (row_allI _ _ _) ?_ | refine bLtRow (row_allB _ _ _) ?_ | refine bLtMp ?_ | refine bLtDead ?_ | refine bLtCells rfl ?_)))) ?_) | (refine gC ?_; first | refine cY ?_ | refine cN ?_ | refine .not ?_ | (refine gD ?_; first | refine cI ?_ | refine cJ ?_)) | (refine gL ?_; refine .map ?_) | (refine gI ?_; (refine gM ?_; refine iE ?_)) | refine BothN.mk ?_ ?_ | refine RetP.nrm ?_) <;> conv => whnf)
              all_goals rfl
          | true =>
            cases hb : plainV b.args b.args.length with
            | false =>
              rw [if_neg (by simp)]
              refine Fun.of (op_depend_OfRule (by simp) ?_) rfl rfl
              conv => whnf
              conv => whnf
              repeat' ((first | (refine gF ?_; first | refine CallN.fn (hh) ?_ | refine CallN.fn (hpr) ?_ | refine CallN.to (variables_yes ha (by omega) (by first | rfl | (repeat' (first | rfl | refine bLtRow (row_allI _ _ _) ?_ | refine bLtRow (row_allB _ _ _) ?_ | refine bLtMp ?_ | refine bLtDead ?_ | refine bLtCells rfl ?_)))) ?_ | refine CallN.to (variables_no hb (by omega) (by first | rfl | (repeat' (first | rfl | refine bLtRow (row_allI _ _ _) ?_ | refine bLtRow (row_allB _ _ _) ?_ | refine bLtMp ?_ | refine bLtDead ?_ | refine bLtCells rfl ?_)))) ?_) | (refine gC ?_; first | refine cY ?_ | refine cN ?_ | refine .not ?_ | (refine gD ?_; first | refine cI ?_ | refine cJ ?_)) | (refine gL ?_; refine .map ?_) | (refine gI ?_; (refine gM ?_; refine iE ?_)) | refine BothN.mk ?_ ?_ | refine RetP.nrm ?_) <;> conv => whnf)
              all_goals rfl
            | true =>
              rw [if_pos (by simp [hn, hl])]
              refine Fun.of (op_depend_OfRule (by simp) ?_) rfl (ofRuleAV_lt _)
              conv => whnf
              conv => whnf
              repeat' ((first | (refine gF ?_; first | refine CallN.fn (hh) ?_ | refine CallN.fn (hpr) ?_ | refine CallN.to (variables_yes ha (by omega) (by first | rfl | (repeat' (first | rfl | refine bLtRow (row_allI _ _ _) ?_ | refine bLtRow (row_allB _ _ _) ?_ | refine bLtMp ?_ | refine bLtDead ?_ | refine bLtCells rfl ?_)))) ?_ | refine CallN.to (variables_yes hb (by omega) (by first | rfl | (repeat' (first | rfl | refine bLtRow (row_allI _ _ _) ?_ | refine bLtRow (row_allB _ _ _) ?_ | refine bLtMp ?_ | refine bLtDead ?_ | refine bLtCells rfl ?_)))) ?_) | (refine gC ?_; first | refine cY ?_ | refine .not ?_ | (refine gD ?_; first | refine cI ?_ | refine cJ ?_)) | (refine gL ?_; refine .map ?_) | (refine gI ?_; (refine gM ?_; refine iE ?_)) | refine BothN.mk ?_ ?_) <;> conv => whnf)
              · refine LoopP.count (fb := true) a.args.length (fun st_ j => ⟨[(2, .ptr 1 0), (9, .mpt 7), (11, .ptr 8 0), (77, .sl .no (a.args.map Tm.av)), (78, .int .i64 a.args.length), (79, .int .i64 j)], [.cells [.str r.name, .sl .no (r.keep.map At.av), .sl .no (r.remove.map At.av), .sl .no (r.guard.map Gl.av), .sl .no (r.body.map Gl.av), .int .i64 r.vars], .cells [.str ⟨⟨[]⟩⟩, .int .i64 0, .sl .full []], .cells [.str a.name, .sl .no (a.args.map Tm.av)], .cells [.str b.name, .sl .no (b.args.map Tm.av)], .cells [.str a.name, .sl .no (a.args.map Tm.av)], .mp (varsM a.args a.args.length), .cells [.str b.name, .sl .no (b.args.map Tm.av)], .mp (varsM b.args b.args.length), .cells [.str a.name, .int .i64 a.args.length, .sl (.own 1) (((shareT a.args b.args j).getD []).map intA)]], 0⟩) (fun j => (shareT a.args b.args j).isSome = true) rfl ?_ (fun j hj hij => ?_) (fun hij => ?_)
                · refine EndN.claimB 8 2 1 rfl (by simp) ?_
                  refine EndN.at_ ?_ rfl
                  conv => whnf
                  refine And.intro ?_ ?_ <;> conv => whnf
                  all_goals repeat' ((first | (refine gV ?_; first | refine vE ?_ | refine vI ?_) | (refine gX ?_; first | refine xB ?_ | (refine BxN.mk ?_ ?_; (focus (simp [AV.norm, AV.norm1, shareT]; done)))) | exact True.intro) <;> conv => whnf)
                · obtain ⟨t, ht⟩ : ∃ t, a.args[j]? = some t := ⟨_, List.getElem?_eq_getElem hj⟩
                  obtain ⟨ps, hps⟩ := Option.isSome_iff_exists.1 hij
                  have hpl := shareT_len hps
                  have hg := varsM_get b.args t.num b.args.length
                  have hsu : shareT a.args b.args (j + 1) = match idxV b.args t.num b.args.length with
                      | none => some ps
                      | some m => if m = j then some (ps ++ [(j : Int)]) else none := by rw [shareT, hps, ht]
                  have hno : shareT a.args b.args (j + 1) = none → shareT a.args b.args a.args.length = none := fun h => shareT_no h hj
                  rw [hps, Option.getD_some]
                  generalize varsM b.args b.args.length = mb at *
                  conv => whnf
                  repeat' ((first | (refine gC ?_; (refine gD ?_; refine cI ?_)) | (refine gI ?_; (refine gT ?_; refine iA ?_)) | (refine gMp ?_; refine mA ?_)) <;> conv => whnf)
                  cases hi : idxV b.args t.num b.args.length with
                  | none =>
                    rw [hi] at hg hsu
                    refine mGn hg ?_
                    conv => whnf
                    repeat' ((first | (refine gC ?_; refine cN ?_) | (refine gW ?_; refine wI ?_)) <;> conv => whnf)
                    refine ⟨by rw [hsu]; rfl, ?_⟩
                    refine EndN.atC 9 ?_ rfl rfl rfl rfl (by first | rfl | (repeat' (first | rfl | refine bLtRow (row_allI _ _ _) ?_ | refine bLtRow (row_allB _ _ _) ?_ | refine bLtMp ?_ | refine bLtDead ?_ | refine bLtCells rfl ?_)))
                    conv => whnf
                    refine And.intro ?_ ?_ <;> conv => whnf
                    all_goals repeat' ((first | (refine gV ?_; first | refine vE ?_ | refine vI ?_) | (refine gX ?_; first | refine xB ?_ | (refine BxN.mk ?_ ?_; (focus (simp [AV.norm, AV.norm1, hsu]; done)))) | exact True.intro) <;> conv => whnf)
                  | some m =>
                    rw [hi] at hg hsu
                    refine mG hg rfl ?_
                    by_cases hmj : m = j
                    · subst hmj
                      dsimp only at hsu
                      rw [if_pos rfl] at hsu
                      conv => whnf
                      repeat' ((first | (refine gC ?_; first | refine cY ?_ | refine .not ?_ | (refine gD ?_; refine cI ?_)) | (refine gW ?_; refine wI ?_) | (refine gN ?_; refine nS ?_)) <;> conv => whnf)
                      refine ⟨by rw [hsu]; rfl, ?_⟩
                      refine EndN.atC 9 ?_ rfl rfl rfl rfl (by first | rfl | (repeat' (first | rfl | refine bLtRow (row_allI _ _ _) ?_ | refine bLtRow (row_allB _ _ _) ?_ | refine bLtMp ?_ | refine bLtDead ?_ | refine bLtCells rfl ?_)))
                      conv => whnf
                      refine And.intro ?_ ?_ <;> conv => whnf
                      all_goals repeat' ((first | (refine gV ?_; first | refine vE ?_ | refine vI ?_) | (refine gX ?_; first | refine xB ?_ | (refine BxN.mk ?_ ?_; (focus (simp [AV.norm, AV.norm1, hsu]; done)))) | exact True.intro) <;> conv => whnf)
                    · dsimp only at hsu
                      rw [if_neg hmj] at hsu
                      rw [hno hsu]
                      conv => whnf
                      repeat' ((first | (refine gC ?_; first | refine cY ?_ | refine .not ?_ | (refine gD ?_; refine cJ ?_)) | refine RetP.nrm ?_) <;> conv => whnf)
                      rfl
                · obtain ⟨ps, hps⟩ := Option.isSome_iff_exists.1 hij
                  rw [hps]
                  conv => whnf
                  repeat' ((first | (refine gC ?_; (refine gD ?_; refine cJ ?_)) | refine RetP.nrm ?_) <;> conv => whnf)
                  rfl
              · refine LoopP.count (fb := true) a.args.length (fun st_ j => ⟨[(2, .ptr 1 0), (9, .mpt 7), (11, .ptr 8 0), (77, .sl .no (a.args.map Tm.av)), (78, .int .i64 a.args.length), (79, .int .i64 j)], [.cells [.str r.name, .sl .no (r.keep.map At.av), .sl .no (r.remove.map At.av), .sl .no (r.guard.map Gl.av), .sl .no (r.body.map Gl.av), .int .i64 r.vars], .cells [.str ⟨⟨[]⟩⟩, .int .i64 0, .sl .full []], .cells [.str b.name, .sl .no (b.args.map Tm.av)], .cells [.str a.name, .sl .no (a.args.map Tm.av)], .cells [.str a.name, .sl .no (a.args.map Tm.av)], .mp (varsM a.args a.args.length), .cells [.str b.name, .sl .no (b.args.map Tm.av)], .mp (varsM b.args b.args.length), .cells [.str a.name, .int .i64 a.args.length, .sl (.own 1) (((shareT a.args b.args j).getD []).map intA)]], 0⟩) (fun j => (shareT a.args b.args j).isSome = true) rfl ?_ (fun j hj hij => ?_) (fun hij => ?_)
                · refine EndN.claimB 8 2 1 rfl (by simp) ?_
                  refine EndN.at_ ?_ rfl
                  conv => whnf
                  refine And.intro ?_ ?_ <;> conv => whnf
                  all_goals repeat' ((first | (refine gV ?_; first | refine vE ?_ | refine vI ?_) | (refine gX ?_; first | refine xB ?_ | (refine BxN.mk ?_ ?_; (focus (simp [AV.norm, AV.norm1, shareT]; done)))) | exact True.intro) <;> conv => whnf)
                · obtain ⟨t, ht⟩ : ∃ t, a.args[j]? = some t := ⟨_, List.getElem?_eq_getElem hj⟩
                  obtain ⟨ps, hps⟩ := Option.isSome_iff_exists.1 hij
                  have hpl := shareT_len hps
                  have hg := varsM_get b.args t.num b.args.length
                  have hsu : shareT a.args b.args (j + 1) = match idxV b.args t.num b.args.length with
                      | none => some ps
                      | some m => if m = j then some (ps ++ [(j : Int)]) else none := by rw [shareT, hps, ht]
                  have hno : shareT a.args b.args (j + 1) = none → shareT a.args b.args a.args.length = none := fun h => shareT_no h hj
                  rw [hps, Option.getD_some]
                  generalize varsM b.args b.args.length = mb at *
                  conv => whnf
                  repeat' ((first | (refine gC ?_; (refine gD ?_; refine cI ?_)) | (refine gI ?_; (refine gT ?_; refine iA ?_)) | (refine gMp ?_; refine mA ?_)) <;> conv => whnf)
                  cases hi : idxV b.args t.num b.args.length with
                  | none =>
                    rw [hi] at hg hsu
                    refine mGn hg ?_
                    conv => whnf
                    repeat' ((first | (refine gC ?_; refine cN ?_) | (refine gW ?_; refine wI ?_)) <;> conv => whnf)
                    refine ⟨by rw [hsu]; rfl, ?_⟩
                    refine EndN.atC 9 ?_ rfl rfl rfl rfl (by first | rfl | (repeat' (first | rfl | refine bLtRow (row_allI _ _ _) ?_ | refine bLtRow (row_allB _ _ _) ?_ | refine bLtMp ?_ | refine bLtDead ?_ | refine bLtCells rfl ?_)))
                    conv => whnf
                    refine And.intro ?_ ?_ <;> conv => whnf
                    all_goals repeat' ((first | (refine gV ?_; first | refine vE ?_ | refine vI ?_) | (refine gX ?_; first | refine xB ?_ | (refine BxN.mk ?_ ?_; (focus (simp [AV.norm, AV.norm1, hsu]; done)))) | exact True.intro) <;> conv => whnf)
                  | some m =>
                    rw [hi] at hg hsu
                    refine mG hg rfl ?_
                    by_cases hmj : m = j
                    · subst hmj
                      dsimp only at hsu
                      rw [if_pos rfl] at hsu
                      conv => whnf
                      repeat' ((first | (refine gC ?_; first | refine cY ?_ | refine .not ?_ | (refine gD ?_; refine cI ?_)) | (refine gW ?_; refine wI ?_) | (refine gN ?_; refine nS ?_)) <;> conv => whnf)
                      refine ⟨by rw [hsu]; rfl, ?_⟩
                      refine EndN.atC 9 ?_ rfl rfl rfl rfl (by first | rfl | (repeat' (first | rfl | refine bLtRow (row_allI _ _ _) ?_ | refine bLtRow (row_allB _ _ _) ?_ | refine bLtMp ?_ | refine bLtDead ?_ | refine bLtCells rfl ?_)))
                      conv => whnf
                      refine And.intro ?_ ?_ <;> conv => whnf
                      all_goals repeat' ((first | (refine gV ?_; first | refine vE ?_ | refine vI ?_) | (refine gX ?_; first | refine xB ?_ | (refine BxN.mk ?_ ?_; (focus (simp [AV.norm, AV.norm1, hsu]; done)))) | exact True.intro) <;> conv => whnf)
                    · dsimp only at hsu
                      rw [if_neg hmj] at hsu
                      rw [hno hsu]
                      conv => whnf
                      repeat' ((first | (refine gC ?_; first | refine cY ?_ | refine .not ?_ | (refine gD ?_; refine cJ ?_)) | refine RetP.nrm ?_) <;> conv => whnf)
                      rfl
                · obtain ⟨ps, hps⟩ := Option.isSome_iff_exists.1 hij
                  rw [hps]
                  conv => whnf
                  repeat' ((first | (refine gC ?_; (refine gD ?_; refine cJ ?_)) | refine RetP.nrm ?_) <;> conv => whnf)
                  rfl
        · rw [if_neg (fun q => hl q.2.1)]
          refine Fun.of (op_depend_OfRule (by simp) ?_) rfl rfl
          conv => whnf
          conv => whnf
          repeat' ((first | (refine gF ?_; first | refine CallN.fn (hh) ?_ | refine CallN.fn (hpr) ?_) | (refine gC ?_; first | refine .not ?_ | (refine gD ?_; first | refine cI ?_ | refine cJ ?_)) | (refine gL ?_; refine .map ?_) | (refine gI ?_; (refine gM ?_; refine iE ?_)) | refine BothN.mk ?_ ?_ | refine RetP.nrm ?_) <;> conv => whnf)
          all_goals rfl
      · rw [if_neg (fun q => hn q.1)]
        refine Fun.of (op_depend_OfRule (by simp) ?_) rfl rfl
        conv => whnf
        conv => whnf
        repeat' ((first | (refine gF ?_; first | refine CallN.fn (hh) ?_ | refine CallN.fn (hpr) ?_) | (refine gC ?_; first | refine cY ?_ | refine .not ?_ | (refine gD ?_; first | refine cI ?_ | refine cJ ?_)) | (refine gL ?_; refine .map ?_) | (refine gI ?_; (refine gM ?_; refine iE ?_)) | refine BothN.mk ?_ ?_ | refine RetP.nrm ?_) <;> conv => whnf)
        all_goals rfl
  · have e : ofRuleI r = none := by
      rw [ofRuleI]
      split
      · rfl
      · split
        · rename_i q
          rw [q] at h2
          exact absurd rfl h2
        · rfl
    rw [e]
    refine Fun.of (op_depend_OfRule (by simp) ?_) rfl rfl
    conv => whnf
    conv => whnf
    repeat' ((first | (refine gF ?_; refine CallN.fn (hh) ?_) | (refine gC ?_; first | refine cY ?_ | refine .not ?_ | (refine gD ?_; refine cJ ?_)) | (refine gL ?_; refine .map ?_) | refine RetP.nrm ?_) <;> conv => whnf)
    all_goals rfl
end Go.CK

set_option linter.unusedSimpArgs false
set_option linter.unusedVariables false
namespace Go.CK
open Go.AM Go.Proofs
set_option maxRecDepth 100000 in
theorem equalKy_ok {a b : Ky} : Fun Tryz.prog 41 [a.av, b.av] (.bool (decide (a = b))) := by
  have hd : decide (a = b) = (decide (a.name = b.name) && (decide (a.arity = b.arity) && decide (a.positions = b.positions))) := by
    rw [Bool.eq_iff_iff]
    simp only [Bool.and_eq_true, decide_eq_true_eq, Ky.ext_iff]
  rw [hd]
  clear hd
  refine Fun.of (op_depend_equal (by simp) ?_) rfl rfl
  conv => whnf
  conv => whnf
  repeat' ((first | (refine gF ?_; refine CallN.fn (equalI_ok (a := a.positions) (b := b.positions)) ?_) | (refine gC ?_; first | refine cN ?_ | (refine gD ?_; first | refine cI ?_ | refine cJ ?_) | refine CondN.dec (fun hc => ?_) (fun hc => ?_)) | refine RetP.nrm ?_) <;> conv => whnf)
  all_goals (refine bool_eq ?_; simp [*])
set_option maxRecDepth 100000 in
theorem keys1_ok {bs : List Box} {c : Nat} {k x : Ky} (hbb : boxesLt bs.length bs = true) (hp : boxCells bs c = some [.str k.name, .int .i64 k.arity, slA intA k.positions]) : AM.Sem Tryz.prog 40 [x.av, .ptr c 0] bs fun r bs' => r = .bool (decide (x = k)) ∧ bs' = bs := by
  refine opS_depend_Keys_1 (by simp) ?_
  conv => whnf
  try dsimp only
  repeat' ((refine gB ?_; refine .last ?_) <;> (conv => whnf; try dsimp only))
  refine BxAt.of (cs := [.str k.name, .int .i64 k.arity, slA intA k.positions]) (by rw [boxCells_append, if_neg (by have := boxCells_lt hp; omega)]; exact hp) ?_
  conv => whnf
  try dsimp only
  repeat' ((refine gF ?_; refine CallN.fn (equalKy_ok (a := x) (b := k)) ?_) <;> (conv => whnf; try dsimp only))
  refine RetP.cutS rfl (Nat.le_refl _) rfl hbb ?_
  exact RetP.slot ⟨rfl, rfl⟩
set_option maxRecDepth 100000 in
theorem indexKey_ok {bs : List Box} {c : Nat} {k : Ky} {l : List Ky} (hl : l.length ≤ 100000) (hbb : boxesLt bs.length bs = true) (hp : boxCells bs c = some [.str k.name, .int .i64 k.arity, slA intA k.positions]) : AM.Sem Tryz.prog 62 [slA Ky.av l, .fn (.func 40) [] [.ptr c 0]] bs fun r bs' => r = .int .i64 (findI (fun x => decide (x = k)) l) ∧ bs' = bs := by
  refine opS_slices_IndexFunc_api_Key_api_Key (by simp) ?_
  conv => whnf
  repeat' ((refine gL ?_; refine .map ?_) <;> conv => whnf)
  refine LoopP.count (fb := false) l.length (fun st_ j => ⟨[(0, slA Ky.av l), (1, .fn (.func 40) [] [.ptr c 0]), (7, .int .i64 l.length), (8, .int .i64 j)], bs, bs.length⟩) (fun j => ∀ i x, i < j → l[i]? = some x → decide (x = k) = false) no_zero ?_ (fun j hj hij => ?_) (fun hij => ?_)
  · refine EndN.atS ?_ rfl rfl
    conv => whnf
    repeat' ((first | (refine gV ?_; first | refine vE ?_ | refine vI ?_) | exact True.intro) <;> conv => whnf)
  · obtain ⟨y, hy⟩ : ∃ y, l[j]? = some y := ⟨_, List.getElem?_eq_getElem hj⟩
    conv => whnf
    repeat' ((first | (refine gC ?_; (refine gD ?_; refine cI ?_)) | (refine gI ?_; (refine gM ?_; refine iE ?_)) | (refine gH ?_; refine hB ?_)) <;> conv => whnf)
    refine CallN.raw (keys1_ok (x := y) hbb hp) ?_
    rintro r bs' ⟨rfl, rfl⟩
    conv => whnf
    repeat' ((first | (refine gC ?_; refine CondN.dec (fun hc => ?_) (fun hc => ?_)) | (refine gW ?_; refine wI ?_)) <;> conv => whnf)
    · refine RetP.slot ⟨?_, rfl⟩
      rw [findI_at hij hy (decide_eq_true hc)]; rfl
    · refine ⟨no_succ hij hy (decide_eq_false hc), ?_⟩
      refine EndN.atS ?_ rfl rfl
      conv => whnf
      repeat' ((first | (refine gV ?_; first | refine vE ?_ | refine vI ?_) | exact True.intro) <;> conv => whnf)
  · conv => whnf
    repeat' ((refine gC ?_; (refine gD ?_; refine cJ ?_)) <;> conv => whnf)
    refine RetP.slot ⟨?_, rfl⟩
    rw [findI_no hij]; rfl
set_option maxRecDepth 100000 in
theorem containsKey_ok {bs : List Box} {c : Nat} {k : Ky} {l : List Ky} (hl : l.length ≤ 100000) (hbb : boxesLt bs.length bs = true) (hp : boxCells bs c = some [.str k.name, .int .i64 k.arity, slA intA k.positions]) : AM.Sem Tryz.prog 39 [slA Ky.av l, .fn (.func 40) [] [.ptr c 0]] bs fun r bs' => r = .bool (decide (k ∈ l)) ∧ bs' = bs := by
  have e : decide (k ∈ l) = l.any fun x => decide (x = k) := by
    rw [Bool.eq_iff_iff, decide_eq_true_eq, List.any_eq_true]
    exact ⟨fun h => ⟨k, h, decide_eq_true rfl⟩, fun ⟨x, h, q⟩ => (of_decide_eq_true q) ▸ h⟩
  rw [e, ← findI_pos]
  refine opS_slices_ContainsFunc_api_Key_api_Key (by simp) ?_
  conv => whnf
  skip
  refine CallN.raw (indexKey_ok hl hbb hp) ?_
  rintro r bs' ⟨rfl, rfl⟩
  conv => whnf
  skip
  exact RetP.slot ⟨rfl, rfl⟩
/-- the keys of the first j rules -/
def keysT (l : List Rl) : Nat → List Ky
  | 0 => []
  | j + 1 => match l[j]? with
    | none => keysT l j
    | some r => match ofRuleI r with
      | none => keysT l j
      | some k => if k ∈ keysT l j then keysT l j else keysT l j ++ [k]
def keysI (p : Pg) : List Ky := keysT p.rules p.rules.length
theorem keysT_len (l : List Rl) : ∀ j, (keysT l j).length ≤ j
  | 0 => Nat.le_refl _
  | j + 1 => by
    have := keysT_len l j
    rw [keysT]
    split
    · omega
    · split
      · omega
      · split
        · omega
        · simp; omega
theorem keysT_at {l : List Rl} {j : Nat} {r : Rl} (h : l[j]? = some r) : keysT l (j + 1) = match ofRuleI r with
      | none => keysT l j
      | some k => if k ∈ keysT l j then keysT l j else keysT l j ++ [k] := by rw [keysT, h]
set_option maxRecDepth 100000 in
set_option maxHeartbeats 1000000 in
theorem keys_ok {p : Pg} (hp : p.fit) : Fun Tryz.prog 16 [p.av] (slA Ky.av (keysI p)) := by
  have hpl := hp.few
  refine Fun.of (op_depend_Keys (by simp) ?_) rfl rfl
  conv => whnf
  conv => whnf
  repeat' ((refine gL ?_; refine .map ?_) <;> conv => whnf)
  refine LoopP.count (fb := true) (p.rules.length) (fun st_ j => st_.sets [(3, .sl (.own 3) ((keysT p.rules j).map Ky.av)), (11, .int .i64 j)]) (fun _ => True) trivial ?_ (fun j hj _ => ?_) (fun _ => ?_)
  · refine EndN.at_ ?_ rfl
    conv => whnf
    refine And.intro ?_ ?_ <;> conv => whnf
    all_goals repeat' ((first | (refine gV ?_; first | refine vE ?_ | refine vI ?_ | ((refine gK ?_; refine vD ?_ ?_); (focus (simp [AV.norm, AV.norm1, keysT]; done)))) | (refine gX ?_; refine xB ?_) | exact True.intro) <;> conv => whnf)
  · obtain ⟨r, hr⟩ : ∃ r, p.rules[j]? = some r := ⟨_, List.getElem?_eq_getElem hj⟩
    have hrm := List.mem_of_getElem? hr
    have hkl := keysT_len p.rules j
    have hka := keysT_at hr
    have hor := ofRule_ok (hp.ok2 r hrm) (hp.okG r hrm)
    cases ho : ofRuleI r with
    | none =>
      rw [ho] at hka hor
      dsimp only at hka
      simp only [ofRuleAV] at hor
      conv => whnf
      repeat' ((first | (refine gF ?_; refine CallN.fn (hor) ?_) | (refine gC ?_; first | refine cN ?_ | (refine gD ?_; refine cI ?_)) | (refine gW ?_; refine wI ?_) | (refine gI ?_; (refine gM ?_; refine iE ?_))) <;> conv => whnf)
      refine ⟨trivial, ?_⟩
      refine EndN.atC 1 ?_ rfl rfl rfl rfl (by first | rfl | (repeat' (first | rfl | refine bLtRow (row_allI _ _ _) ?_ | refine bLtRow (row_allB _ _ _) ?_ | refine bLtMp ?_ | refine bLtDead ?_ | refine bLtCells rfl ?_)))
      conv => whnf
      refine And.intro ?_ ?_ <;> conv => whnf
      all_goals repeat' ((first | (refine gV ?_; first | refine vE ?_ | refine vI ?_ | (refine WkN.sl ?_ ?_; (focus (simp [AV.norm, AV.norm1, hka]; done)))) | (refine gX ?_; refine xB ?_) | exact True.intro) <;> conv => whnf)
    | some k =>
      rw [ho] at hka hor
      dsimp only at hka
      simp only [ofRuleAV] at hor
      by_cases hm : k ∈ keysT p.rules j
      · rw [if_pos hm] at hka
        have hcn := fun {bs : List Box} {c : Nat} h1 h2 => containsKey_ok (bs := bs) (c := c) (k := k) (l := keysT p.rules j) (by omega) h1 h2
        rw [decide_eq_true hm] at hcn
        conv => whnf
        repeat' ((first | (refine gF ?_; first | refine CallN.fn (hor) ?_ | refine CallN.to (hcn (by first | rfl | (repeat' (first | rfl | refine bLtRow (row_allI _ _ _) ?_ | refine bLtRow (row_allB _ _ _) ?_ | refine bLtMp ?_ | refine bLtDead ?_ | refine bLtCells rfl ?_))) rfl) ?_) | (refine gC ?_; first | refine cY ?_ | refine .not ?_ | (refine gD ?_; refine cI ?_)) | (refine gW ?_; refine wI ?_) | (refine gI ?_; (refine gM ?_; refine iE ?_))) <;> conv => whnf)
        refine ⟨trivial, ?_⟩
        refine EndN.atC 1 ?_ rfl rfl rfl rfl (by first | rfl | (repeat' (first | rfl | refine bLtRow (row_allI _ _ _) ?_ | refine bLtRow (row_allB _ _ _) ?_ | refine bLtMp ?_ | refine bLtDead ?_ | refine bLtCells rfl ?_)))
        conv => whnf
        refine And.intro ?_ ?_ <;> conv => whnf
        all_goals repeat' ((first | (refine gV ?_; first | refine vE ?_ | refine vI ?_ | (refine WkN.sl ?_ ?_; (focus (simp [AV.norm, AV.norm1, hka]; done)))) | (refine gX ?_; refine xB ?_) | exact True.intro) <;> conv => whnf)
      · rw [if_neg hm] at hka
        have hcn := fun {bs : List Box} {c : Nat} h1 h2 => containsKey_ok (bs := bs) (c := c) (k := k) (l := keysT p.rules j) (by omega) h1 h2
        rw [decide_eq_false hm] at hcn
        conv => whnf
        repeat' ((first | (refine gF ?_; first | refine CallN.fn (hor) ?_ | refine CallN.to (hcn (by first | rfl | (repeat' (first | rfl | refine bLtRow (row_allI _ _ _) ?_ | refine bLtRow (row_allB _ _ _) ?_ | refine bLtMp ?_ | refine bLtDead ?_ | refine bLtCells rfl ?_))) rfl) ?_) | (refine gC ?_; first | refine cY ?_ | refine cN ?_ | refine .not ?_ | (refine gD ?_; refine cI ?_)) | (refine gW ?_; refine wI ?_) | (refine gN ?_; refine nS ?_) | (refine gI ?_; (refine gM ?_; refine iE ?_))) <;> conv => whnf)
        refine ⟨trivial, ?_⟩
        refine EndN.atC 1 ?_ rfl rfl rfl rfl (by first | rfl | (repeat' (first | rfl | refine bLtRow (row_allI _ _ _) ?_ | refine bLtRow (row_allB _ _ _) ?_ | refine bLtMp ?_ | refine bLtDead ?_ | refine bLtCells rfl ?_)))
        conv => whnf
        refine And.intro ?_ ?_ <;> conv => whnf
        all_goals repeat' ((first | (refine gV ?_; first | refine vE ?_ | refine vI ?_ | (refine WkN.sl ?_ ?_; (focus (simp [AV.norm, AV.norm1, hka, Ky.av]; done)))) | (refine gX ?_; refine xB ?_) | exact True.intro) <;> conv => whnf)
  · conv => whnf
    repeat' ((first | (refine gC ?_; (refine gD ?_; refine cJ ?_)) | refine RetP.nrm ?_) <;> conv => whnf)
    rfl
def allI (p : Pg) : List Pl := p.occs.map (ofI p (keysI p))
set_option maxRecDepth 100000 in
set_option maxHeartbeats 1000000 in
theorem planAll_ok {p : Pg} (hp : p.fit) (hl : p.occs.length ≤ 1000000) : Fun Tryz.prog 6 [p.av] (slA Pl.av (allI p)) := by
  have hpl := hp.few
  have hkl : (keysI p).length ≤ 100000 := by
    have := keysT_len p.rules p.rules.length
    unfold keysI; omega
  refine Fun.of (op_plan_All (by simp) ?_) rfl rfl
  conv => whnf
  conv => whnf
  repeat' ((first | (refine gF ?_; first | refine CallN.fn (keys_ok hp) ?_ | refine CallN.fn (all_ok hp.ok hp.few) ?_) | (refine gL ?_; refine .map ?_)) <;> conv => whnf)
  rw [allI]
  have hof := fun o => of_ok (o := o) hp hkl
  generalize keysI p = keys at *
  generalize p.occs = l at *
  refine LoopP.count (fb := true) (l.length) (fun st_ j => st_.sets [(4, .sl (.own 6) (((l.take j).map (ofI p keys)).map Pl.av)), (12, .int .i64 j)]) (fun _ => True) trivial ?_ (fun j hj _ => ?_) (fun _ => ?_)
  · refine EndN.at_ ?_ rfl
    conv => whnf
    refine And.intro ?_ ?_ <;> conv => whnf
    all_goals repeat' ((first | (refine gV ?_; first | refine vE ?_ | refine vI ?_ | ((refine gK ?_; refine vD ?_ ?_); (focus (simp [AV.norm, AV.norm1, ]; done)))) | (refine gX ?_; refine xB ?_) | exact True.intro) <;> conv => whnf)
  · obtain ⟨o, ho⟩ : ∃ o, l[j]? = some o := ⟨_, List.getElem?_eq_getElem hj⟩
    have hs : l.take (j + 1) = l.take j ++ [o] := by
      rw [List.take_succ_eq_append_getElem hj, (List.getElem?_eq_some_iff.1 ho).2]
    have htl := List.length_take_le j l
    have hml : (List.map (ofI p keys) (l.take j)).length ≤ j := by rw [List.length_map]; omega
    conv => whnf
    repeat' ((first | (refine gF ?_; refine CallN.fn (hof o) ?_) | (refine gC ?_; (refine gD ?_; refine cI ?_)) | (refine gW ?_; refine wI ?_) | (refine gN ?_; refine nS ?_) | (refine gI ?_; (refine gM ?_; refine iE ?_))) <;> conv => whnf)
    refine ⟨trivial, ?_⟩
    refine EndN.atC 1 ?_ rfl rfl rfl rfl (by first | rfl | (repeat' (first | rfl | refine bLtRow (row_allI _ _ _) ?_ | refine bLtRow (row_allB _ _ _) ?_ | refine bLtMp ?_ | refine bLtDead ?_ | refine bLtCells rfl ?_)))
    conv => whnf
    refine And.intro ?_ ?_ <;> conv => whnf
    all_goals repeat' ((first | (refine gV ?_; first | refine vE ?_ | refine vI ?_ | (refine WkN.sl ?_ ?_; (focus (simp [AV.norm, AV.norm1, hs, Pl.av]; done)))) | (refine gX ?_; refine xB ?_) | exact True.intro) <;> conv => whnf)
  · conv => whnf
    repeat' ((first | (refine gC ?_; (refine gD ?_; refine cJ ?_)) | refine RetP.nrm ?_) <;> conv => whnf)
    rw [List.take_length]
end Go.CK

set_option linter.unusedSimpArgs false
set_option linter.unusedVariables false
namespace Go.CK
open Go.AM Go.Proofs
def tV (n : Int) : Tm := .mk 1 n .empty []
set_option maxRecDepth 100000 in
theorem Var_ok {n : Int} : Fun Tryz.prog 32 [.int .i64 n] (tV n).avw := by
  refine Fun.of (op_constraintref03_Var (by simp) ?_) rfl rfl
  conv => whnf
  conv => whnf
  repeat' (refine RetP.nrm ?_ <;> conv => whnf)
  rfl
theorem plainTm : Plain Tm.av 4 := ⟨by decide, Tm.av_cells, fun x c hc => by
  rw [Tm.av_w] at hc
  simp only [Tm.avw, AV.cells, List.mem_cons, List.not_mem_nil, or_false] at hc
  rcases hc with rfl | rfl | rfl | rfl <;> rfl, fun x c hc => by
  rw [Tm.av_w] at hc
  simp only [Tm.avw, AV.cells, List.mem_cons, List.not_mem_nil, or_false] at hc
  rcases hc with rfl | rfl | rfl | rfl <;> rfl⟩
theorem aTm {e : List (Nat × AV)} {bs : List Box} {lo : Nat} {b m k : Nat} {l : List Tm} {o : Cap} {K : AV → St → Prop} (x : Tm) (h : ∀ k', (l ++ [x]).length ≤ k' → K (.bsl bs.length (l ++ [x]).length k') ⟨e, bs.set b .dead ++ [rowF Tm.av 4 k' (l ++ [x])], lo⟩) (hb : bs[b]? = some (rowF Tm.av 4 k l) := by first | rfl | assumption) (hm : m = l.length := by first | rfl | assumption) (hk : m ≤ k := by omega) (hlim : m + 1 ≤ 4294967296 := by first | omega | assumption) : AppN 4 ⟨e, bs, lo⟩ (.bsl b m k) (.sl o [x.avw]) K := by
  rw [← Tm.av_w]
  exact AppN.one (x := x) plainTm hb hm hk hlim h
def headV (name : ByteArray) (l : List Int) : At := ⟨name, l.map tV⟩
set_option maxRecDepth 100000 in
set_option maxHeartbeats 1000000 in
theorem head29_ok {name : ByteArray} {l : List Int} (hl : l.length ≤ 1000) : Fun Tryz.prog 12 [.str name, slA intA l] (headV name l).av := by
  refine Fun.of (op_constraintlaw29_head (by simp) ?_) rfl rfl
  conv => whnf
  conv => whnf
  skip
  refine LoopP.by (fb := true) (fun st_ (q : Nat × Nat) => ⟨(st_.sets [(6, .int .i64 q.1)]).env, [.cells [.str ⟨⟨[]⟩⟩, .sl .full []], .cells [.str name, .bsl 2 ((l.take q.1).map tV).length q.2], rowF Tm.av 4 q.2 ((l.take q.1).map tV)], 0⟩) (fun q => q.1 ≤ l.length ∧ ((l.take q.1).map tV).length ≤ q.2) (fun q => l.length - q.1) (0, 0) ⟨Nat.zero_le _, Nat.le_refl _⟩ ?_ ?_
  · refine EndN.toRowAt (.bx 1 1) rfl rfl ?_
    refine EndN.at_ ?_ rfl
    conv => whnf
    refine And.intro ?_ ?_ <;> conv => whnf
    all_goals repeat' ((first | (refine gV ?_; first | refine vE ?_ | refine vI ?_) | (refine gX ?_; first | refine xB ?_ | (refine BxN.mk ?_ ?_; (focus (simp [AV.norm, AV.norm1, cellsOf]; done)))) | exact True.intro) <;> conv => whnf)
  rintro ⟨k, kc⟩ ⟨hk0, hkc⟩
  dsimp only at hk0 hkc ⊢
  have hkl : ((l.take k).map tV).length = k := by rw [List.length_map, List.length_take]; omega
  by_cases hk : k < l.length
  · obtain ⟨h, hkh⟩ : ∃ h, l[k]? = some h := ⟨_, List.getElem?_eq_getElem hk⟩
    have htk : (l.take (k + 1)).map tV = (l.take k).map tV ++ [tV h] := by
      rw [List.take_succ_eq_append_getElem hk, (List.getElem?_eq_some_iff.1 hkh).2, List.map_append]; rfl
    conv => whnf
    repeat' ((first | (refine gG ?_; refine CallP.fn (Var_ok (n := h)) ?_) | (refine gC ?_; (refine gD ?_; refine cI ?_)) | (refine gL ?_; refine .map ?_) | (refine gI ?_; (refine gM ?_; refine iE ?_))) <;> conv => whnf)
    refine aTm (tV h) fun k' hk' => ?_
    conv => whnf
    repeat' ((refine gW ?_; refine wI ?_) <;> conv => whnf)
    refine ⟨(k + 1, k'), ⟨⟨hk, by rw [htk]; exact hk'⟩, by simp; omega⟩, ?_⟩
    dsimp only
    rw [htk]
    refine EndN.gcB plainTm [.cells [.str ⟨⟨[]⟩⟩, .sl .full []], .cells [.str name, .top]] [.dead] 1 1 _ rfl rfl rfl rfl rfl rfl ?_
    refine EndN.at_ ?_ rfl
    conv => whnf
    refine And.intro ?_ ?_ <;> conv => whnf
    all_goals repeat' ((first | (refine gV ?_; first | refine vE ?_ | refine vI ?_) | (refine gX ?_; first | refine xB ?_ | (refine BxN.mk ?_ ?_; (focus (simp [AV.norm, AV.norm1, ]; done)))) | exact True.intro) <;> conv => whnf)
  · obtain rfl : k = l.length := by omega
    rw [List.take_length]
    conv => whnf
    repeat' ((first | (refine gC ?_; (refine gD ?_; refine cJ ?_)) | (refine gL ?_; refine .map ?_)) <;> conv => whnf)
    refine RetP.frozeBx plainTm 0 1 rfl rfl rfl (Nat.le_refl _) ?_
    conv => whnf
    repeat' (refine RetP.nrm ?_ <;> conv => whnf)
    rw [List.take_length]
    rfl
/-- the plans of a program are right -/
theorem right_of {p : Pg} {keys : List Ky} {o : Oc} (h : o ∈ p.occs) : rightI p (ofI p keys o) = true := by
  obtain ⟨r, hr, h1, h2, h3, h4⟩ := occs_mem h
  have e : ofI p keys o = planI r o (orderT r keys o.head) := by rw [ofI, if_pos h, hr]
  rw [e]
  simp only [rightI, planI, h, hr, decide_true, Bool.true_and]
  rw [Bool.and_eq_true]
  exact ⟨decide_eq_true (sortL_eq.2 (orderT_perm h2 h3)), rfl⟩
def nE : ByteArray := ⟨⟨[101]⟩⟩
def nT : ByteArray := ⟨⟨[116]⟩⟩
def nA : ByteArray := ⟨⟨[97]⟩⟩
def nB : ByteArray := ⟨⟨[98]⟩⟩
def exR1 : Rl := ⟨.empty, [headV nE [0, 1], headV nE [1, 2], headV nT [0, 2]], [], [], [], 3⟩
def exR2 : Rl := ⟨.empty, [headV nA [0], headV nB [1, 2], headV nE [0, 1]], [], [], [], 3⟩
def exP : Pg := ⟨[], [exR1, exR2]⟩
def exK : Ky := ⟨nE, 2, [0]⟩
def exX : Pl := ⟨⟨0, 0, true⟩, [1, 2], [[0], [0, 1]], [[], [], [], []]⟩
def exY : Pl := ⟨⟨1, 0, true⟩, [2, 1], [[0], [0]], [[], [], [], []]⟩
theorem ex_x : ofI exP [] ⟨0, 0, true⟩ = exX := by rfl
theorem ex_y : ofI exP [exK] ⟨1, 0, true⟩ = exY := by rfl
theorem ex_s : scoreP exP [] 0 [0] 1 = 10 := by rfl
theorem ex_l : exP.occs.length = 6 := by rfl
theorem ex_in : (⟨0, 0, true⟩ : Oc) ∈ exP.occs := by decide
theorem ex_out : ¬ (⟨0, 0, false⟩ : Oc) ∈ exP.occs := by decide
theorem headV_ok : ∀ h ∈ [headV nE [0, 1], headV nE [1, 2], headV nT [0, 2], headV nA [0], headV nB [1, 2]], h.args.length ≤ 200 ∧ (Tm.vss h.args).length ≤ 200 ∧ ∀ t ∈ h.args, t.vs.length ≤ 200 := by decide
theorem ex_ok2 : ∀ r ∈ exP.rules, r.ok2 := fun r hr => by
  simp only [exP, List.mem_cons, List.not_mem_nil, or_false] at hr
  rcases hr with rfl | rfl
  · refine ⟨by decide, fun h hh => headV_ok h ?_⟩
    simp only [exR1, Rl.heads, List.append_nil, List.mem_cons, List.not_mem_nil, or_false] at hh ⊢
    rcases hh with rfl | rfl | rfl <;> simp
  · refine ⟨by decide, fun h hh => headV_ok h ?_⟩
    simp only [exR2, Rl.heads, List.append_nil, List.mem_cons, List.not_mem_nil, or_false] at hh ⊢
    rcases hh with rfl | rfl | rfl <;> simp
theorem ex_fit : exP.fit := by
  refine ⟨fun r hr => ⟨?_, Rl.heads_len r⟩, ex_ok2, fun r hr => ?_, by decide⟩
  · have := (ex_ok2 r hr).1; omega
  · simp only [exP, List.mem_cons, List.not_mem_nil, or_false] at hr
    rcases hr with rfl | rfl <;> exact ⟨by decide, fun g hg => by cases hg⟩
set_option maxRecDepth 100000 in
set_option maxHeartbeats 2000000 in
theorem example29_ok : Fun Tryz.prog 5 [] (.bool true) := by
  have h1 := head29_ok (name := nE) (l := [0, 1]) (by decide)
  have h2 := head29_ok (name := nE) (l := [1, 2]) (by decide)
  have h3 := head29_ok (name := nT) (l := [0, 2]) (by decide)
  have h4 := head29_ok (name := nA) (l := [0]) (by decide)
  have h5 := head29_ok (name := nB) (l := [1, 2]) (by decide)
  have hx := of_ok (p := exP) (keys := []) (o := ⟨0, 0, true⟩) ex_fit (by decide)
  rw [ex_x] at hx
  have hy := of_ok (p := exP) (keys := [exK]) (o := ⟨1, 0, true⟩) ex_fit (by decide)
  rw [ex_y] at hy
  have hr := right_ok (p := exP) (x := exX) ex_fit (by decide) (by decide) (by decide)
  rw [show rightI exP exX = true by rw [← ex_x]; exact right_of ex_in] at hr
  have hz := right_ok (p := exP) (x := Pl.zero) ex_fit (by decide) (by decide) (by decide)
  rw [show rightI exP Pl.zero = false by rw [rightI, decide_eq_false (show ¬ Pl.zero.occ ∈ exP.occs from ex_out)]; rfl] at hz
  have hs := planScore_ok (p := exP) (keys := []) (rule := 0) (done := [0]) (head := 1) ex_ok2 (by decide) (by decide)
  rw [ex_s] at hs
  have ha := planAll_ok (p := exP) ex_fit (by decide)
  have hal : (allI exP).length = 6 := by rw [allI, List.length_map, ex_l]
  have e1 := sameInts_ok (a := [1, 2]) (b := [1, 2])
  have e2 := sameInts_ok (a := [0, 1]) (b := [0, 1])
  have e3 := sameInts_ok (a := [2, 1]) (b := [2, 1])
  simp only [decide_true] at e1 e2 e3
  generalize allI exP = al at *
  simp only [slA, List.map_cons, List.map_nil, headV, nE, nT, nA, nB, exP, exR1, exR2, exK, exX, exY, Pl.zero, Ky.av, Oc.av, Pl.av, Pg.av, Rl.av, At.av, tV, Tm.av_w, Tm.avw, Tm.kind, Tm.num, Tm.name, Tm.args, intA] at h1 h2 h3 h4 h5 hx hy hr hz hs ha e1 e2 e3
  refine Fun.of (op_constraintlaw29_exampleHolds (by simp) ?_) rfl rfl
  conv => whnf
  conv => whnf
  repeat' ((first | (refine gF ?_; first | refine CallN.fn (h1) ?_ | refine CallN.fn (h2) ?_ | refine CallN.fn (h3) ?_ | refine CallN.fn (h4) ?_ | refine CallN.fn (h5) ?_ | refine CallN.fn (hx) ?_ | refine CallN.fn (hy) ?_ | refine CallN.fn (hr) ?_ | refine CallN.fn (hz) ?_ | refine CallN.fn (hs) ?_ | refine CallN.fn (ha) ?_ | refine CallN.fn (e1) ?_ | refine CallN.fn (e2) ?_ | refine CallN.fn (e3) ?_) | (refine gC ?_; first | refine cY ?_ | refine cN ?_ | refine .not ?_ | (refine gD ?_; first | refine cI ?_ | refine cId ?_)) | (refine gL ?_; first | refine .map ?_ | refine .any ?_) | (refine gI ?_; refine iJ ?_) | refine RetP.nrm ?_) <;> conv => whnf)
  rfl
end Go.CK

set_option linter.unusedSimpArgs false
set_option linter.unusedVariables false
namespace Go.CK
open Go.AM Go.Proofs
def kyLarge (k : Ky) : Bool := decide ((60 : Int) < k.name.size) || decide ((10 : Int) < k.positions.length)
def rlLarge (r : Rl) : Bool := decide ((6 : Int) < r.keep.length + r.remove.length)
def largeI (p : Pg) (keys : List Ky) : Bool := decide ((8 : Int) < p.rules.length) || (p.rules.any (gr1 p.rules.length 60) || (decide ((10 : Int) < keys.length) || (keys.any kyLarge || p.rules.any rlLarge)))
set_option maxRecDepth 100000 in
theorem large_ok {p : Pg} {keys : List Ky} : Fun Tryz.prog 4 [p.av, slA Ky.av keys] (.bool (largeI p keys)) := by
  refine Fun.assume rfl fun hg0 => ?_
  have hgp := Pg.good (hg0 p.av (by simp))
  refine Fun.of (op_constraintlaw29_large (by simp) ?_) rfl rfl
  conv => whnf
  conv => whnf
  repeat' ((first | (refine gF ?_; refine CallN.fn (greatRules_ok (l := p.rules) (most := 60) (by omega) (by omega)) ?_) | (refine gC ?_; first | refine cY ?_ | (refine gD ?_; first | refine cI ?_ | refine cJ ?_) | refine cYa ?_ | refine cNa ?_ | refine CondN.lt (fun hc => ?_) (fun hc => ?_) | refine CondN.any (fun hc => ?_) (fun hc => ?_)) | (refine gL ?_; refine .map ?_) | refine RetP.nrm ?_) <;> conv => whnf)
  · rw [largeI, decide_eq_true hc]; rfl
  · rw [largeI, hc]; simp
  · rw [largeI, decide_eq_true hc]; simp
  · rename_i q1 q2
    have e : largeI p keys = (keys.any kyLarge || p.rules.any rlLarge) := by
      rw [largeI, q2, decide_eq_false (by omega), decide_eq_false (by omega)]; rfl
    rw [e]
    refine LoopP.count (fb := true) (keys.length) (fun st_ j => st_.sets [(5, .int .i64 j)]) (fun j => ∀ i x, i < j → keys[i]? = some x → kyLarge x = false) ?_ ?_ (fun j hj hij => ?_) (fun hij => ?_)
    · exact no_zero
    · refine EndN.at_ ?_ rfl
      conv => whnf
      refine And.intro ?_ ?_ <;> conv => whnf
      all_goals repeat' ((first | (refine gV ?_; first | refine vE ?_ | refine vI ?_) | (refine gX ?_; refine xB ?_) | exact True.intro) <;> conv => whnf)
    · obtain ⟨y, hy⟩ : ∃ y, keys[j]? = some y := ⟨_, List.getElem?_eq_getElem hj⟩
      conv => whnf
      repeat' ((first | (refine gC ?_; first | refine cY ?_ | (refine gD ?_; first | refine cI ?_ | refine cJ ?_) | refine CondN.lt (fun hc => ?_) (fun hc => ?_)) | (refine gW ?_; refine wI ?_) | (refine gL ?_; refine .map ?_) | (refine gI ?_; (refine gM ?_; refine iE ?_)) | refine RetP.nrm ?_) <;> conv => whnf)
      · rw [any_at hy (by rw [kyLarge, decide_eq_true (by assumption)]; rfl)]; rfl
      · rw [any_at hy (by rw [kyLarge, decide_eq_true (show (10 : Int) < y.positions.length by assumption)]; simp)]; rfl
      · refine ⟨no_succ hij hy (by rw [kyLarge, decide_eq_false (by omega), decide_eq_false (by omega)]; rfl), ?_⟩
        refine EndN.at_ ?_ rfl
        conv => whnf
        refine And.intro ?_ ?_ <;> conv => whnf
        all_goals repeat' ((first | (refine gV ?_; first | refine vE ?_ | refine vI ?_) | (refine gX ?_; refine xB ?_) | exact True.intro) <;> conv => whnf)
    · rw [any_no hij, Bool.false_or]
      conv => whnf
      repeat' ((first | (refine gC ?_; (refine gD ?_; refine cJ ?_)) | (refine gL ?_; refine .map ?_)) <;> conv => whnf)
      refine LoopP.count (fb := true) (p.rules.length) (fun st_ j => st_.sets [(6, .int .i64 j)]) (fun j => ∀ i x, i < j → p.rules[i]? = some x → rlLarge x = false) ?_ ?_ (fun j hj hij => ?_) (fun hij => ?_)
      · exact no_zero
      · refine EndN.at_ ?_ rfl
        conv => whnf
        refine And.intro ?_ ?_ <;> conv => whnf
        all_goals repeat' ((first | (refine gV ?_; first | refine vE ?_ | refine vI ?_) | (refine gX ?_; refine xB ?_) | exact True.intro) <;> conv => whnf)
      · obtain ⟨y, hy⟩ : ∃ y, p.rules[j]? = some y := ⟨_, List.getElem?_eq_getElem hj⟩
        have hyg := Rl.good (hgp.2.2 y (List.mem_of_getElem? hy))
        conv => whnf
        repeat' ((first | (refine gC ?_; first | (refine gD ?_; refine cI ?_) | refine CondN.lt (fun hc => ?_) (fun hc => ?_)) | (refine gW ?_; refine wI ?_) | (refine gL ?_; refine .map ?_) | (refine gI ?_; (refine gM ?_; refine iE ?_)) | refine RetP.nrm ?_) <;> conv => whnf)
        · rw [any_at hy (decide_eq_true hc)]
        · refine ⟨no_succ hij hy (decide_eq_false (by omega)), ?_⟩
          refine EndN.at_ ?_ rfl
          conv => whnf
          refine And.intro ?_ ?_ <;> conv => whnf
          all_goals repeat' ((first | (refine gV ?_; first | refine vE ?_ | refine vI ?_) | (refine gX ?_; refine xB ?_) | exact True.intro) <;> conv => whnf)
      · conv => whnf
        repeat' ((first | (refine gC ?_; (refine gD ?_; refine cJ ?_)) | (refine gL ?_; refine .map ?_) | refine RetP.nrm ?_) <;> conv => whnf)
        rw [any_no hij]
theorem greatP_len : ∀ {l : List (List Tm × ByteArray)} {most : Int}, greatP l most = false → (l.length : Int) ≤ most
  | [], most, h => by simp [greatP] at h; simpa using h
  | a :: l, most, h => by
    rw [greatP] at h
    split at h
    · cases h
    · have h8 := tdiv8 a.2.size
      have h1 := greatP_len h
      have h2 := (weigh_vs (l := a.1) (left := most - 1 - (a.2.size : Int).tdiv 8) (deep := 64) (by omega)).2.2
      rw [List.length_cons]
      omega
theorem fit_of {p : Pg} {keys : List Ky} (h : largeI p keys = false) : p.fit ∧ p.rules.length ≤ 8 ∧ p.occs.length ≤ 1000000 ∧ keys.length ≤ 10 ∧ (∀ k ∈ keys, k.positions.length ≤ 10) ∧ ∀ r ∈ p.rules, r.heads.length ≤ 6 := by
  simp only [largeI, Bool.or_eq_false_iff, decide_eq_false_iff_not, List.any_eq_false, gr1, kyLarge, rlLarge, Bool.or_eq_true, decide_eq_true_eq, not_or] at h
  obtain ⟨h1, h2, h3, h4, h5⟩ := h
  have hr : ∀ r ∈ p.rules, r.ok2 ∧ r.okG := fun r hr => by
    obtain ⟨_, q1, hk, hm, hgd, _⟩ := h2 r hr
    have h6 := h5 r hr
    refine ⟨⟨by omega, fun g hg => ?_⟩, ?_, fun g hg => ?_⟩
    · have hg2 : (g.args.length : Int) ≤ 60 ∧ ((Tm.vss g.args).length : Int) ≤ 60 := by
        rcases List.mem_append.1 hg with h1 | h1
        · exact greatP_at (by simpa using hk) (at2 g) (List.mem_map.2 ⟨g, h1, rfl⟩)
        · exact greatP_at (by simpa using hm) (at2 g) (List.mem_map.2 ⟨g, h1, rfl⟩)
      exact ⟨by omega, by omega, fun t ht => by have := vss_mem ht; omega⟩
    · have := greatP_len (by simpa using hgd : greatP (r.guard.map gl2) _ = false)
      rw [List.length_map] at this
      omega
    · have := greatP_at (by simpa using hgd) (gl2 g) (List.mem_map.2 ⟨g, hg, rfl⟩)
      simp only [gl2] at this
      omega
  have hok : p.ok := fun r hr0 => ⟨by have := (hr r hr0).1.1; omega, Rl.heads_len r⟩
  refine ⟨⟨hok, fun r h => (hr r h).1, fun r h => (hr r h).2, by omega⟩, by omega, ?_, by omega, fun k hk => ?_, fun r h => ?_⟩
  · have := allY_len hok p.rules.length
    simp only [Pg.occs, List.length_map]
    omega
  · have := (h4 k hk).2; omega
  · have := h5 r h
    rw [Rl.heads_len]; omega
end Go.CK

