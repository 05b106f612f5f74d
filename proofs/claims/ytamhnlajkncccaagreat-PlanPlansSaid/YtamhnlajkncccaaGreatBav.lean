/-
  Texts of this claim joined (wip/gen/bundle.py), those declarations only that are needed: PlL PlM PlN PlO. By an AI agent.
-/
import Derived.Test.YtamhnlajkncccaaGreatBau
import Derived.Test.YtamhnlajkncccaaGreatBaq
set_option linter.unusedSimpArgs false
set_option linter.unusedVariables false
namespace Go.CK
open Go.AM Go.Proofs
set_option maxRecDepth 100000 in
set_option maxHeartbeats 1000000 in
theorem ready_ok {r : Rl} {done : List Int} {g : Gl} (hr : r.ok2) (hd : done.length ≤ 100) (hg : (Tm.vss g.args).length ≤ 100000) : Fun Tryz.prog 77 [r.av, slA intA done, g.av] (.bool (coversB (kvs r.heads done) g)) := by
  have hhl : r.heads.length ≤ 8 := by rw [Rl.heads_len]; exact hr.1
  have hal := argsOf_len (hs := r.heads) fun g hg => ⟨(hr.2 g hg).1, (hr.2 g hg).2.1⟩
  refine Fun.of (op_constraintref18_ready (by simp) ?_) rfl rfl
  conv => whnf
  conv => whnf
  repeat' ((refine gF ?_; refine CallN.fn (refHeads_ok (x := r) (by have := hr.1; omega)) ?_) <;> conv => whnf)
  refine LoopP.count (fb := true) done.length (fun st_ j => st_.sets [(8, .sl (.own 4) ((argsOf r.heads (done.take j)).map Tm.av)), (9, .int .i64 j)]) (fun _ => True) trivial ?_ (fun j hj _ => ?_) (fun _ => ?_)
  · refine EndN.at_ ?_ rfl
    conv => whnf
    refine And.intro ?_ ?_ <;> conv => whnf
    all_goals repeat' ((first | (refine gV ?_; first | refine vE ?_ | refine vI ?_ | ((refine gK ?_; refine vD ?_ ?_); (focus (simp [AV.norm, AV.norm1, argsOf]; done)))) | (refine gX ?_; refine xB ?_) | exact True.intro) <;> conv => whnf)
  · obtain ⟨k, hk⟩ : ∃ k, done[j]? = some k := ⟨_, List.getElem?_eq_getElem hj⟩
    have hal2 := (hal (done.take j)).1
    have htl := List.length_take_le' j done
    by_cases hv : 0 ≤ k ∧ k < r.heads.length
    · obtain ⟨h, hgk⟩ : ∃ h, r.heads[k.toNat]? = some h := ⟨_, List.getElem?_eq_getElem (by omega)⟩
      have hgo := (hr.2 h (List.mem_of_getElem? hgk)).1
      have hks := argsOf_yes hk hv.1 hgk
      conv => whnf
      repeat' ((first | (refine gC ?_; (refine gD ?_; refine cI ?_)) | (refine gW ?_; refine wI ?_) | (refine gL ?_; refine .map ?_) | (refine gN ?_; refine nS ?_) | (refine gI ?_; (refine gM ?_; first | refine iE ?_ | refine iF ?_))) <;> conv => whnf)
      refine ⟨trivial, ?_⟩
      refine EndN.atC 2 ?_ rfl rfl rfl rfl (by first | rfl | (repeat' (first | rfl | refine bLtRow (row_allI _ _ _) ?_ | refine bLtRow (row_allB _ _ _) ?_ | refine bLtMp ?_ | refine bLtDead ?_ | refine bLtCells rfl ?_)))
      conv => whnf
      refine And.intro ?_ ?_ <;> conv => whnf
      all_goals repeat' ((first | (refine gV ?_; first | refine vE ?_ | refine vI ?_ | (refine WkN.sl ?_ ?_; (focus (simp [AV.norm, AV.norm1, hks]; done)))) | (refine gX ?_; refine xB ?_) | exact True.intro) <;> conv => whnf)
    · have hks := argsOf_no (hs := r.heads) hk (by omega)
      conv => whnf
      repeat' ((first | (refine gC ?_; first | refine cN ?_ | (refine gD ?_; first | refine cI ?_ | refine cJ ?_) | refine CondN.le (fun hc => ?_) (fun hc => ?_)) | (refine gW ?_; refine wI ?_) | (refine gL ?_; refine .map ?_) | (refine gI ?_; (refine gM ?_; refine iE ?_))) <;> conv => whnf)
      · refine ⟨trivial, ?_⟩
        refine EndN.atC 2 ?_ rfl rfl rfl rfl (by first | rfl | (repeat' (first | rfl | refine bLtRow (row_allI _ _ _) ?_ | refine bLtRow (row_allB _ _ _) ?_ | refine bLtMp ?_ | refine bLtDead ?_ | refine bLtCells rfl ?_)))
        conv => whnf
        refine And.intro ?_ ?_ <;> conv => whnf
        all_goals repeat' ((first | (refine gV ?_; first | refine vE ?_ | refine vI ?_ | (refine WkN.sl ?_ ?_; (focus (simp [AV.norm, AV.norm1, hks]; done)))) | (refine gX ?_; refine xB ?_) | exact True.intro) <;> conv => whnf)
      · refine ⟨trivial, ?_⟩
        refine EndN.atC 2 ?_ rfl rfl rfl rfl (by first | rfl | (repeat' (first | rfl | refine bLtRow (row_allI _ _ _) ?_ | refine bLtRow (row_allB _ _ _) ?_ | refine bLtMp ?_ | refine bLtDead ?_ | refine bLtCells rfl ?_)))
        conv => whnf
        refine And.intro ?_ ?_ <;> conv => whnf
        all_goals repeat' ((first | (refine gV ?_; first | refine vE ?_ | refine vI ?_ | (refine WkN.sl ?_ ?_; (focus (simp [AV.norm, AV.norm1, hks]; done)))) | (refine gX ?_; refine xB ?_) | exact True.intro) <;> conv => whnf)
  · rw [List.take_length]
    have hal3 := (hal done).2
    conv => whnf
    repeat' ((first | (refine gF ?_; first | refine CallN.fn (varsOf_ok (l := argsOf r.heads done) (by omega)) ?_ | refine CallN.fn (refGoalVars_ok (x := g) hg) ?_) | (refine gC ?_; (refine gD ?_; refine cJ ?_)) | (refine gL ?_; refine .map ?_)) <;> conv => whnf)
    obtain ⟨kn, hkn⟩ : ∃ kn, kn = firsts (Tm.vss (argsOf r.heads done)) := ⟨_, rfl⟩
    have hgl : (firsts (Tm.vss g.args)).length ≤ 100000 := by
      have := addVs_len (Tm.vss g.args) []
      simp only [List.length_nil] at this
      unfold firsts; omega
    have hkl : kn.length ≤ 100000 := by
      have := addVs_len (Tm.vss (argsOf r.heads done)) []
      simp only [List.length_nil] at this
      rw [hkn]; unfold firsts; omega
    have hpt : coversB (kvs r.heads done) g = (firsts (Tm.vss g.args)).all fun v => decide (v ∈ kn) := by
      rw [hkn, coversB]
      refine congrArg (fun f => List.all (firsts (Tm.vss g.args)) f) (funext fun v => ?_)
      rw [Bool.eq_iff_iff, decide_eq_true_eq, decide_eq_true_eq]
      exact (argsOf_kvs r.heads done v).symm
    rw [← hkn, hpt]
    generalize firsts (Tm.vss g.args) = t at *
    refine LoopP.count (fb := true) (t.length) (fun st_ j => st_.sets [(12, .int .i64 j)]) (fun j => ∀ i x, i < j → t[i]? = some x → decide (x ∈ kn) = true) ?_ ?_ (fun j hj hij => ?_) (fun hij => ?_)
    · intro i _ hi; omega
    · refine EndN.at_ ?_ rfl
      conv => whnf
      refine And.intro ?_ ?_ <;> conv => whnf
      all_goals repeat' ((first | (refine gV ?_; first | refine vE ?_ | refine vI ?_) | (refine gX ?_; refine xB ?_) | exact True.intro) <;> conv => whnf)
    · obtain ⟨y, hy⟩ : ∃ y, t[j]? = some y := ⟨_, List.getElem?_eq_getElem hj⟩
      conv => whnf
      repeat' ((first | (refine gC ?_; (refine gD ?_; refine cI ?_)) | (refine gL ?_; refine .map ?_)) <;> conv => whnf)
      refine LoopP.count (fb := true) kn.length (fun st_ k => st_.sets [(13, .bool (decide (y ∈ kn.take k))), (14, .int .i64 k)]) (fun _ => True) trivial ?_ (fun k hk _ => ?_) (fun _ => ?_)
      · refine EndN.at_ ?_ rfl
        conv => whnf
        refine And.intro ?_ ?_ <;> conv => whnf
        all_goals repeat' ((first | (refine gV ?_; first | refine vE ?_ | refine vI ?_ | (refine WkN.norm ?_ ?_; (focus (simp [AV.norm, AV.norm1, ]; done)))) | (refine gX ?_; refine xB ?_) | exact True.intro) <;> conv => whnf)
      · obtain ⟨z, hz⟩ : ∃ z, kn[k]? = some z := ⟨_, List.getElem?_eq_getElem hk⟩
        have htk : kn.take (k + 1) = kn.take k ++ [z] := by
          rw [List.take_succ_eq_append_getElem hk, (List.getElem?_eq_some_iff.1 hz).2]
        have e1 : y ∈ kn.take k → true = decide (y ∈ kn.take (k + 1)) := fun h => by rw [htk]; simp [h]
        have e2 : ¬ y ∈ kn.take k → decide (z = y) = decide (y ∈ kn.take (k + 1)) := fun h => by rw [htk]; simp [h, eq_comm]
        conv => whnf
        repeat' ((first | (refine gC ?_; first | (refine gD ?_; first | refine cI ?_ | refine cJ ?_) | refine CondN.dec (fun hc => ?_) (fun hc => ?_)) | (refine gW ?_; refine wI ?_) | (refine gL ?_; refine .map ?_) | (refine gI ?_; (refine gM ?_; refine iE ?_))) <;> conv => whnf)
        · have e3 := e1 hc
          refine ⟨trivial, ?_⟩
          refine EndN.at_ ?_ rfl
          conv => whnf
          refine And.intro ?_ ?_ <;> conv => whnf
          all_goals repeat' ((first | (refine gV ?_; first | refine vE ?_ | refine vI ?_ | refine vB ?_) | (refine gX ?_; refine xB ?_) | exact True.intro) <;> conv => whnf)
        · have e3 := e2 hc
          refine ⟨trivial, ?_⟩
          refine EndN.at_ ?_ rfl
          conv => whnf
          refine And.intro ?_ ?_ <;> conv => whnf
          all_goals repeat' ((first | (refine gV ?_; first | refine vE ?_ | refine vI ?_ | refine vB ?_) | (refine gX ?_; refine xB ?_) | exact True.intro) <;> conv => whnf)
      · rw [List.take_length]
        conv => whnf
        repeat' ((first | (refine gC ?_; first | refine .not ?_ | (refine gD ?_; refine cJ ?_) | refine CondN.dec (fun hc => ?_) (fun hc => ?_)) | (refine gW ?_; refine wI ?_) | (refine gL ?_; refine .map ?_) | refine RetP.nrm ?_) <;> conv => whnf)
        · refine ⟨yes_succ hij hy (decide_eq_true hc), ?_⟩
          refine EndN.at_ ?_ rfl
          conv => whnf
          refine And.intro ?_ ?_ <;> conv => whnf
          all_goals repeat' ((first | (refine gV ?_; first | refine vE ?_ | refine vI ?_) | (refine gX ?_; refine xB ?_) | exact True.intro) <;> conv => whnf)
        · rw [all_no hy (decide_eq_false hc)]
    · conv => whnf
      repeat' ((first | (refine gC ?_; (refine gD ?_; refine cJ ?_)) | (refine gL ?_; refine .map ?_) | refine RetP.nrm ?_) <;> conv => whnf)
      rw [all_yes hij]
end Go.CK

set_option linter.unusedSimpArgs false
set_option linter.unusedVariables false
namespace Go.CK
open Go.AM Go.Proofs
/-- the places among the first j elements at which p holds -/
def idxP {α : Type} (p : α → Bool) (l : List α) : Nat → List Int
  | 0 => []
  | j + 1 => idxP p l j ++ match l[j]? with
    | none => []
    | some x => if p x then [(j : Int)] else []
theorem idxP_yes {α : Type} {p : α → Bool} {l : List α} {j : Nat} {t : α} (h : l[j]? = some t) (hp : p t = true) : idxP p l (j + 1) = idxP p l j ++ [(j : Int)] := by simp [idxP, h, hp]
theorem idxP_no {α : Type} {p : α → Bool} {l : List α} {j : Nat} {t : α} (h : l[j]? = some t) (hp : p t = false) : idxP p l (j + 1) = idxP p l j := by simp [idxP, h, hp]
theorem idxP_len {α : Type} (p : α → Bool) (l : List α) : ∀ j, (idxP p l j).length ≤ j
  | 0 => Nat.le_refl _
  | j + 1 => by
    have := idxP_len p l j
    simp only [idxP, List.length_append]
    split
    · simp; omega
    · split <;> simp <;> omega
def readyI (r : Rl) (done : List Int) : List Int := idxP (coversB (kvs r.heads done)) r.guard r.guard.length
/-- the guard is not large -/
def Rl.okG (r : Rl) : Prop := r.guard.length ≤ 100000 ∧ ∀ g ∈ r.guard, (Tm.vss g.args).length ≤ 100000
/-- what becomes ready with the k-th of these heads -/
def newP (r : Rl) (order : List Int) : Nat → Gl → Bool
  | 0 => coversB (kvs r.heads [])
  | k + 1 => fun g => coversB (kvs r.heads (order.take (k + 1))) g && !coversB (kvs r.heads (order.take k)) g
def newI (r : Rl) (order : List Int) (k : Nat) : List Int := idxP (newP r order k) r.guard r.guard.length
def placeT (r : Rl) (order : List Int) : Nat → List (List Int)
  | 0 => []
  | k + 1 => placeT r order k ++ [newI r order k]
def placeI (r : Rl) (order : List Int) : List (List Int) := placeT r order (order.length + 1)
theorem placeT_len (r : Rl) (order : List Int) : ∀ k, (placeT r order k).length = k
  | 0 => rfl
  | k + 1 => by simp [placeT, placeT_len r order k]
def intsA (l : List Int) : AV := slA intA l
set_option maxRecDepth 100000 in
theorem refReady_ok {r : Rl} {done : List Int} (hr : r.ok2) (hg : r.okG) (hd : done.length ≤ 100) : Fun Tryz.prog 76 [r.av, slA intA done] (slA intA (readyI r done)) := by
  refine Fun.of (op_constraintref18_Ready (by simp) ?_) rfl rfl
  conv => whnf
  conv => whnf
  skip
  refine LoopP.count (fb := true) (r.guard.length) (fun st_ j => st_.sets [(5, .sl (.own 1) ((idxP (coversB (kvs r.heads done)) r.guard j).map intA)), (6, .int .i64 j)]) (fun _ => True) trivial ?_ (fun j hj _ => ?_) (fun _ => ?_)
  · refine EndN.at_ ?_ rfl
    conv => whnf
    refine And.intro ?_ ?_ <;> conv => whnf
    all_goals repeat' ((first | (refine gV ?_; first | refine vE ?_ | refine vI ?_ | ((refine gK ?_; refine vD ?_ ?_); (focus (simp [AV.norm, AV.norm1, idxP]; done)))) | (refine gX ?_; refine xB ?_) | exact True.intro) <;> conv => whnf)
  · obtain ⟨g, hgj⟩ : ∃ g, r.guard[j]? = some g := ⟨_, List.getElem?_eq_getElem hj⟩
    have hgg := hg.2 g (List.mem_of_getElem? hgj)
    have hl := idxP_len (coversB (kvs r.heads done)) r.guard j
    have hgl := hg.1
    cases hc : coversB (kvs r.heads done) g with
    | true =>
      have hs := idxP_yes hgj hc
      conv => whnf
      repeat' ((first | (refine gG ?_; refine CallP.fn (ready_ok (g := g) hr hd hgg) ?_) | (refine gC ?_; first | (refine gD ?_; refine cI ?_) | refine cYa ?_) | (refine gW ?_; refine wI ?_) | (refine gL ?_; refine .map ?_) | (refine gN ?_; refine nS ?_) | (refine gI ?_; (refine gM ?_; refine iE ?_))) <;> conv => whnf)
      refine ⟨trivial, ?_⟩
      refine EndN.at_ ?_ rfl
      conv => whnf
      refine And.intro ?_ ?_ <;> conv => whnf
      all_goals repeat' ((first | (refine gV ?_; first | refine vE ?_ | refine vI ?_ | (refine WkN.sl ?_ ?_; (focus (simp [AV.norm, AV.norm1, hs]; done)))) | (refine gX ?_; refine xB ?_) | exact True.intro) <;> conv => whnf)
    | false =>
      have hs := idxP_no hgj hc
      conv => whnf
      repeat' ((first | (refine gG ?_; refine CallP.fn (ready_ok (g := g) hr hd hgg) ?_) | (refine gC ?_; first | (refine gD ?_; refine cI ?_) | refine cNa ?_) | (refine gW ?_; refine wI ?_) | (refine gL ?_; refine .map ?_) | (refine gI ?_; (refine gM ?_; refine iE ?_))) <;> conv => whnf)
      refine ⟨trivial, ?_⟩
      refine EndN.at_ ?_ rfl
      conv => whnf
      refine And.intro ?_ ?_ <;> conv => whnf
      all_goals repeat' ((first | (refine gV ?_; first | refine vE ?_ | refine vI ?_ | (refine WkN.sl ?_ ?_; (focus (simp [AV.norm, AV.norm1, hs]; done)))) | (refine gX ?_; refine xB ?_) | exact True.intro) <;> conv => whnf)
  · conv => whnf
    repeat' ((first | (refine gC ?_; (refine gD ?_; refine cJ ?_)) | (refine gL ?_; refine .map ?_) | refine RetP.nrm ?_) <;> conv => whnf)
    rfl
set_option maxRecDepth 100000 in
theorem refReady0_ok {r : Rl} (hr : r.ok2) (hg : r.okG) : Fun Tryz.prog 76 [r.av, .sl .no []] (slA intA (newI r [] 0)) := refReady_ok (done := []) hr hg (by simp)
theorem slA_take {l : List Int} {n : Int} {m : Nat} (h : n.toNat = m) : AV.sl .no (List.drop (Int.toNat 0) (List.take n.toNat (l.map intA))) = slA intA (l.take m) := by
  subst h
  simp only [Int.toNat_zero, List.drop_zero, slA, List.map_take]
theorem ready_take {r : Rl} {order : List Int} {g : Gl} {n : Int} (m : Nat) (hr : r.ok2) (hd : order.length ≤ 100) (hg : (Tm.vss g.args).length ≤ 100000) (hn : n.toNat = m) : Fun Tryz.prog 77 [r.av, .sl .no (List.drop (Int.toNat 0) (List.take n.toNat (order.map intA))), g.av] (.bool (coversB (kvs r.heads (order.take m)) g)) := by
  rw [slA_take hn]
  exact ready_ok hr (by rw [List.length_take]; omega) hg
set_option maxRecDepth 100000 in
theorem refPlace_ok {r : Rl} {order : List Int} (hr : r.ok2) (hg : r.okG) (hd : order.length ≤ 100) : Fun Tryz.prog 55 [r.av, slA intA order] (slA intsA (placeI r order)) := by
  refine Fun.of (op_constraintref18_Place (by simp) ?_) rfl rfl
  conv => whnf
  conv => whnf
  repeat' ((refine gF ?_; refine CallN.fn (refReady0_ok hr hg) ?_) <;> conv => whnf)
  refine LoopP.count (fb := true) (order.length) (fun st_ k => st_.sets [(5, .sl (.own 1) ((placeT r order (k + 1)).map intsA)), (6, .int .i64 (k + 1))]) (fun _ => True) trivial ?_ (fun k hk _ => ?_) (fun _ => ?_)
  · have e0 : [AV.sl Cap.no ((newI r [] 0).map intA)] = (placeT r order (0 + 1)).map intsA := rfl
    refine EndN.at_ ?_ rfl
    conv => whnf
    refine And.intro ?_ ?_ <;> conv => whnf
    all_goals repeat' ((first | (refine gV ?_; first | refine vE ?_ | refine vI ?_ | ((refine gK ?_; refine vD ?_ ?_); (focus (simp [AV.norm, AV.norm1, e0]; done)))) | (refine gX ?_; refine xB ?_) | exact True.intro) <;> conv => whnf)
  · have hpl := placeT_len r order (k + 1)
    have hgl := hg.1
    conv => whnf
    repeat' ((first | (refine gC ?_; (refine gD ?_; refine cI ?_)) | (refine gL ?_; refine .map ?_)) <;> conv => whnf)
    refine LoopP.count (fb := true) (r.guard.length) (fun st_ j => st_.sets [(7, .sl (.own 1) ((idxP (newP r order (k + 1)) r.guard j).map intA)), (8, .int .i64 j)]) (fun _ => True) trivial ?_ (fun j hj _ => ?_) (fun _ => ?_)
    · refine EndN.at_ ?_ rfl
      conv => whnf
      refine And.intro ?_ ?_ <;> conv => whnf
      all_goals repeat' ((first | (refine gV ?_; first | refine vE ?_ | refine vI ?_ | ((refine gK ?_; refine vD ?_ ?_); (focus (simp [AV.norm, AV.norm1, idxP]; done)))) | (refine gX ?_; refine xB ?_) | exact True.intro) <;> conv => whnf)
    · obtain ⟨g, hgj⟩ : ∃ g, r.guard[j]? = some g := ⟨_, List.getElem?_eq_getElem hj⟩
      have hgg := hg.2 g (List.mem_of_getElem? hgj)
      have hl := idxP_len (newP r order (k + 1)) r.guard j
      cases h1 : coversB (kvs r.heads (order.take (k + 1))) g with
      | true =>
        cases h2 : coversB (kvs r.heads (order.take k)) g with
        | true =>
          have hs := idxP_no hgj (show newP r order (k + 1) g = false by simp only [newP, h1, h2]; rfl)
          conv => whnf
          repeat' ((first | (refine gG ?_; first | refine CallP.fn (ready_take (g := g) (k + 1) hr hd hgg (by omega)) ?_ | refine CallP.fn (ready_take (g := g) k hr hd hgg (by omega)) ?_) | (refine gC ?_; first | refine .not ?_ | (refine gD ?_; refine cI ?_) | refine cYa ?_) | (refine gW ?_; refine wI ?_) | (refine gL ?_; refine .map ?_) | (refine gN ?_; refine nS ?_) | (refine gI ?_; (refine gM ?_; refine iE ?_))) <;> conv => whnf)
          refine ⟨trivial, ?_⟩
          refine EndN.at_ ?_ rfl
          conv => whnf
          refine And.intro ?_ ?_ <;> conv => whnf
          all_goals repeat' ((first | (refine gV ?_; first | refine vE ?_ | refine vI ?_ | (refine WkN.sl ?_ ?_; (focus (simp [AV.norm, AV.norm1, hs]; done)))) | (refine gX ?_; refine xB ?_) | exact True.intro) <;> conv => whnf)
        | false =>
          have hs := idxP_yes hgj (show newP r order (k + 1) g = true by simp only [newP, h1, h2]; rfl)
          conv => whnf
          repeat' ((first | (refine gG ?_; first | refine CallP.fn (ready_take (g := g) (k + 1) hr hd hgg (by omega)) ?_ | refine CallP.fn (ready_take (g := g) k hr hd hgg (by omega)) ?_) | (refine gC ?_; first | refine .not ?_ | (refine gD ?_; refine cI ?_) | refine cYa ?_ | refine cNa ?_) | (refine gW ?_; refine wI ?_) | (refine gL ?_; refine .map ?_) | (refine gN ?_; refine nS ?_) | (refine gI ?_; (refine gM ?_; refine iE ?_))) <;> conv => whnf)
          refine ⟨trivial, ?_⟩
          refine EndN.at_ ?_ rfl
          conv => whnf
          refine And.intro ?_ ?_ <;> conv => whnf
          all_goals repeat' ((first | (refine gV ?_; first | refine vE ?_ | refine vI ?_ | (refine WkN.sl ?_ ?_; (focus (simp [AV.norm, AV.norm1, hs]; done)))) | (refine gX ?_; refine xB ?_) | exact True.intro) <;> conv => whnf)
      | false =>
        have hs := idxP_no hgj (show newP r order (k + 1) g = false by simp only [newP, h1]; rfl)
        conv => whnf
        repeat' ((first | (refine gG ?_; refine CallP.fn (ready_take (g := g) (k + 1) hr hd hgg (by omega)) ?_) | (refine gC ?_; first | refine cN ?_ | (refine gD ?_; refine cI ?_) | refine cNa ?_) | (refine gW ?_; refine wI ?_) | (refine gL ?_; refine .map ?_) | (refine gN ?_; refine nS ?_) | (refine gI ?_; (refine gM ?_; refine iE ?_))) <;> conv => whnf)
        refine ⟨trivial, ?_⟩
        refine EndN.at_ ?_ rfl
        conv => whnf
        refine And.intro ?_ ?_ <;> conv => whnf
        all_goals repeat' ((first | (refine gV ?_; first | refine vE ?_ | refine vI ?_ | (refine WkN.sl ?_ ?_; (focus (simp [AV.norm, AV.norm1, hs]; done)))) | (refine gX ?_; refine xB ?_) | exact True.intro) <;> conv => whnf)
    · conv => whnf
      repeat' ((first | (refine gC ?_; (refine gD ?_; refine cJ ?_)) | (refine gW ?_; refine wI ?_) | (refine gL ?_; refine .map ?_) | (refine gN ?_; refine nS ?_)) <;> conv => whnf)
      refine ⟨trivial, ?_⟩
      have e1 : (placeT r order (k + 1)).map intsA ++ [AV.sl Cap.no ((idxP (newP r order (k + 1)) r.guard r.guard.length).map intA)] = (placeT r order (k + 1 + 1)).map intsA := by
        simp only [placeT, List.map_append, List.map_cons, List.map_nil]; rfl
      refine EndN.at_ ?_ rfl
      conv => whnf
      refine And.intro ?_ ?_ <;> conv => whnf
      all_goals repeat' ((first | (refine gV ?_; first | refine vE ?_ | refine vI ?_ | (refine WkN.sl ?_ ?_; (focus (simp [AV.norm, AV.norm1, e1]; done)))) | (refine gX ?_; refine xB ?_) | exact True.intro) <;> conv => whnf)
  · conv => whnf
    repeat' ((first | (refine gC ?_; (refine gD ?_; refine cJ ?_)) | (refine gL ?_; refine .map ?_) | refine RetP.nrm ?_) <;> conv => whnf)
    rfl
end Go.CK

set_option linter.unusedSimpArgs false
set_option linter.unusedVariables false
namespace Go.CK
open Go.AM Go.Proofs
/-- what is placed, after i of the tests have been looked at behind k heads -/
def placedL (r : Rl) (order : List Int) : Nat → List Bool
  | 0 => List.replicate r.guard.length false
  | k + 1 => r.guard.map (coversB (kvs r.heads (order.take k)))
def placedI (r : Rl) (order : List Int) (k i : Nat) : List Bool := (placedL r order (k + 1)).take i ++ (placedL r order k).drop i
theorem placedL_len (r : Rl) (order : List Int) : ∀ k, (placedL r order k).length = r.guard.length
  | 0 => by simp [placedL]
  | k + 1 => by simp [placedL]
theorem step_list {α : Type} {A B : List α} {j : Nat} {a : α} (h : A[j]? = some a) (hl : A.length = B.length) : A.take (j + 1) ++ B.drop (j + 1) = (A.take j ++ B.drop j).set j a := by
  obtain ⟨hj, rfl⟩ := List.getElem?_eq_some_iff.1 h
  rw [List.set_append_right _ _ (by rw [List.length_take]; omega), List.length_take, Nat.min_eq_left (by omega), Nat.sub_self, List.drop_eq_getElem_cons (show j < B.length by omega), List.set_cons_zero, List.take_succ_eq_append_getElem hj, List.append_assoc]
  rfl
theorem step_at {α : Type} {A B : List α} {j : Nat} {b : α} (h : B[j]? = some b) (hl : A.length = B.length) : (A.take j ++ B.drop j)[j]? = some b := by
  have hj : j < B.length := (List.getElem?_eq_some_iff.1 h).1
  rw [List.getElem?_append_right (by rw [List.length_take]; omega), List.length_take, Nat.min_eq_left (by omega), Nat.sub_self, List.getElem?_drop, Nat.add_zero, h]
def prevP (r : Rl) (order : List Int) : Nat → Gl → Bool
  | 0, _ => false
  | k + 1, g => coversB (kvs r.heads (order.take k)) g
theorem newP_prev (r : Rl) (order : List Int) (k : Nat) (g : Gl) : newP r order k g = (coversB (kvs r.heads (order.take k)) g && !prevP r order k g) := by
  cases k with
  | zero => simp [newP, prevP]
  | succ k => rfl
theorem placedL_at {r : Rl} {order : List Int} {j : Nat} {g : Gl} (h : r.guard[j]? = some g) : ∀ k, (placedL r order k)[j]? = some (prevP r order k g)
  | 0 => by
    have := (List.getElem?_eq_some_iff.1 h).1
    simp [placedL, prevP, this]
  | k + 1 => by simp [placedL, prevP, h]
theorem placedI_at {r : Rl} {order : List Int} {j : Nat} {g : Gl} (k : Nat) (h : r.guard[j]? = some g) : (placedI r order k j)[j]? = some (prevP r order k g) :=
  step_at (placedL_at h k) (by rw [placedL_len, placedL_len])
theorem placedI_step {r : Rl} {order : List Int} {j : Nat} {g : Gl} (k : Nat) (h : r.guard[j]? = some g) : placedI r order k (j + 1) = (placedI r order k j).set j (coversB (kvs r.heads (order.take k)) g) :=
  step_list (placedL_at h (k + 1)) (by rw [placedL_len, placedL_len])
theorem covers_mono {xs ys : List Int} {g : Gl} (h : ∀ x ∈ xs, x ∈ ys) (hc : coversB xs g = true) : coversB ys g = true := by
  rw [coversB, List.all_eq_true] at hc ⊢
  exact fun x hx => decide_eq_true (h x (of_decide_eq_true (hc x hx)))
theorem prev_covers {r : Rl} {order : List Int} {g : Gl} : ∀ {k : Nat}, prevP r order k g = true → coversB (kvs r.heads (order.take k)) g = true
  | 0, h => by cases h
  | k + 1, h => covers_mono (fun x hx => by
    have := kvs_take_mem (hs := r.heads) (done := order.take (k + 1)) (i := k) (x := x)
    rw [List.take_take, Nat.min_eq_left (Nat.le_succ k)] at this
    exact this hx) h
theorem placedI_len (r : Rl) (order : List Int) (k j : Nat) : (placedI r order k j).length = r.guard.length := by
  simp only [placedI, List.length_append, List.length_take, List.length_drop, placedL_len]
  omega
theorem placedI_same {r : Rl} {order : List Int} {j : Nat} {g : Gl} (k : Nat) (h : r.guard[j]? = some g) (e : coversB (kvs r.heads (order.take k)) g = prevP r order k g) : placedI r order k (j + 1) = placedI r order k j := by
  rw [placedI_step k h, e, set_same (placedI_at k h)]
theorem place_facts {r : Rl} {order : List Int} {j : Nat} {g : Gl} (k : Nat) (h : r.guard[j]? = some g) (hgg : (Tm.vss g.args).length ≤ 100000) : ∃ pv cv : Bool, (placedI r order k j)[j]? = some pv ∧
    ((pv = true → idxP (newP r order k) r.guard (j + 1) = idxP (newP r order k) r.guard j) ∧ (pv = false ∧ cv = true → idxP (newP r order k) r.guard (j + 1) = idxP (newP r order k) r.guard j ++ [(j : Int)]) ∧ (pv = false ∧ cv = false → idxP (newP r order k) r.guard (j + 1) = idxP (newP r order k) r.guard j)) ∧
    ((pv = true → placedI r order k (j + 1) = placedI r order k j) ∧ (pv = false ∧ cv = true → placedI r order k (j + 1) = (placedI r order k j).set j true) ∧ (pv = false ∧ cv = false → placedI r order k (j + 1) = placedI r order k j)) ∧
    ∀ {bs : List Box} {b : Nat}, boxesLt bs.length bs = true → bs[b]? = some (.mp (msOf (.bool true) (kvs r.heads (order.take k)))) → AM.Sem Tryz.prog 70 [.mpt b, g.av] bs fun r bs' => r = .bool cv ∧ bs' = bs := by
  refine ⟨prevP r order k g, coversB (kvs r.heads (order.take k)) g, placedI_at k h, ⟨fun h1 => idxP_no h ?_, fun ⟨h1, h2⟩ => idxP_yes h ?_, fun ⟨h1, h2⟩ => idxP_no h ?_⟩, ⟨fun h1 => placedI_same k h ?_, fun ⟨h1, h2⟩ => ?_, fun ⟨h1, h2⟩ => placedI_same k h ?_⟩, fun hb h1 => covers_ok hgg hb h1⟩
  · rw [newP_prev, h1, prev_covers h1]; rfl
  · rw [newP_prev, h1, h2]; rfl
  · rw [newP_prev, h1, h2]; rfl
  · rw [h1, prev_covers h1]
  · rw [placedI_step k h, h2]
  · rw [h1, h2]
set_option maxRecDepth 100000 in
set_option maxHeartbeats 4000000 in
theorem place_ok {r : Rl} {order : List Int} (hr : r.ok2) (hg : r.okG) (hd : order.length ≤ 100) : Fun Tryz.prog 51 [r.av, slA intA order] (slA intsA (placeI r order)) := by
  have hgl := hg.1
  obtain ⟨rc, hrc⟩ : ∃ rc, rc = [AV.str r.name, .sl .no (r.keep.map At.av), .sl .no (r.remove.map At.av), .sl .no (r.guard.map Gl.av), .sl .no (r.body.map Gl.av), .int .i64 r.vars] := ⟨_, rfl⟩
  refine Fun.of (op_guard_Place (by simp) ?_) rfl rfl
  conv => whnf
  conv => whnf
  repeat' ((first | (refine gF ?_; refine CallN.fn (heads_ok (x := r) (by have := hr.1; omega)) ?_) | (refine gW ?_; refine wI ?_) | (refine gL ?_; refine .map ?_) | (refine gN ?_; refine nS ?_) | (refine gMk ?_; refine mBb ?_)) <;> conv => whnf)
  refine LoopP.count (fb := true) order.length (fun st_ k => ⟨[(1, .sl .no (order.map intA)), (2, .ptr 0 0), (5, .sl .no (r.heads.map At.av)), (6, .mpt 1), (7, .bsl 2 r.guard.length r.guard.length), (8, .sl (.own 1) ((placeT r order k).map intsA)), (9, .int .i64 k)], [.cells [.str r.name, .sl .no (r.keep.map At.av), .sl .no (r.remove.map At.av), .sl .no (r.guard.map Gl.av), .sl .no (r.body.map Gl.av), .int .i64 r.vars], .mp (msOf (.bool true) (kvs r.heads (order.take k))), rowF AV.bool 1 r.guard.length (placedL r order k)], 0⟩) (fun _ => True) trivial ?_ (fun k hk _ => ?_) (fun _ => ?_)
  · refine EndN.at_ ?_ rfl
    conv => whnf
    refine And.intro ?_ ?_ <;> conv => whnf
    all_goals repeat' ((first | (refine gV ?_; first | refine vE ?_ | refine vI ?_ | (refine WkN.sl ?_ ?_; (focus (simp [AV.norm, AV.norm1, placeT, msOf, kvs, placedL]; done))) | (refine WkN.norm ?_ ?_; (focus (simp [AV.norm, AV.norm1, placeT, msOf, kvs, placedL]; done)))) | (refine gX ?_; first | refine xB ?_ | (refine BxN.mk ?_ ?_; (focus (simp [AV.norm, AV.norm1, placeT, msOf, kvs, placedL]; done)))) | exact True.intro) <;> conv => whnf)
  · obtain ⟨x, hx⟩ : ∃ x, order[k]? = some x := ⟨_, List.getElem?_eq_getElem hk⟩
    have htk : order.take (k + 1) = order.take k ++ [x] := by
      rw [List.take_succ_eq_append_getElem hk, (List.getElem?_eq_some_iff.1 hx).2]
    have hkv : kvs r.heads (order.take (k + 1)) = kvs r.heads (order.take k) ++ kvs r.heads [x] := by rw [htk, kvs_app]
    have hpn : placedI r order k r.guard.length = placedL r order (k + 1) := by
      rw [placedI, ← placedL_len r order (k + 1), List.take_length, placedL_len, ← placedL_len r order k, List.drop_length, List.append_nil]
    have hpt : (placeT r order k).map intsA ++ [AV.sl Cap.no ((idxP (newP r order k) r.guard r.guard.length).map intA)] = (placeT r order (k + 1)).map intsA := by
      simp only [placeT, List.map_append, List.map_cons, List.map_nil]; rfl
    have hpl := placeT_len r order k
    conv => whnf
    repeat' ((refine gL ?_; refine .map ?_) <;> conv => whnf)
    refine LoopP.count (fb := true) r.guard.length (fun st_ j => ⟨(st_.sets [(10, .sl (.own 1) ((idxP (newP r order k) r.guard j).map intA)), (29, .int .i64 j)]).env, [.cells [.str r.name, .sl .no (r.keep.map At.av), .sl .no (r.remove.map At.av), .sl .no (r.guard.map Gl.av), .sl .no (r.body.map Gl.av), .int .i64 r.vars], .mp (msOf (.bool true) (kvs r.heads (order.take k))), rowF AV.bool 1 r.guard.length (placedI r order k j)], 0⟩) (fun _ => True) trivial ?_ (fun j hj _ => ?_) (fun _ => ?_)
    · refine EndN.at_ ?_ rfl
      conv => whnf
      refine And.intro ?_ ?_ <;> conv => whnf
      all_goals repeat' ((first | (refine gV ?_; first | refine vE ?_ | refine vI ?_ | ((refine gK ?_; refine vD ?_ ?_); (focus (simp [AV.norm, AV.norm1, idxP, placedI]; done)))) | (refine gX ?_; first | refine xB ?_ | (refine BxN.mk ?_ ?_; (focus (simp [AV.norm, AV.norm1, idxP, placedI]; done)))) | exact True.intro) <;> conv => whnf)
    · obtain ⟨g, hgj⟩ : ∃ g, r.guard[j]? = some g := ⟨_, List.getElem?_eq_getElem hj⟩
      have hgg := hg.2 g (List.mem_of_getElem? hgj)
      have hl := idxP_len (newP r order k) r.guard j
      have hplen := placedI_len r order k j
      obtain ⟨pv, cv, hat, hs, hsb, hcov⟩ := place_facts (order := order) k hgj hgg
      generalize placedI r order k j = pj at *
      generalize placedI r order k (j + 1) = pj' at *
      generalize idxP (newP r order k) r.guard (j + 1) = ix' at *
      generalize idxP (newP r order k) r.guard j = ix at *
      cases pv with
      | true =>
        have hs := hs.1 rfl
        have hsb := hsb.1 rfl
        clear hcov
        conv => whnf
        repeat' ((first | (refine gC ?_; first | refine cY ?_ | refine cN ?_ | refine .not ?_ | (refine gD ?_; refine cI ?_)) | (refine gW ?_; refine wI ?_) | (refine gN ?_; refine nS ?_) | (refine gI ?_; (refine gM ?_; refine iE ?_)) | (refine gE ?_; refine eLb ?_)) <;> conv => whnf)
        refine ⟨trivial, ?_⟩
        refine EndN.atC 3 ?_ rfl rfl rfl rfl (by first | rfl | (repeat' (first | rfl | refine bLtRow (row_allI _ _ _) ?_ | refine bLtRow (row_allB _ _ _) ?_ | refine bLtMp ?_ | refine bLtDead ?_ | refine bLtCells rfl ?_)))
        conv => whnf
        refine And.intro ?_ ?_ <;> conv => whnf
        all_goals repeat' ((first | (refine gV ?_; first | refine vE ?_ | refine vI ?_ | (refine WkN.sl ?_ ?_; (focus (simp [AV.norm, AV.norm1, hs, hsb]; done)))) | (refine gX ?_; first | refine xB ?_ | (refine BxN.mk ?_ ?_; (focus (simp [AV.norm, AV.norm1, hs, hsb]; done)))) | exact True.intro) <;> conv => whnf)
      | false =>
        cases cv with
        | true =>
          have hs := hs.2.1 ⟨rfl, rfl⟩
          have hsb := hsb.2.1 ⟨rfl, rfl⟩
          conv => whnf
          repeat' ((first | (refine gF ?_; refine CallN.to (hcov (by first | rfl | (repeat' (first | rfl | refine bLtRow (row_allI _ _ _) ?_ | refine bLtRow (row_allB _ _ _) ?_ | refine bLtMp ?_ | refine bLtDead ?_ | refine bLtCells rfl ?_))) rfl) ?_) | (refine gC ?_; first | refine cY ?_ | refine cN ?_ | refine .not ?_ | (refine gD ?_; refine cI ?_)) | (refine gW ?_; refine wI ?_) | (refine gN ?_; refine nS ?_) | (refine gI ?_; (refine gM ?_; refine iE ?_)) | (refine gE ?_; refine eLb ?_) | (refine gS ?_; refine eSb ?_)) <;> conv => whnf)
          refine ⟨trivial, ?_⟩
          refine EndN.atC 3 ?_ rfl rfl rfl rfl (by first | rfl | (repeat' (first | rfl | refine bLtRow (row_allI _ _ _) ?_ | refine bLtRow (row_allB _ _ _) ?_ | refine bLtMp ?_ | refine bLtDead ?_ | refine bLtCells rfl ?_)))
          conv => whnf
          refine And.intro ?_ ?_ <;> conv => whnf
          all_goals repeat' ((first | (refine gV ?_; first | refine vE ?_ | refine vI ?_ | (refine WkN.sl ?_ ?_; (focus (simp [AV.norm, AV.norm1, hs, hsb]; done)))) | (refine gX ?_; first | refine xB ?_ | (refine BxN.mk ?_ ?_; (focus (simp [AV.norm, AV.norm1, hs, hsb]; done)))) | exact True.intro) <;> conv => whnf)
        | false =>
          have hs := hs.2.2 ⟨rfl, rfl⟩
          have hsb := hsb.2.2 ⟨rfl, rfl⟩
          conv => whnf
          repeat' ((first | (refine gF ?_; refine CallN.to (hcov (by first | rfl | (repeat' (first | rfl | refine bLtRow (row_allI _ _ _) ?_ | refine bLtRow (row_allB _ _ _) ?_ | refine bLtMp ?_ | refine bLtDead ?_ | refine bLtCells rfl ?_))) rfl) ?_) | (refine gC ?_; first | refine cN ?_ | refine .not ?_ | (refine gD ?_; refine cI ?_)) | (refine gW ?_; refine wI ?_) | (refine gN ?_; refine nS ?_) | (refine gI ?_; (refine gM ?_; refine iE ?_)) | (refine gE ?_; refine eLb ?_)) <;> conv => whnf)
          refine ⟨trivial, ?_⟩
          refine EndN.atC 3 ?_ rfl rfl rfl rfl (by first | rfl | (repeat' (first | rfl | refine bLtRow (row_allI _ _ _) ?_ | refine bLtRow (row_allB _ _ _) ?_ | refine bLtMp ?_ | refine bLtDead ?_ | refine bLtCells rfl ?_)))
          conv => whnf
          refine And.intro ?_ ?_ <;> conv => whnf
          all_goals repeat' ((first | (refine gV ?_; first | refine vE ?_ | refine vI ?_ | (refine WkN.sl ?_ ?_; (focus (simp [AV.norm, AV.norm1, hs, hsb]; done)))) | (refine gX ?_; first | refine xB ?_ | (refine BxN.mk ?_ ?_; (focus (simp [AV.norm, AV.norm1, hs, hsb]; done)))) | exact True.intro) <;> conv => whnf)
    conv => whnf
    repeat' ((first | (refine gF ?_; refine CallN.to (enter_ok (fun h hh => by have := (hr.2 h hh).2.1; omega) (by first | rfl | (repeat' (first | rfl | refine bLtRow (row_allI _ _ _) ?_ | refine bLtRow (row_allB _ _ _) ?_ | refine bLtMp ?_ | refine bLtDead ?_ | refine bLtCells rfl ?_))) rfl) ?_) | (refine gC ?_; (refine gD ?_; refine cJ ?_)) | (refine gW ?_; refine wI ?_) | (refine gL ?_; refine .map ?_) | (refine gN ?_; refine nS ?_) | (refine gI ?_; (refine gM ?_; refine iE ?_))) <;> conv => whnf)
    refine ⟨trivial, ?_⟩
    refine EndN.at_ ?_ rfl
    conv => whnf
    refine And.intro ?_ ?_ <;> conv => whnf
    all_goals repeat' ((first | (refine gV ?_; first | refine vE ?_ | refine vI ?_ | (refine WkN.sl ?_ ?_; (focus (simp [AV.norm, AV.norm1, hkv, hpn, hpt]; done)))) | (refine gX ?_; first | refine xB ?_ | (refine BxN.mk ?_ ?_; (focus (simp [AV.norm, AV.norm1, hkv, hpn, hpt]; done)))) | exact True.intro) <;> conv => whnf)
  · obtain ⟨k, hk⟩ : ∃ k, order.length = k := ⟨_, rfl⟩
    rw [hk]
    have hpt : (placeT r order k).map intsA ++ [AV.sl Cap.no ((idxP (newP r order k) r.guard r.guard.length).map intA)] = (placeI r order).map intsA := by
      rw [placeI, hk]
      simp only [placeT, List.map_append, List.map_cons, List.map_nil]; rfl
    have hpl := placeT_len r order k
    conv => whnf
    repeat' ((refine gL ?_; refine .map ?_) <;> conv => whnf)
    refine LoopP.count (fb := true) r.guard.length (fun st_ j => ⟨(st_.sets [(10, .sl (.own 1) ((idxP (newP r order k) r.guard j).map intA)), (29, .int .i64 j)]).env, [.cells [.str r.name, .sl .no (r.keep.map At.av), .sl .no (r.remove.map At.av), .sl .no (r.guard.map Gl.av), .sl .no (r.body.map Gl.av), .int .i64 r.vars], .mp (msOf (.bool true) (kvs r.heads (order.take k))), rowF AV.bool 1 r.guard.length (placedI r order k j)], 0⟩) (fun _ => True) trivial ?_ (fun j hj _ => ?_) (fun _ => ?_)
    · refine EndN.at_ ?_ rfl
      conv => whnf
      refine And.intro ?_ ?_ <;> conv => whnf
      all_goals repeat' ((first | (refine gV ?_; first | refine vE ?_ | refine vI ?_ | ((refine gK ?_; refine vD ?_ ?_); (focus (simp [AV.norm, AV.norm1, idxP, placedI]; done)))) | (refine gX ?_; first | refine xB ?_ | (refine BxN.mk ?_ ?_; (focus (simp [AV.norm, AV.norm1, idxP, placedI]; done)))) | exact True.intro) <;> conv => whnf)
    · obtain ⟨g, hgj⟩ : ∃ g, r.guard[j]? = some g := ⟨_, List.getElem?_eq_getElem hj⟩
      have hgg := hg.2 g (List.mem_of_getElem? hgj)
      have hl := idxP_len (newP r order k) r.guard j
      have hplen := placedI_len r order k j
      obtain ⟨pv, cv, hat, hs, hsb, hcov⟩ := place_facts (order := order) k hgj hgg
      generalize placedI r order k j = pj at *
      generalize placedI r order k (j + 1) = pj' at *
      generalize idxP (newP r order k) r.guard (j + 1) = ix' at *
      generalize idxP (newP r order k) r.guard j = ix at *
      cases pv with
      | true =>
        have hs := hs.1 rfl
        have hsb := hsb.1 rfl
        clear hcov
        conv => whnf
        repeat' ((first | (refine gC ?_; first | refine cY ?_ | refine cN ?_ | refine .not ?_ | (refine gD ?_; refine cI ?_)) | (refine gW ?_; refine wI ?_) | (refine gN ?_; refine nS ?_) | (refine gI ?_; (refine gM ?_; refine iE ?_)) | (refine gE ?_; refine eLb ?_)) <;> conv => whnf)
        refine ⟨trivial, ?_⟩
        refine EndN.atC 3 ?_ rfl rfl rfl rfl (by first | rfl | (repeat' (first | rfl | refine bLtRow (row_allI _ _ _) ?_ | refine bLtRow (row_allB _ _ _) ?_ | refine bLtMp ?_ | refine bLtDead ?_ | refine bLtCells rfl ?_)))
        conv => whnf
        refine And.intro ?_ ?_ <;> conv => whnf
        all_goals repeat' ((first | (refine gV ?_; first | refine vE ?_ | refine vI ?_ | (refine WkN.sl ?_ ?_; (focus (simp [AV.norm, AV.norm1, hs, hsb]; done)))) | (refine gX ?_; first | refine xB ?_ | (refine BxN.mk ?_ ?_; (focus (simp [AV.norm, AV.norm1, hs, hsb]; done)))) | exact True.intro) <;> conv => whnf)
      | false =>
        cases cv with
        | true =>
          have hs := hs.2.1 ⟨rfl, rfl⟩
          have hsb := hsb.2.1 ⟨rfl, rfl⟩
          conv => whnf
          repeat' ((first | (refine gF ?_; refine CallN.to (hcov (by first | rfl | (repeat' (first | rfl | refine bLtRow (row_allI _ _ _) ?_ | refine bLtRow (row_allB _ _ _) ?_ | refine bLtMp ?_ | refine bLtDead ?_ | refine bLtCells rfl ?_))) rfl) ?_) | (refine gC ?_; first | refine cY ?_ | refine cN ?_ | refine .not ?_ | (refine gD ?_; refine cI ?_)) | (refine gW ?_; refine wI ?_) | (refine gN ?_; refine nS ?_) | (refine gI ?_; (refine gM ?_; refine iE ?_)) | (refine gE ?_; refine eLb ?_) | (refine gS ?_; refine eSb ?_)) <;> conv => whnf)
          refine ⟨trivial, ?_⟩
          refine EndN.atC 3 ?_ rfl rfl rfl rfl (by first | rfl | (repeat' (first | rfl | refine bLtRow (row_allI _ _ _) ?_ | refine bLtRow (row_allB _ _ _) ?_ | refine bLtMp ?_ | refine bLtDead ?_ | refine bLtCells rfl ?_)))
          conv => whnf
          refine And.intro ?_ ?_ <;> conv => whnf
          all_goals repeat' ((first | (refine gV ?_; first | refine vE ?_ | refine vI ?_ | (refine WkN.sl ?_ ?_; (focus (simp [AV.norm, AV.norm1, hs, hsb]; done)))) | (refine gX ?_; first | refine xB ?_ | (refine BxN.mk ?_ ?_; (focus (simp [AV.norm, AV.norm1, hs, hsb]; done)))) | exact True.intro) <;> conv => whnf)
        | false =>
          have hs := hs.2.2 ⟨rfl, rfl⟩
          have hsb := hsb.2.2 ⟨rfl, rfl⟩
          conv => whnf
          repeat' ((first | (refine gF ?_; refine CallN.to (hcov (by first | rfl | (repeat' (first | rfl | refine bLtRow (row_allI _ _ _) ?_ | refine bLtRow (row_allB _ _ _) ?_ | refine bLtMp ?_ | refine bLtDead ?_ | refine bLtCells rfl ?_))) rfl) ?_) | (refine gC ?_; first | refine cN ?_ | refine .not ?_ | (refine gD ?_; refine cI ?_)) | (refine gW ?_; refine wI ?_) | (refine gN ?_; refine nS ?_) | (refine gI ?_; (refine gM ?_; refine iE ?_)) | (refine gE ?_; refine eLb ?_)) <;> conv => whnf)
          refine ⟨trivial, ?_⟩
          refine EndN.atC 3 ?_ rfl rfl rfl rfl (by first | rfl | (repeat' (first | rfl | refine bLtRow (row_allI _ _ _) ?_ | refine bLtRow (row_allB _ _ _) ?_ | refine bLtMp ?_ | refine bLtDead ?_ | refine bLtCells rfl ?_)))
          conv => whnf
          refine And.intro ?_ ?_ <;> conv => whnf
          all_goals repeat' ((first | (refine gV ?_; first | refine vE ?_ | refine vI ?_ | (refine WkN.sl ?_ ?_; (focus (simp [AV.norm, AV.norm1, hs, hsb]; done)))) | (refine gX ?_; first | refine xB ?_ | (refine BxN.mk ?_ ?_; (focus (simp [AV.norm, AV.norm1, hs, hsb]; done)))) | exact True.intro) <;> conv => whnf)
    conv => whnf
    repeat' ((first | (refine gC ?_; (refine gD ?_; first | refine cI ?_ | refine cJ ?_)) | (refine gL ?_; refine .map ?_) | (refine gN ?_; refine nS ?_) | refine RetP.nrm ?_) <;> conv => whnf)
    exact sl_eq hpt
end Go.CK

set_option linter.unusedSimpArgs false
set_option linter.unusedVariables false
namespace Go.CK
open Go.AM Go.Proofs
set_option maxRecDepth 100000 in
theorem values_ok {l : List Int} : Fun Tryz.prog 34 [slA intA l] (.fn (.func 59) [] [.ept [slA intA l]]) := by
  refine Fun.of (op_slices_Values_int_int (by simp) ?_) rfl rfl
  conv => whnf
  conv => whnf
  skip
  refine RetP.of (RetN.freeze 0 rfl rfl rfl rfl ?_)
  conv => whnf
  rfl
/-- what is known of each head of an order -/
def knownsT (r : Rl) (o : Int) (order : List Int) : Nat → List (List Int)
  | 0 => []
  | k + 1 => knownsT r o order k ++ match order[k]? with
    | none => []
    | some h => [knownI r (o :: order.take k) h]
theorem knownsT_at {r : Rl} {o : Int} {order : List Int} {k : Nat} {h : Int} (hk : order[k]? = some h) : knownsT r o order (k + 1) = knownsT r o order k ++ [knownI r (o :: order.take k) h] := by simp [knownsT, hk]
theorem knownsT_len {r : Rl} {o : Int} {order : List Int} : ∀ {k : Nat}, k ≤ order.length → (knownsT r o order k).length = k
  | 0, _ => rfl
  | k + 1, h => by
    rw [knownsT_at (List.getElem?_eq_getElem h), List.length_append, knownsT_len (by omega)]; rfl
def planI (r : Rl) (o : Oc) (order : List Int) : Pl := ⟨o, order, knownsT r o.head order order.length, placeI r (o.head :: order)⟩
theorem plainIs : Plain intsA 1 := ⟨by decide, fun _ => rfl, fun x c hc => by
  obtain rfl : c = slA intA x := by simpa [intsA, slA, AV.cells] using hc
  rfl, fun x c hc => by
  obtain rfl : c = slA intA x := by simpa [intsA, slA, AV.cells] using hc
  rfl⟩
theorem aOs {e : List (Nat × AV)} {bs : List Box} {lo : Nat} {b m k : Nat} {l : List (List Int)} {x : List Int} {o : Cap} {K : AV → St → Prop} (h : ∀ k', (l ++ [x]).length ≤ k' → K (.bsl bs.length (l ++ [x]).length k') ⟨e, bs.set b .dead ++ [rowF intsA 1 k' (l ++ [x])], lo⟩) (hb : bs[b]? = some (rowF intsA 1 k l) := by first | rfl | assumption) (hm : m = l.length := by first | rfl | assumption) (hk : m ≤ k := by omega) (hlim : m + 1 ≤ 4294967296 := by first | omega | assumption) : AppN 1 ⟨e, bs, lo⟩ (.bsl b m k) (.sl o [.sl .no (x.map intA)]) K := AppN.one (x := x) plainIs hb hm hk hlim h
set_option maxRecDepth 100000 in
set_option maxHeartbeats 1000000 in
theorem ordered_ok {r : Rl} {o : Oc} {order : List Int} (hr : r.ok2) (hg : r.okG) (hd : order.length ≤ 90) (hh : ∀ h ∈ order, 0 ≤ h ∧ h < r.heads.length) : Fun Tryz.prog 25 [r.wh, o.av, slA intA order] (planI r o order).av := by
  have hpo := hr.ok
  refine Fun.of (op_plan_rule_ordered (by simp) ?_) rfl rfl
  conv => whnf
  conv => whnf
  repeat' ((refine gL ?_; refine .map ?_) <;> conv => whnf)
  refine LoopP.by (fb := true) (fun st_ (q : Nat × Nat) => ⟨(st_.sets [(8, .sl (.own 1) ((o.head :: order.take q.1).map intA)), (19, .int .i64 q.1)]).env, [.cells [.str r.name, .sl .no (r.keep.map At.av), .sl .no (r.remove.map At.av), .sl .no (r.guard.map Gl.av), .sl .no (r.body.map Gl.av), .int .i64 r.vars, .sl .no (r.heads.map At.av)], .cells [.int .i64 o.rule, .int .i64 o.head, .bool o.kept], .cells [.int .i64 0, .int .i64 0, .bool false, .sl .full [], .sl .full [], .sl .full []], .cells [.int .i64 o.rule, .int .i64 o.head, .bool o.kept, .sl .no (order.map intA), .bsl 4 (knownsT r o.head order q.1).length q.2, .sl .full []], rowF intsA 1 q.2 (knownsT r o.head order q.1)], 0⟩) (fun q => q.1 ≤ order.length ∧ (knownsT r o.head order q.1).length ≤ q.2) (fun q => order.length - q.1) (0, 0) ⟨Nat.zero_le _, Nat.le_refl _⟩ ?_ ?_
  · refine EndN.toRowAt (.bx 3 4) rfl rfl ?_
    refine EndN.at_ ?_ rfl
    conv => whnf
    refine And.intro ?_ ?_ <;> conv => whnf
    all_goals repeat' ((first | (refine gV ?_; first | refine vE ?_ | refine vI ?_ | ((refine gK ?_; refine vD ?_ ?_); (focus (simp [AV.norm, AV.norm1, knownsT, cellsOf]; done)))) | (refine gX ?_; first | refine xB ?_ | (refine BxN.mk ?_ ?_; (focus (simp [AV.norm, AV.norm1, knownsT, cellsOf]; done)))) | exact True.intro) <;> conv => whnf)
  rintro ⟨k, kc⟩ ⟨hk0, hkc⟩
  dsimp only at hk0 hkc ⊢
  have hkl := knownsT_len (r := r) (o := o.head) hk0
  by_cases hk : k < order.length
  · obtain ⟨h, hkh⟩ : ∃ h, order[k]? = some h := ⟨_, List.getElem?_eq_getElem hk⟩
    have hho := hh h (List.mem_of_getElem? hkh)
    have htk : order.take (k + 1) = order.take k ++ [h] := by
      rw [List.take_succ_eq_append_getElem hk, (List.getElem?_eq_some_iff.1 hkh).2]
    have hka := knownsT_at (r := r) (o := o.head) hkh
    have hkc' := knownsT_len (r := r) (o := o.head) (k := k + 1) hk
    conv => whnf
    repeat' ((first | (refine gG ?_; refine CallP.fn (known_ok (r := r) (done := o.head :: order.take k) (head := h) hpo (by simp; omega) hho.1 hho.2) ?_) | (refine gC ?_; (refine gD ?_; refine cI ?_)) | (refine gI ?_; (refine gM ?_; refine iE ?_))) <;> conv => whnf)
    refine aOs fun k' hk' => ?_
    conv => whnf
    repeat' ((first | (refine gW ?_; refine wI ?_) | (refine gN ?_; refine nS ?_)) <;> conv => whnf)
    refine ⟨(k + 1, k'), ⟨⟨hk, by rw [hka]; exact hk'⟩, by simp; omega⟩, ?_⟩
    dsimp only
    rw [hka, htk]
    refine EndN.gcB plainIs [.cells [.str r.name, .sl .no (r.keep.map At.av), .sl .no (r.remove.map At.av), .sl .no (r.guard.map Gl.av), .sl .no (r.body.map Gl.av), .int .i64 r.vars, .sl .no (r.heads.map At.av)], .cells [.int .i64 o.rule, .int .i64 o.head, .bool o.kept], .cells [.int .i64 0, .int .i64 0, .bool false, .sl .full [], .sl .full [], .sl .full []], .cells [.int .i64 o.rule, .int .i64 o.head, .bool o.kept, .sl .no (order.map intA), .top, .sl .full []]] [.dead] 3 4 _ rfl rfl rfl rfl rfl rfl ?_
    refine EndN.at_ ?_ rfl
    conv => whnf
    refine And.intro ?_ ?_ <;> conv => whnf
    all_goals repeat' ((first | (refine gV ?_; first | refine vE ?_ | refine vI ?_ | (refine WkN.sl ?_ ?_; (focus (simp [AV.norm, AV.norm1, ]; done)))) | (refine gX ?_; first | refine xB ?_ | (refine BxN.mk ?_ ?_; (focus (simp [AV.norm, AV.norm1, ]; done)))) | exact True.intro) <;> conv => whnf)
  · obtain rfl : k = order.length := by omega
    rw [List.take_length]
    conv => whnf
    repeat' ((first | (refine gF ?_; refine CallN.fn (place_ok (r := r) (order := o.head :: order) hr hg (by simp; omega)) ?_) | (refine gC ?_; (refine gD ?_; refine cJ ?_))) <;> conv => whnf)
    refine RetP.frozeBx plainIs 2 4 rfl rfl rfl (Nat.le_refl _) ?_
    conv => whnf
    repeat' (refine RetP.nrm ?_ <;> conv => whnf)
    rw [List.take_length]
    rfl
end Go.CK

