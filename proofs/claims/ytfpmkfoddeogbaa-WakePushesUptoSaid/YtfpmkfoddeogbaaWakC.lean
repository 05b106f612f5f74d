/-
  WAKE, in the abstract machine: the functions' the laws. By an AI agent.
-/
import Derived.Test.YtfpmkfoddeogbaaWakB
set_option linter.unusedSimpArgs false
set_option linter.unusedVariables false
namespace Go.CK
open Go.AM Go.Proofs
def fmSame (x y : Fm) : Bool := decide (x.id = y.id) && (decide (x.occ = y.occ) && x.goal.same y.goal)
theorem fmSame_refl (x : Fm) : fmSame x x = true := by simp [fmSame, Gl.same_refl]
def framesB : List Fm → List Fm → Bool
  | [], [] => true
  | x :: a, y :: b => fmSame x y && framesB a b
  | _, _ => false
theorem framesB_len : ∀ {a b : List Fm}, ¬ a.length = b.length → framesB a b = false
  | [], [], h => absurd rfl h
  | [], _ :: _, _ => rfl
  | _ :: _, [], _ => rfl
  | x :: a, y :: b, h => by rw [framesB, framesB_len (a := a) (b := b) (fun e => h (by simp [e]))]; simp
theorem framesB_at : ∀ {a b : List Fm} {j : Nat} {x y : Fm}, a[j]? = some x → b[j]? = some y → fmSame x y = false → framesB a b = false
  | [], _, _, _, _, h, _, _ => by simp at h
  | _ :: _, [], _, _, _, _, h, _ => by simp at h
  | x' :: a, y' :: b, 0, x, y, h, h', e => by
    simp at h h'
    subst h h'
    rw [framesB, e]; rfl
  | x' :: a, y' :: b, j + 1, x, y, h, h', e => by
    rw [framesB, framesB_at (a := a) (b := b) (j := j) (by simpa using h) (by simpa using h') e]; simp
theorem framesB_all : ∀ {a b : List Fm}, a.length = b.length → (∀ i x y, i < a.length → a[i]? = some x → b[i]? = some y → fmSame x y = true) → framesB a b = true
  | [], [], _, _ => rfl
  | [], _ :: _, h, _ => by simp at h
  | _ :: _, [], h, _ => by simp at h
  | x :: a, y :: b, h, k => by
    rw [framesB, k 0 x y (by simp) rfl rfl, framesB_all (a := a) (b := b) (by simpa using h) fun i x y hi hx hy => k (i + 1) x y (by simpa using hi) (by simpa using hx) (by simpa using hy)]; rfl
theorem framesB_refl (a : List Fm) : framesB a a = true := framesB_all rfl fun i x y _ hx hy => by rw [hx] at hy; cases hy; exact fmSame_refl x
set_option maxRecDepth 100000 in
theorem lawFrames_ok {a b : List Fm} : Fun Try.prog 35 [slA Fm.av a, slA Fm.av b] (.bool (framesB a b)) := by
  refine Fun.assume rfl fun hg0 => ?_
  have hg := (good_sla (hg0 (slA Fm.av a) (by simp))).1
  refine Fun.of (op_constraintlaw22_frames (by simp) ?_) rfl rfl
  conv => whnf
  conv => whnf
  repeat' ((first | refine cY ?_ | refine cN ?_ | refine .not ?_ | refine wI ?_ | refine .map ?_ | refine .nil ?_ | refine .one ?_ | refine .app ?_ | refine .set ?_ | refine .rep ?_ | refine .any ?_ | refine cI ?_ | refine cJ ?_ | refine cYa ?_ | refine cNa ?_ | refine cIa ?_ | refine cJa ?_ | refine cIr ?_ | refine cId ?_ | refine cJd ?_ | with_reducible refine CondN.and ?_ | with_reducible refine CondN.or ?_ | refine CondN.lt (fun hc => ?_) (fun hc => ?_) | refine CondN.le (fun hc => ?_) (fun hc => ?_) | refine CondN.dec (fun hc => ?_) (fun hc => ?_) | refine CondN.any (fun hc => ?_) (fun hc => ?_) | refine nS ?_ | refine iA ?_ | refine iB ?_ | refine iC fun x hx => ?_ | refine iD fun x hx => ?_ | refine iE ?_ | refine iF ?_ | refine iG ?_ | refine iH fun x hx => ?_ | refine iI fun x hx => ?_ | refine iJ ?_ | refine hB ?_ | refine aP ?_ | refine .last ?_ | refine .last2 ?_ | refine zN fun k hk => ?_ | refine aR fun k hk => ?_ | refine mA ?_ | refine mS (fun hc => ?_) (fun hc => ?_) | refine RetP.nrm ?_) <;> conv => whnf)
  · refine LoopP.count (fb := true) (a.length) (fun st_ j => st_.sets [(13, .int .i64 j)]) (fun j => ∀ i x y, i < j → a[i]? = some x → b[i]? = some y → fmSame x y = true) ?_ ?_ (fun j hj hij => ?_) (fun hij => ?_)
    · intro i _ _ hi; omega
    · refine EndN.at_ ?_ rfl
      conv => whnf
      refine And.intro ?_ ?_ <;> conv => whnf
      all_goals repeat' ((first | refine vE ?_ | refine vI ?_ | refine vB ?_ | refine vC ?_ | refine vN ?_ | refine xB ?_ | exact True.intro | ((first | refine WkN.sl ?_ ?_ | refine vD ?_ ?_ | refine WkN.norm ?_ ?_ | refine BxN.mk ?_ ?_); (focus (simp [AV.norm, AV.norm1, ]; done)))) <;> conv => whnf)
    · obtain ⟨x, hx⟩ : ∃ x, a[j]? = some x := ⟨_, List.getElem?_eq_getElem hj⟩
      obtain ⟨y, hy⟩ : ∃ y, b[j]? = some y := ⟨_, List.getElem?_eq_getElem (by omega)⟩
      conv => whnf
      repeat' ((first | refine CallN.fn (sameGoal_ok (a := x.goal) (b := y.goal)) ?_ | refine CallP.fn (sameGoal_ok (a := x.goal) (b := y.goal)) ?_ | refine cY ?_ | refine cN ?_ | refine .not ?_ | refine wI ?_ | refine .map ?_ | refine .nil ?_ | refine .one ?_ | refine .app ?_ | refine .set ?_ | refine .rep ?_ | refine .any ?_ | refine cI ?_ | refine cJ ?_ | refine cYa ?_ | refine cNa ?_ | refine cIa ?_ | refine cJa ?_ | refine cIr ?_ | refine cId ?_ | refine cJd ?_ | with_reducible refine CondN.and ?_ | with_reducible refine CondN.or ?_ | refine CondN.lt (fun hc => ?_) (fun hc => ?_) | refine CondN.le (fun hc => ?_) (fun hc => ?_) | refine CondN.dec (fun hc => ?_) (fun hc => ?_) | refine CondN.any (fun hc => ?_) (fun hc => ?_) | refine nS ?_ | refine iA ?_ | refine iB ?_ | refine iC fun x hx => ?_ | refine iD fun x hx => ?_ | refine iE ?_ | refine iF ?_ | refine iG ?_ | refine iH fun x hx => ?_ | refine iI fun x hx => ?_ | refine iJ ?_ | refine hB ?_ | refine aP ?_ | refine .last ?_ | refine .last2 ?_ | refine zN fun k hk => ?_ | refine aR fun k hk => ?_ | refine mA ?_ | refine mS (fun hc => ?_) (fun hc => ?_) | refine RetP.nrm ?_) <;> conv => whnf)
      · refine ⟨fun i x' y' hi hx' hy' => ?_, ?_⟩
        · by_cases e : i = j
          · subst e
            rw [hx] at hx'; cases hx'
            rw [hy] at hy'; cases hy'
            simp [fmSame, *]
          · exact hij i x' y' (by omega) hx' hy'
        · refine EndN.at_ ?_ rfl
          conv => whnf
          refine And.intro ?_ ?_ <;> conv => whnf
          all_goals repeat' ((first | refine vE ?_ | refine vI ?_ | refine vB ?_ | refine vC ?_ | refine vN ?_ | refine xB ?_ | exact True.intro | ((first | refine WkN.sl ?_ ?_ | refine vD ?_ ?_ | refine WkN.norm ?_ ?_ | refine BxN.mk ?_ ?_); (focus (simp [AV.norm, AV.norm1, ]; done)))) <;> conv => whnf)
      · rw [framesB_at hx hy (by simp [fmSame, *])]
      · rw [framesB_at hx hy (by simp [fmSame, *])]
      · rw [framesB_at hx hy (by simp [fmSame, *])]
    · conv => whnf
      repeat' ((first | refine cY ?_ | refine cN ?_ | refine .not ?_ | refine wI ?_ | refine .map ?_ | refine .nil ?_ | refine .one ?_ | refine .app ?_ | refine .set ?_ | refine .rep ?_ | refine .any ?_ | refine cI ?_ | refine cJ ?_ | refine cYa ?_ | refine cNa ?_ | refine cIa ?_ | refine cJa ?_ | refine cIr ?_ | refine cId ?_ | refine cJd ?_ | with_reducible refine CondN.and ?_ | with_reducible refine CondN.or ?_ | refine CondN.lt (fun hc => ?_) (fun hc => ?_) | refine CondN.le (fun hc => ?_) (fun hc => ?_) | refine CondN.dec (fun hc => ?_) (fun hc => ?_) | refine CondN.any (fun hc => ?_) (fun hc => ?_) | refine nS ?_ | refine iA ?_ | refine iB ?_ | refine iC fun x hx => ?_ | refine iD fun x hx => ?_ | refine iE ?_ | refine iF ?_ | refine iG ?_ | refine iH fun x hx => ?_ | refine iI fun x hx => ?_ | refine iJ ?_ | refine hB ?_ | refine aP ?_ | refine .last ?_ | refine .last2 ?_ | refine zN fun k hk => ?_ | refine aR fun k hk => ?_ | refine mA ?_ | refine mS (fun hc => ?_) (fun hc => ?_) | refine RetP.nrm ?_) <;> conv => whnf)
      rw [framesB_all (by omega) hij]
  · rw [framesB_len (by omega)]
def fewF (l : List Fm) : Bool := decide (l.length ≤ 1200) && l.all fun f => decide (f.goal.args.length ≤ 10) && f.goal.args.all Tm.small
theorem fewF_le {l : List Fm} (h : fewF l = true) : l.length ≤ 1200 := by
  simp only [fewF, Bool.and_eq_true, decide_eq_true_eq] at h
  exact h.1
set_option maxRecDepth 100000 in
theorem fewF_ok {l : List Fm} : Fun Try.prog 32 [slA Fm.av l] (.bool (fewF l)) := by
  refine Fun.of (op_constraintlaw22_few (by simp) ?_) rfl rfl
  conv => whnf
  conv => whnf
  repeat' ((first | refine cY ?_ | refine cN ?_ | refine .not ?_ | refine wI ?_ | refine .map ?_ | refine .nil ?_ | refine .one ?_ | refine .app ?_ | refine .set ?_ | refine .rep ?_ | refine .any ?_ | refine cI ?_ | refine cJ ?_ | refine cYa ?_ | refine cNa ?_ | refine cIa ?_ | refine cJa ?_ | refine cIr ?_ | refine cId ?_ | refine cJd ?_ | with_reducible refine CondN.and ?_ | with_reducible refine CondN.or ?_ | refine CondN.lt (fun hc => ?_) (fun hc => ?_) | refine CondN.le (fun hc => ?_) (fun hc => ?_) | refine CondN.dec (fun hc => ?_) (fun hc => ?_) | refine CondN.any (fun hc => ?_) (fun hc => ?_) | refine nS ?_ | refine iA ?_ | refine iB ?_ | refine iC fun x hx => ?_ | refine iD fun x hx => ?_ | refine iE ?_ | refine iF ?_ | refine iG ?_ | refine iH fun x hx => ?_ | refine iI fun x hx => ?_ | refine iJ ?_ | refine hB ?_ | refine aP ?_ | refine .last ?_ | refine .last2 ?_ | refine zN fun k hk => ?_ | refine aR fun k hk => ?_ | refine mA ?_ | refine mS (fun hc => ?_) (fun hc => ?_) | refine RetP.nrm ?_) <;> conv => whnf)
  · simp [fewF]; omega
  · have e : fewF l = l.all fun f => decide (f.goal.args.length ≤ 10) && f.goal.args.all Tm.small := by simp [fewF]; omega
    rw [e]
    refine LoopP.count (fb := true) (l.length) (fun st_ j => st_.sets [(10, .int .i64 j)]) (fun j => ∀ i x, i < j → l[i]? = some x → (decide (x.goal.args.length ≤ 10) && x.goal.args.all Tm.small) = true) ?_ ?_ (fun j hj hij => ?_) (fun hij => ?_)
    · intro i _ hi; omega
    · refine EndN.at_ ?_ rfl
      conv => whnf
      refine And.intro ?_ ?_ <;> conv => whnf
      all_goals repeat' ((first | refine vE ?_ | refine vI ?_ | refine vB ?_ | refine vC ?_ | refine vN ?_ | refine xB ?_ | exact True.intro | ((first | refine WkN.sl ?_ ?_ | refine vD ?_ ?_ | refine WkN.norm ?_ ?_ | refine BxN.mk ?_ ?_); (focus (simp [AV.norm, AV.norm1, ]; done)))) <;> conv => whnf)
    · obtain ⟨y, hy⟩ : ∃ y, l[j]? = some y := ⟨_, List.getElem?_eq_getElem hj⟩
      conv => whnf
      repeat' ((first | refine cY ?_ | refine cN ?_ | refine .not ?_ | refine wI ?_ | refine .map ?_ | refine .nil ?_ | refine .one ?_ | refine .app ?_ | refine .set ?_ | refine .rep ?_ | refine .any ?_ | refine cI ?_ | refine cJ ?_ | refine cYa ?_ | refine cNa ?_ | refine cIa ?_ | refine cJa ?_ | refine cIr ?_ | refine cId ?_ | refine cJd ?_ | with_reducible refine CondN.and ?_ | with_reducible refine CondN.or ?_ | refine CondN.lt (fun hc => ?_) (fun hc => ?_) | refine CondN.le (fun hc => ?_) (fun hc => ?_) | refine CondN.dec (fun hc => ?_) (fun hc => ?_) | refine CondN.any (fun hc => ?_) (fun hc => ?_) | refine nS ?_ | refine iA ?_ | refine iB ?_ | refine iC fun x hx => ?_ | refine iD fun x hx => ?_ | refine iE ?_ | refine iF ?_ | refine iG ?_ | refine iH fun x hx => ?_ | refine iI fun x hx => ?_ | refine iJ ?_ | refine hB ?_ | refine aP ?_ | refine .last ?_ | refine .last2 ?_ | refine zN fun k hk => ?_ | refine aR fun k hk => ?_ | refine mA ?_ | refine mS (fun hc => ?_) (fun hc => ?_) | refine RetP.nrm ?_) <;> conv => whnf)
      · exact all_no' hy (by simp; omega)
      · have hrest := yes_succ (x := y) (j := j) hij hy
        refine LoopP.count (fb := true) (y.goal.args.length) (fun st_ k => st_.sets [(28, .int .i64 k)]) (fun k => ∀ i x, i < k → y.goal.args[i]? = some x → x.small = true) ?_ ?_ (fun k hk hik => ?_) (fun hik => ?_)
        · intro i _ hi; omega
        · refine EndN.at_ ?_ rfl
          conv => whnf
          refine And.intro ?_ ?_ <;> conv => whnf
          all_goals repeat' ((first | refine vE ?_ | refine vI ?_ | refine vB ?_ | refine vC ?_ | refine vN ?_ | refine xB ?_ | exact True.intro | ((first | refine WkN.sl ?_ ?_ | refine vD ?_ ?_ | refine WkN.norm ?_ ?_ | refine BxN.mk ?_ ?_); (focus (simp [AV.norm, AV.norm1, ]; done)))) <;> conv => whnf)
        · obtain ⟨z, hz⟩ : ∃ z, y.goal.args[k]? = some z := ⟨_, List.getElem?_eq_getElem hk⟩
          conv => whnf
          repeat' ((first | refine CallN.fn (Small_ok _) ?_ | refine CallP.fn (Small_ok _) ?_ | refine cY ?_ | refine cN ?_ | refine .not ?_ | refine wI ?_ | refine .map ?_ | refine .nil ?_ | refine .one ?_ | refine .app ?_ | refine .set ?_ | refine .rep ?_ | refine .any ?_ | refine cI ?_ | refine cJ ?_ | refine cYa ?_ | refine cNa ?_ | refine cIa ?_ | refine cJa ?_ | refine cIr ?_ | refine cId ?_ | refine cJd ?_ | with_reducible refine CondN.and ?_ | with_reducible refine CondN.or ?_ | refine CondN.lt (fun hc => ?_) (fun hc => ?_) | refine CondN.le (fun hc => ?_) (fun hc => ?_) | refine CondN.dec (fun hc => ?_) (fun hc => ?_) | refine CondN.any (fun hc => ?_) (fun hc => ?_) | refine nS ?_ | refine iA ?_ | refine iB ?_ | refine iC fun x hx => ?_ | refine iD fun x hx => ?_ | refine iE ?_ | refine iF ?_ | refine iG ?_ | refine iH fun x hx => ?_ | refine iI fun x hx => ?_ | refine iJ ?_ | refine hB ?_ | refine aP ?_ | refine .last ?_ | refine .last2 ?_ | refine zN fun k hk => ?_ | refine aR fun k hk => ?_ | refine mA ?_ | refine mS (fun hc => ?_) (fun hc => ?_) | refine RetP.nrm ?_) <;> conv => whnf)
          · refine ⟨yes_succ hik hz (decide_eq_true hc), ?_⟩
            refine EndN.at_ ?_ rfl
            conv => whnf
            refine And.intro ?_ ?_ <;> conv => whnf
            all_goals repeat' ((first | refine vE ?_ | refine vI ?_ | refine vB ?_ | refine vC ?_ | refine vN ?_ | refine xB ?_ | exact True.intro | ((first | refine WkN.sl ?_ ?_ | refine vD ?_ ?_ | refine WkN.norm ?_ ?_ | refine BxN.mk ?_ ?_); (focus (simp [AV.norm, AV.norm1, ]; done)))) <;> conv => whnf)
          · refine all_no' hy ?_
            rw [all_no hz (decide_eq_false (by omega))]; simp
        · conv => whnf
          repeat' ((first | refine cY ?_ | refine cN ?_ | refine .not ?_ | refine wI ?_ | refine .map ?_ | refine .nil ?_ | refine .one ?_ | refine .app ?_ | refine .set ?_ | refine .rep ?_ | refine .any ?_ | refine cI ?_ | refine cJ ?_ | refine cYa ?_ | refine cNa ?_ | refine cIa ?_ | refine cJa ?_ | refine cIr ?_ | refine cId ?_ | refine cJd ?_ | with_reducible refine CondN.and ?_ | with_reducible refine CondN.or ?_ | refine CondN.lt (fun hc => ?_) (fun hc => ?_) | refine CondN.le (fun hc => ?_) (fun hc => ?_) | refine CondN.dec (fun hc => ?_) (fun hc => ?_) | refine CondN.any (fun hc => ?_) (fun hc => ?_) | refine nS ?_ | refine iA ?_ | refine iB ?_ | refine iC fun x hx => ?_ | refine iD fun x hx => ?_ | refine iE ?_ | refine iF ?_ | refine iG ?_ | refine iH fun x hx => ?_ | refine iI fun x hx => ?_ | refine iJ ?_ | refine hB ?_ | refine aP ?_ | refine .last ?_ | refine .last2 ?_ | refine zN fun k hk => ?_ | refine aR fun k hk => ?_ | refine mA ?_ | refine mS (fun hc => ?_) (fun hc => ?_) | refine RetP.nrm ?_) <;> conv => whnf)
          refine ⟨hrest (by rw [all_yes hik]; simp; omega), ?_⟩
          refine EndN.at_ ?_ rfl
          conv => whnf
          refine And.intro ?_ ?_ <;> conv => whnf
          all_goals repeat' ((first | refine vE ?_ | refine vI ?_ | refine vB ?_ | refine vC ?_ | refine vN ?_ | refine xB ?_ | exact True.intro | ((first | refine WkN.sl ?_ ?_ | refine vD ?_ ?_ | refine WkN.norm ?_ ?_ | refine BxN.mk ?_ ?_); (focus (simp [AV.norm, AV.norm1, ]; done)))) <;> conv => whnf)
    · conv => whnf
      repeat' ((first | refine cY ?_ | refine cN ?_ | refine .not ?_ | refine wI ?_ | refine .map ?_ | refine .nil ?_ | refine .one ?_ | refine .app ?_ | refine .set ?_ | refine .rep ?_ | refine .any ?_ | refine cI ?_ | refine cJ ?_ | refine cYa ?_ | refine cNa ?_ | refine cIa ?_ | refine cJa ?_ | refine cIr ?_ | refine cId ?_ | refine cJd ?_ | with_reducible refine CondN.and ?_ | with_reducible refine CondN.or ?_ | refine CondN.lt (fun hc => ?_) (fun hc => ?_) | refine CondN.le (fun hc => ?_) (fun hc => ?_) | refine CondN.dec (fun hc => ?_) (fun hc => ?_) | refine CondN.any (fun hc => ?_) (fun hc => ?_) | refine nS ?_ | refine iA ?_ | refine iB ?_ | refine iC fun x hx => ?_ | refine iD fun x hx => ?_ | refine iE ?_ | refine iF ?_ | refine iG ?_ | refine iH fun x hx => ?_ | refine iI fun x hx => ?_ | refine iJ ?_ | refine hB ?_ | refine aP ?_ | refine .last ?_ | refine .last2 ?_ | refine zN fun k hk => ?_ | refine aR fun k hk => ?_ | refine mA ?_ | refine mS (fun hc => ?_) (fun hc => ?_) | refine RetP.nrm ?_) <;> conv => whnf)
      rw [all_yes hij]
/-! ### the examples -/
def wkP : ByteArray := ⟨⟨[112]⟩⟩
def wkV : Tm := .mk 1 0 .empty []
def wkL : List It := [⟨1, ⟨wkP, [wkV]⟩⟩, ⟨2, ⟨⟨⟨[113]⟩⟩, []⟩⟩, ⟨3, ⟨wkP, [.mk 2 0 ⟨⟨[102]⟩⟩ [wkV]]⟩⟩]
def wkS : List Fm := [⟨⟨0, .empty, []⟩, 9, 0⟩]
theorem wkL_few : FewI wkL := fewB_I (by decide)
theorem wk1 : affI wkL [0] = [1, 3] := setI_of (by decide) fun x => by
  rw [show hits [0] wkL = [1, 3] by decide]
theorem wk2 : affI wkL [1] = [] := setI_of .nil fun x => by
  rw [show hits [1] wkL = [] by decide]
theorem wk3 : pushR wkS wkL [0] = ([⟨⟨0, .empty, []⟩, 9, 0⟩, frm 3, frm 1], 0) := by
  rw [pushR, wk1]; rfl
def wkR : List Fm := [⟨⟨0, .empty, []⟩, 9, 0⟩, ⟨⟨0, .empty, []⟩, 3, -1⟩, ⟨⟨0, .empty, []⟩, 1, -1⟩]
set_option maxRecDepth 100000 in
theorem awake22 : Fun Try.prog 28 [] (.bool true) := by
  have h1 := wk1
  have h2 : (affI wkL [1]).length = 0 := by rw [wk2]; rfl
  have h4 : framesB (pushR wkS wkL [0]).1 wkR = true := by rw [wk3]; exact framesB_refl wkR
  have h5 : (pushR wkS wkL [0]).2 = 0 := by rw [wk3]
  refine Fun.of (op_constraintlaw22_awake (by simp) ?_) rfl rfl
  conv => whnf
  conv => whnf
  repeat' ((first | refine CallN.fn (push_ok (stack := wkS) (l := wkL) (vars := [0]) wkL_few (by decide)) ?_ | refine CallP.fn (push_ok (stack := wkS) (l := wkL) (vars := [0]) wkL_few (by decide)) ?_ | refine CallN.fn (affected_ok (l := wkL) (vars := [0]) wkL_few) ?_ | refine CallP.fn (affected_ok (l := wkL) (vars := [0]) wkL_few) ?_ | refine CallN.fn (affected_ok (l := wkL) (vars := [1]) wkL_few) ?_ | refine CallP.fn (affected_ok (l := wkL) (vars := [1]) wkL_few) ?_ | refine CallN.fn (ints_ok (a := affI wkL [0]) (b := [1, 3])) ?_ | refine CallP.fn (ints_ok (a := affI wkL [0]) (b := [1, 3])) ?_ | refine CallN.fn (lawFrames_ok (a := (pushR wkS wkL [0]).1) (b := wkR)) ?_ | refine CallP.fn (lawFrames_ok (a := (pushR wkS wkL [0]).1) (b := wkR)) ?_ | refine cY ?_ | refine cN ?_ | refine .not ?_ | refine wI ?_ | refine .map ?_ | refine .nil ?_ | refine .one ?_ | refine .app ?_ | refine .set ?_ | refine .rep ?_ | refine .any ?_ | refine cI ?_ | refine cJ ?_ | refine cYa ?_ | refine cNa ?_ | refine cIa ?_ | refine cJa ?_ | refine cIr ?_ | refine cId ?_ | refine cJd ?_ | with_reducible refine CondN.and ?_ | with_reducible refine CondN.or ?_ | refine CondN.lt (fun hc => ?_) (fun hc => ?_) | refine CondN.le (fun hc => ?_) (fun hc => ?_) | refine CondN.dec (fun hc => ?_) (fun hc => ?_) | refine CondN.any (fun hc => ?_) (fun hc => ?_) | refine nS ?_ | refine iA ?_ | refine iB ?_ | refine iC fun x hx => ?_ | refine iD fun x hx => ?_ | refine iE ?_ | refine iF ?_ | refine iG ?_ | refine iH fun x hx => ?_ | refine iI fun x hx => ?_ | refine iJ ?_ | refine hB ?_ | refine aP ?_ | refine .last ?_ | refine .last2 ?_ | refine zN fun k hk => ?_ | refine aR fun k hk => ?_ | refine mA ?_ | refine mS (fun hc => ?_) (fun hc => ?_) | refine RetP.nrm ?_) <;> conv => whnf)
  rw [decide_eq_true h5]
/-! ### the laws -/
set_option maxRecDepth 100000 in
theorem wakeAffects_ok {l : List It} {vars : List Int} : Fun Try.prog 5 [slA It.av l, slA intA vars] (.bool true) := by
  refine Fun.of (op_constraintlaw22_WakeAffects (by simp) ?_) rfl rfl
  conv => whnf
  conv => whnf
  repeat' ((first | refine CallN.fn (fewItems_ok) ?_ | refine CallP.fn (fewItems_ok) ?_ | refine CallN.fn (awake22) ?_ | refine CallP.fn (awake22) ?_ | refine CallN.fn (affected_ok (fewB_I (by assumption))) ?_ | refine CallP.fn (affected_ok (fewB_I (by assumption))) ?_ | refine CallN.fn (refAffected_ok (fewB_I (by assumption))) ?_ | refine CallP.fn (refAffected_ok (fewB_I (by assumption))) ?_ | refine CallN.fn (ints_ok) ?_ | refine CallP.fn (ints_ok) ?_ | refine cY ?_ | refine cN ?_ | refine .not ?_ | refine wI ?_ | refine .map ?_ | refine .nil ?_ | refine .one ?_ | refine .app ?_ | refine .set ?_ | refine .rep ?_ | refine .any ?_ | refine cI ?_ | refine cJ ?_ | refine cYa ?_ | refine cNa ?_ | refine cIa ?_ | refine cJa ?_ | refine cIr ?_ | refine cId ?_ | refine cJd ?_ | with_reducible refine CondN.and ?_ | with_reducible refine CondN.or ?_ | refine CondN.lt (fun hc => ?_) (fun hc => ?_) | refine CondN.le (fun hc => ?_) (fun hc => ?_) | refine CondN.dec (fun hc => ?_) (fun hc => ?_) | refine CondN.any (fun hc => ?_) (fun hc => ?_) | refine nS ?_ | refine iA ?_ | refine iB ?_ | refine iC fun x hx => ?_ | refine iD fun x hx => ?_ | refine iE ?_ | refine iF ?_ | refine iG ?_ | refine iH fun x hx => ?_ | refine iI fun x hx => ?_ | refine iJ ?_ | refine hB ?_ | refine aP ?_ | refine .last ?_ | refine .last2 ?_ | refine zN fun k hk => ?_ | refine aR fun k hk => ?_ | refine mA ?_ | refine mS (fun hc => ?_) (fun hc => ?_) | refine RetP.nrm ?_) <;> conv => whnf)
set_option maxRecDepth 100000 in
theorem wakePushes_ok {stack : List Fm} {l : List It} {vars ids : List Int} : Fun Try.prog 6 [slA Fm.av stack, slA It.av l, .agg [slA intA vars, slA intA ids]] (.bool true) := by
  have h1 := framesB_refl (pushR stack l vars).1
  have h2 := framesB_refl (ids.reverse.map frm)
  refine Fun.of (op_constraintlaw22_WakePushes (by simp) ?_) rfl rfl
  conv => whnf
  conv => whnf
  repeat' ((first | refine CallN.fn (fewItems_ok) ?_ | refine CallP.fn (fewItems_ok) ?_ | refine CallN.fn (fewF_ok) ?_ | refine CallP.fn (fewF_ok) ?_ | refine CallN.fn (awake22) ?_ | refine CallP.fn (awake22) ?_ | refine CallN.fn (push_ok (stack := stack) (l := l) (vars := vars) (fewB_I (by assumption)) (by have := fewF_le (l := stack) (by assumption); omega)) ?_ | refine CallP.fn (push_ok (stack := stack) (l := l) (vars := vars) (fewB_I (by assumption)) (by have := fewF_le (l := stack) (by assumption); omega)) ?_ | refine CallN.fn (refPush_ok (stack := stack) (l := l) (vars := vars) (fewB_I (by assumption)) (by have := fewF_le (l := stack) (by assumption); omega)) ?_ | refine CallP.fn (refPush_ok (stack := stack) (l := l) (vars := vars) (fewB_I (by assumption)) (by have := fewF_le (l := stack) (by assumption); omega)) ?_ | refine CallN.fn (lawFrames_ok (a := (pushR stack l vars).1) (b := (pushR stack l vars).1)) ?_ | refine CallP.fn (lawFrames_ok (a := (pushR stack l vars).1) (b := (pushR stack l vars).1)) ?_ | refine CallN.fn (frames_ok (ids := ids) (by omega)) ?_ | refine CallP.fn (frames_ok (ids := ids) (by omega)) ?_ | refine CallN.fn (refFrames_ok (ids := ids) (by omega)) ?_ | refine CallP.fn (refFrames_ok (ids := ids) (by omega)) ?_ | refine CallN.fn (lawFrames_ok (a := ids.reverse.map frm) (b := ids.reverse.map frm)) ?_ | refine CallP.fn (lawFrames_ok (a := ids.reverse.map frm) (b := ids.reverse.map frm)) ?_ | refine cY ?_ | refine cN ?_ | refine .not ?_ | refine wI ?_ | refine .map ?_ | refine .nil ?_ | refine .one ?_ | refine .app ?_ | refine .set ?_ | refine .rep ?_ | refine .any ?_ | refine cI ?_ | refine cJ ?_ | refine cYa ?_ | refine cNa ?_ | refine cIa ?_ | refine cJa ?_ | refine cIr ?_ | refine cId ?_ | refine cJd ?_ | with_reducible refine CondN.and ?_ | with_reducible refine CondN.or ?_ | refine CondN.lt (fun hc => ?_) (fun hc => ?_) | refine CondN.le (fun hc => ?_) (fun hc => ?_) | refine CondN.dec (fun hc => ?_) (fun hc => ?_) | refine CondN.any (fun hc => ?_) (fun hc => ?_) | refine nS ?_ | refine iA ?_ | refine iB ?_ | refine iC fun x hx => ?_ | refine iD fun x hx => ?_ | refine iE ?_ | refine iF ?_ | refine iG ?_ | refine iH fun x hx => ?_ | refine iI fun x hx => ?_ | refine iJ ?_ | refine hB ?_ | refine aP ?_ | refine .last ?_ | refine .last2 ?_ | refine zN fun k hk => ?_ | refine aR fun k hk => ?_ | refine mA ?_ | refine mS (fun hc => ?_) (fun hc => ?_) | refine RetP.nrm ?_) <;> conv => whnf)
end Go.CK
