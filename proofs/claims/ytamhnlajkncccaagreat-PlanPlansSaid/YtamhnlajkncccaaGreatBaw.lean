/-
  Texts of this claim joined (wip/gen/bundle.py), those declarations only that are needed: PlP PlQ PlR. By an AI agent.
-/
import Derived.Test.YtamhnlajkncccaaGreatBav
set_option linter.unusedSimpArgs false
set_option linter.unusedVariables false
namespace Go.CK
open Go.AM Go.Proofs
set_option maxRecDepth 100000 in
theorem equalFunc_ok {a b : List (List Int)} (hg : a.length ≤ 100000) : Fun Tryz.prog 35 [slA intsA a, slA intsA b, .fn (.func 36) [] []] (.bool (decide (a = b))) := by
  refine Fun.of (op_slices_EqualFunc_int_int_int_int (by simp) ?_) rfl rfl
  conv => whnf
  conv => whnf
  repeat' ((first | (refine gC ?_; first | refine .not ?_ | refine CondN.dec (fun hc => ?_) (fun hc => ?_)) | (refine gL ?_; refine .map ?_) | refine RetP.nrm ?_) <;> conv => whnf)
  · refine LoopP.count (fb := true) (a.length) (fun st_ j => st_.sets [(17, .int .i64 j)]) (fun j => upTo a b j) ?_ ?_ (fun j hj hij => ?_) (fun hij => ?_)
    · exact upTo.zero
    · refine EndN.at_ ?_ rfl
      conv => whnf
      refine And.intro ?_ ?_ <;> conv => whnf
      all_goals repeat' ((first | (refine gV ?_; first | refine vE ?_ | refine vI ?_) | exact True.intro) <;> conv => whnf)
    · obtain ⟨x, hx⟩ : ∃ x, a[j]? = some x := ⟨_, List.getElem?_eq_getElem hj⟩
      obtain ⟨y, hy⟩ : ∃ y, b[j]? = some y := ⟨_, List.getElem?_eq_getElem (by omega)⟩
      conv => whnf
      repeat' ((first | (refine gF ?_; refine CallN.fn (equalI_ok (a := x) (b := y)) ?_) | (refine gC ?_; first | refine .not ?_ | (refine gD ?_; refine cI ?_) | refine CondN.dec (fun hc => ?_) (fun hc => ?_)) | (refine gW ?_; refine wI ?_) | (refine gI ?_; (refine gM ?_; refine iE ?_)) | (refine gH ?_; refine hB ?_) | refine RetP.nrm ?_) <;> conv => whnf)
      · refine ⟨hij.succ hx hy (by assumption), ?_⟩
        refine EndN.at_ ?_ rfl
        conv => whnf
        refine And.intro ?_ ?_ <;> conv => whnf
        all_goals repeat' ((first | (refine gV ?_; first | refine vE ?_ | refine vI ?_) | exact True.intro) <;> conv => whnf)
      · exact bool_no (ne_at hx hy (by assumption))
    · conv => whnf
      repeat' ((first | (refine gC ?_; (refine gD ?_; refine cJ ?_)) | refine RetP.nrm ?_) <;> conv => whnf)
      exact bool_yes (hij.all (by omega))
  · exact bool_no (ne_len (by omega))
set_option maxRecDepth 100000 in
theorem lists29_ok {a b : List (List Int)} : Fun Tryz.prog 20 [slA intsA a, slA intsA b] (.bool (decide (a = b))) := by
  refine Fun.assume rfl fun hg0 => ?_
  have hg := (good_sla (hg0 (slA intsA a) (by simp))).1
  refine Fun.of (op_constraintref29_lists (by simp) ?_) rfl rfl
  conv => whnf
  conv => whnf
  repeat' ((first | (refine gC ?_; first | refine .not ?_ | refine CondN.dec (fun hc => ?_) (fun hc => ?_)) | (refine gL ?_; refine .map ?_) | refine RetP.nrm ?_) <;> conv => whnf)
  · refine LoopP.count (fb := true) (a.length) (fun st_ j => st_.sets [(5, .int .i64 j)]) (fun j => upTo a b j) ?_ ?_ (fun j hj hij => ?_) (fun hij => ?_)
    · exact upTo.zero
    · refine EndN.at_ ?_ rfl
      conv => whnf
      refine And.intro ?_ ?_ <;> conv => whnf
      all_goals repeat' ((first | (refine gV ?_; first | refine vE ?_ | refine vI ?_) | exact True.intro) <;> conv => whnf)
    · obtain ⟨x, hx⟩ : ∃ x, a[j]? = some x := ⟨_, List.getElem?_eq_getElem hj⟩
      obtain ⟨y, hy⟩ : ∃ y, b[j]? = some y := ⟨_, List.getElem?_eq_getElem (by omega)⟩
      conv => whnf
      repeat' ((first | (refine gG ?_; refine CallP.fn (sameInts_ok (a := x) (b := y)) ?_) | (refine gC ?_; first | refine .not ?_ | (refine gD ?_; refine cI ?_) | refine CondN.dec (fun hc => ?_) (fun hc => ?_)) | (refine gW ?_; refine wI ?_) | (refine gL ?_; refine .map ?_) | (refine gI ?_; (refine gM ?_; refine iE ?_)) | refine RetP.nrm ?_) <;> conv => whnf)
      · refine ⟨hij.succ hx hy (by assumption), ?_⟩
        refine EndN.at_ ?_ rfl
        conv => whnf
        refine And.intro ?_ ?_ <;> conv => whnf
        all_goals repeat' ((first | (refine gV ?_; first | refine vE ?_ | refine vI ?_) | exact True.intro) <;> conv => whnf)
      · exact bool_no (ne_at hx hy (by assumption))
    · conv => whnf
      repeat' ((first | (refine gC ?_; (refine gD ?_; refine cJ ?_)) | (refine gL ?_; refine .map ?_) | refine RetP.nrm ?_) <;> conv => whnf)
      exact bool_yes (hij.all (by omega))
  · exact bool_no (ne_len (by omega))
theorem bool_eq {a b : Bool} (h : a = b) : AV.bool a = AV.bool b := by rw [h]
set_option maxRecDepth 100000 in
theorem same29_ok {x y : Pl} : Fun Tryz.prog 8 [x.av, y.av] (.bool (decide (x = y))) := by
  have hd : decide (x = y) = (decide (x.occ = y.occ) && (decide (x.order = y.order) && (decide (x.known = y.known) && decide (x.tests = y.tests)))) := by
    rw [Bool.eq_iff_iff]
    simp only [Bool.and_eq_true, decide_eq_true_eq, Pl.ext_iff]
  rw [hd]
  clear hd
  refine Fun.of (op_constraintref29_Same (by simp) ?_) rfl rfl
  conv => whnf
  conv => whnf
  repeat' ((first | (refine gF ?_; first | refine CallN.fn (sameInts_ok (a := x.order) (b := y.order)) ?_ | refine CallN.fn (lists29_ok (a := x.known) (b := y.known)) ?_ | refine CallN.fn (lists29_ok (a := x.tests) (b := y.tests)) ?_) | (refine gC ?_; first | refine cY ?_ | refine cN ?_ | (refine gD ?_; first | refine cI ?_ | refine cJ ?_) | with_reducible refine CondN.and ?_ | refine CondN.dec (fun hc => ?_) (fun hc => ?_)) | refine RetP.nrm ?_) <;> conv => whnf)
  all_goals (refine bool_eq ?_; simp [Oc.ext_iff, *])
/-- the numbers below n -/
def upI (n : Nat) : List Int := (List.range n).map fun j : Nat => (j : Int)
theorem upI_len (n : Nat) : (upI n).length = n := by simp [upI]
theorem upI_at {n j : Nat} (h : j < n) : (upI n)[j]? = some (j : Int) := by simp [upI, h]
theorem upI_mem {n : Nat} {x : Int} (h : x ∈ upI n) : 0 ≤ x ∧ x < n := by
  obtain ⟨j, hj, rfl⟩ := List.mem_map.1 h
  have := List.mem_range.1 hj
  omega
theorem sortL_mem {l : List Int} {x : Int} : x ∈ sortL l ↔ x ∈ l := (List.mergeSort_perm l _).mem_iff
theorem sortL_len (l : List Int) : (sortL l).length = l.length := by simp [sortL]
/-- a plan is one of a program -/
def rightI (p : Pg) (x : Pl) : Bool := decide (x.occ ∈ p.occs) && match p.rules[x.occ.rule.toNat]? with
  | none => false
  | some r => decide (sortL (x.occ.head :: x.order) = upI r.heads.length) && decide (x = planI r x.occ x.order)
theorem occY_mem {i : Nat} {x : Rl} {y : Oc × At} : ∀ {j : Nat}, j ≤ x.heads.length → y ∈ occY i x j → y.1.rule = i ∧ 0 ≤ y.1.head ∧ y.1.head < x.heads.length ∧ y.1.kept = decide (y.1.head < x.keep.length)
  | 0, _, h => by cases h
  | j + 1, hj, h => by
    rcases List.mem_append.1 h with h | h
    · exact occY_mem (by omega) h
    · rw [List.mem_singleton] at h
      subst h
      exact ⟨rfl, by simp only; omega, by simp only; omega, rfl⟩
theorem allY_mem {l : List Rl} {y : Oc × At} : ∀ {j : Nat}, y ∈ allY l j → ∃ (i : Nat) (x : Rl), l[i]? = some x ∧ y.1.rule = i ∧ 0 ≤ y.1.head ∧ y.1.head < x.heads.length ∧ y.1.kept = decide (y.1.head < x.keep.length)
  | 0, h => by cases h
  | j + 1, h => by
    rcases List.mem_append.1 h with h | h
    · exact allY_mem h
    · split at h
      · cases h
      · rename_i x hx
        exact ⟨j, x, hx, occY_mem (Nat.le_refl _) h⟩
theorem occs_mem {p : Pg} {o : Oc} (h : o ∈ p.occs) : ∃ r, p.rules[o.rule.toNat]? = some r ∧ 0 ≤ o.rule ∧ 0 ≤ o.head ∧ o.head < r.heads.length ∧ o.kept = decide (o.head < r.keep.length) := by
  obtain ⟨y, hy, rfl⟩ := List.mem_map.1 h
  obtain ⟨i, x, h1, h2, h3⟩ := allY_mem hy
  refine ⟨x, ?_, by omega, h3⟩
  rw [h2, Int.toNat_natCast, h1]
/-- a program that is not large -/
structure Pg.fit (p : Pg) : Prop where
  ok : p.ok
  ok2 : ∀ r ∈ p.rules, r.ok2
  okG : ∀ r ∈ p.rules, r.okG
  few : p.rules.length ≤ 10000
set_option maxRecDepth 100000 in
set_option maxHeartbeats 1000000 in
theorem right_ok {p : Pg} {x : Pl} (hp : p.fit) (ho : x.order.length ≤ 90) (hk : x.known.length ≤ 100000) (ht : x.tests.length ≤ 100000) : Fun Tryz.prog 14 [p.av, x.av] (.bool (rightI p x)) := by
  by_cases hocc : x.occ ∈ p.occs
  · obtain ⟨r, hr, h1, h2, h3, h4⟩ := occs_mem hocc
    have hrm := List.mem_of_getElem? hr
    have hr2 := hp.ok2 r hrm
    have hrg := hp.okG r hrm
    have hsl := sortL_len (x.occ.head :: x.order)
    have e1 : rightI p x = (decide (sortL (x.occ.head :: x.order) = upI r.heads.length) && decide (x = planI r x.occ x.order)) := by
      simp only [rightI, hocc, hr, decide_true, Bool.true_and]
    rw [e1]
    clear e1
    have hcon : Fun Tryz.prog 21 [slA Oc.av p.occs, x.occ.av] (.bool true) := by
      have := containsOc_ok (l := p.occs) (o := x.occ)
      rwa [decide_eq_true hocc] at this
    refine Fun.of (op_plan_Right (by simp) ?_) rfl rfl
    conv => whnf
    conv => whnf
    repeat' ((first | (refine gF ?_; first | refine CallN.fn (of_yes h1 hr hr2) ?_ | refine CallN.fn (values_ok (l := x.occ.head :: x.order)) ?_ | refine CallN.fn (sorted_ok (l := x.occ.head :: x.order) (by simp; omega)) ?_) | (refine gG ?_; first | refine CallP.fn (all_ok hp.ok hp.few) ?_ | refine CallP.fn (hcon) ?_) | (refine gC ?_; first | refine cY ?_ | refine .not ?_ | refine CondN.dec (fun hc => ?_) (fun hc => ?_)) | (refine gL ?_; refine .map ?_) | (refine gN ?_; refine nS ?_) | refine RetP.nrm ?_) <;> conv => whnf)
    · obtain ⟨sl, hs0⟩ : ∃ sl, sl = sortL (x.occ.head :: x.order) := ⟨_, rfl⟩
      rw [← hs0] at hc hsl ⊢
      have hsb : sl.length ≤ 100 := by rw [hsl, List.length_cons]; omega
      refine LoopP.count (fb := true) (sl.length) (fun st_ j => st_.sets [(42, .int .i64 j)]) (fun j => upTo sl (upI r.heads.length) j) ?_ ?_ (fun j hj hij => ?_) (fun hij => ?_)
      · exact upTo.zero
      · refine EndN.at_ ?_ rfl
        conv => whnf
        refine And.intro ?_ ?_ <;> conv => whnf
        all_goals repeat' ((first | (refine gV ?_; first | refine vE ?_ | refine vI ?_) | (refine gX ?_; refine xB ?_) | exact True.intro) <;> conv => whnf)
      · obtain ⟨y, hy⟩ : ∃ y, sl[j]? = some y := ⟨_, List.getElem?_eq_getElem hj⟩
        have hu := upI_at (n := r.heads.length) (j := j) (by omega)
        conv => whnf
        repeat' ((first | (refine gC ?_; first | refine .not ?_ | (refine gD ?_; refine cI ?_) | refine CondN.dec (fun hc => ?_) (fun hc => ?_)) | (refine gW ?_; refine wI ?_) | (refine gI ?_; (refine gM ?_; refine iE ?_)) | refine RetP.nrm ?_) <;> conv => whnf)
        · refine ⟨hij.succ hy hu (by assumption), ?_⟩
          refine EndN.at_ ?_ rfl
          conv => whnf
          refine And.intro ?_ ?_ <;> conv => whnf
          all_goals repeat' ((first | (refine gV ?_; first | refine vE ?_ | refine vI ?_) | (refine gX ?_; refine xB ?_) | exact True.intro) <;> conv => whnf)
        · rw [decide_eq_false (ne_at hy hu (by assumption)), Bool.false_and]
      · have heq : sl = upI r.heads.length := hij.all (by rw [upI_len]; omega)
        have hh : ∀ h ∈ x.order, 0 ≤ h ∧ h < r.heads.length := fun h hm => upI_mem (by rw [← heq, hs0]; exact sortL_mem.2 (List.mem_cons_of_mem _ hm))
        have hpe : decide (x = planI r x.occ x.order) = (decide (x.known = (planI r x.occ x.order).known) && decide (x.tests = (planI r x.occ x.order).tests)) := by
          rw [Bool.eq_iff_iff]
          simp only [Bool.and_eq_true, decide_eq_true_eq, Pl.ext_iff]
          exact ⟨fun h => h.2.2, fun h => ⟨rfl, rfl, h⟩⟩
        rw [decide_eq_true heq, Bool.true_and, hpe]
        clear hpe heq hs0
        conv => whnf
        repeat' ((first | (refine gF ?_; first | refine CallN.fn (ordered_ok (o := x.occ) (order := x.order) hr2 hrg ho hh) ?_ | refine CallN.fn (equalFunc_ok (a := x.known) (b := (planI r x.occ x.order).known) hk) ?_ | refine CallN.fn (equalFunc_ok (a := x.tests) (b := (planI r x.occ x.order).tests) ht) ?_) | (refine gC ?_; first | (refine gD ?_; first | refine cI ?_ | refine cJ ?_) | refine CondN.dec (fun hc => ?_) (fun hc => ?_)) | refine RetP.nrm ?_) <;> conv => whnf)
        · rw [decide_eq_true (by assumption : x.known = _), Bool.true_and]
        · rw [decide_eq_false (by assumption : ¬ x.known = _), Bool.false_and]
    · rw [decide_eq_false (fun h => hc (by rw [h, upI_len])), Bool.false_and]
  · rw [rightI, decide_eq_false hocc, Bool.false_and]
    have hcon : Fun Tryz.prog 21 [slA Oc.av p.occs, x.occ.av] (.bool false) := by
      have := containsOc_ok (l := p.occs) (o := x.occ)
      rwa [decide_eq_false hocc] at this
    refine Fun.of (op_plan_Right (by simp) ?_) rfl rfl
    conv => whnf
    conv => whnf
    repeat' ((first | (refine gG ?_; first | refine CallP.fn (all_ok hp.ok hp.few) ?_ | refine CallP.fn (hcon) ?_) | (refine gC ?_; first | refine cN ?_ | refine .not ?_) | refine RetP.nrm ?_) <;> conv => whnf)
set_option maxRecDepth 100000 in
set_option maxHeartbeats 1000000 in
theorem filled_ok {r : Rl} {o : Oc} {order : List Int} (hr : r.ok2) (hg : r.okG) (hd : order.length ≤ 90) (hh : ∀ h ∈ order, 0 ≤ h ∧ h < r.heads.length) : Fun Tryz.prog 29 [r.av, o.av, slA intA order] (planI r o order).av := by
  refine Fun.of (op_constraintref29_filled (by simp) ?_) rfl rfl
  conv => whnf
  conv => whnf
  skip
  refine LoopP.by (fb := true) (fun st_ (q : Nat × Nat) => ⟨(st_.sets [(8, .sl (.own 1) ((o.head :: order.take q.1).map intA)), (9, .int .i64 q.1)]).env, [.cells [.str r.name, .sl .no (r.keep.map At.av), .sl .no (r.remove.map At.av), .sl .no (r.guard.map Gl.av), .sl .no (r.body.map Gl.av), .int .i64 r.vars], .cells [.int .i64 o.rule, .int .i64 o.head, .bool o.kept], .cells [.int .i64 0, .int .i64 0, .bool false, .sl .full [], .sl .full [], .sl .full []], .cells [.int .i64 o.rule, .int .i64 o.head, .bool o.kept, .sl .no (order.map intA), .bsl 4 (knownsT r o.head order q.1).length q.2, .sl .full []], rowF intsA 1 q.2 (knownsT r o.head order q.1)], 0⟩) (fun q => q.1 ≤ order.length ∧ (knownsT r o.head order q.1).length ≤ q.2) (fun q => order.length - q.1) (0, 0) ⟨Nat.zero_le _, Nat.le_refl _⟩ ?_ ?_
  · refine EndN.toRowAt (.bx 3 4) rfl rfl ?_
    refine EndN.at_ ?_ rfl
    conv => whnf
    refine And.intro ?_ ?_ <;> conv => whnf
    all_goals repeat' ((first | (refine gV ?_; first | refine vE ?_ | refine vI ?_ | ((refine gK ?_; refine vD ?_ ?_); (focus (simp [AV.norm, AV.norm1, knownsT, cellsOf]; done)))) | (refine gX ?_; first | refine xB ?_ | (refine BxN.mk ?_ ?_; (focus (simp [AV.norm, AV.norm1, knownsT, cellsOf]; done)))) | exact True.intro) <;> conv => whnf)
  rintro ⟨k, kc⟩ ⟨hk0, hkc⟩
  dsimp only at hk0 hkc ⊢
  have hkl := knownsT_len (r := r) (o := o.head) hk0
  by_cases hk : k < order.length
  · obtain ⟨h, hkh⟩ : ∃ h, order[k]? = some h := ⟨_, List.getElem?_eq_getElem hk⟩
    have hho := hh h (List.mem_of_getElem? hkh)
    have htk : order.take (k + 1) = order.take k ++ [h] := by
      rw [List.take_succ_eq_append_getElem hk, (List.getElem?_eq_some_iff.1 hkh).2]
    have hka := knownsT_at (r := r) (o := o.head) hkh
    have hkc' := knownsT_len (r := r) (o := o.head) (k := k + 1) hk
    conv => whnf
    repeat' ((first | (refine gG ?_; refine CallP.fn (refKnown_ok (r := r) (done := o.head :: order.take k) (head := h) hr (by simp; omega) hho.1 hho.2) ?_) | (refine gC ?_; (refine gD ?_; refine cI ?_)) | (refine gL ?_; refine .map ?_) | (refine gI ?_; (refine gM ?_; refine iE ?_))) <;> conv => whnf)
    refine aOs fun k' hk' => ?_
    conv => whnf
    repeat' ((first | (refine gW ?_; refine wI ?_) | (refine gN ?_; refine nS ?_) | (refine gI ?_; (refine gM ?_; refine iE ?_))) <;> conv => whnf)
    refine ⟨(k + 1, k'), ⟨⟨hk, by rw [hka]; exact hk'⟩, by simp; omega⟩, ?_⟩
    dsimp only
    rw [hka, htk]
    refine EndN.gcB plainIs [.cells [.str r.name, .sl .no (r.keep.map At.av), .sl .no (r.remove.map At.av), .sl .no (r.guard.map Gl.av), .sl .no (r.body.map Gl.av), .int .i64 r.vars], .cells [.int .i64 o.rule, .int .i64 o.head, .bool o.kept], .cells [.int .i64 0, .int .i64 0, .bool false, .sl .full [], .sl .full [], .sl .full []], .cells [.int .i64 o.rule, .int .i64 o.head, .bool o.kept, .sl .no (order.map intA), .top, .sl .full []]] [.dead] 3 4 _ rfl rfl rfl rfl rfl rfl ?_
    refine EndN.at_ ?_ rfl
    conv => whnf
    refine And.intro ?_ ?_ <;> conv => whnf
    all_goals repeat' ((first | (refine gV ?_; first | refine vE ?_ | refine vI ?_ | (refine WkN.sl ?_ ?_; (focus (simp [AV.norm, AV.norm1, ]; done)))) | (refine gX ?_; first | refine xB ?_ | (refine BxN.mk ?_ ?_; (focus (simp [AV.norm, AV.norm1, ]; done)))) | exact True.intro) <;> conv => whnf)
  · obtain rfl : k = order.length := by omega
    rw [List.take_length]
    conv => whnf
    repeat' ((first | (refine gF ?_; refine CallN.fn (refPlace_ok (r := r) (order := o.head :: order) hr hg (by simp; omega)) ?_) | (refine gC ?_; (refine gD ?_; refine cJ ?_)) | (refine gL ?_; refine .map ?_)) <;> conv => whnf)
    refine RetP.frozeBx plainIs 2 4 rfl rfl rfl (Nat.le_refl _) ?_
    conv => whnf
    repeat' (refine RetP.nrm ?_ <;> conv => whnf)
    rw [List.take_length]
    rfl
end Go.CK

set_option linter.unusedSimpArgs false
set_option linter.unusedVariables false
namespace Go.CK
open Go.AM Go.Proofs
theorem upI_succ (n : Nat) : upI (n + 1) = upI n ++ [(n : Int)] := by simp [upI, List.range_succ]
theorem others_filter (k : Int) : ∀ n, others k n = (upI n).filter fun x => x != k
  | 0 => rfl
  | n + 1 => by
    rw [others, others_filter k n, upI_succ, List.filter_append]
    congr 1
    by_cases h : (n : Int) = k <;> simp [h]
theorem upI_nodup (n : Nat) : (upI n).Nodup := by
  unfold upI List.Nodup
  rw [List.pairwise_map]
  exact List.Pairwise.imp (fun h => by omega) (List.nodup_range (n := n))
theorem upI_has {n : Nat} {x : Int} (h0 : 0 ≤ x) (h1 : x < n) : x ∈ upI n := by
  unfold upI
  exact List.mem_map.2 ⟨x.toNat, List.mem_range.2 (by omega), by omega⟩
theorem upI_sorted (n : Nat) : (upI n).Pairwise (fun x y => decide (x ≤ y) = true) := by
  unfold upI
  rw [List.pairwise_map]
  refine List.pairwise_lt_range.imp ?_
  intro a b h
  simp; omega
theorem upI_perm {n : Nat} {k : Int} (h0 : 0 ≤ k) (h1 : k < n) : (upI n).Perm (k :: others k n) := by
  rw [others_filter, ← (upI_nodup n).erase_eq_filter]
  exact List.perm_cons_erase (upI_has h0 h1)
theorem sortL_eq {l : List Int} {n : Nat} : sortL l = upI n ↔ l.Perm (upI n) := by
  constructor
  · intro h
    rw [← h]
    exact (List.mergeSort_perm l _).symm
  · intro h
    refine List.Perm.eq_of_pairwise (le := fun x y => decide (x ≤ y) = true) (fun a b _ _ h1 h2 => ?_) ?_ (upI_sorted n) ((List.mergeSort_perm l _).trans h)
    · simp at h1 h2; omega
    · exact List.pairwise_mergeSort (fun a b c h1 h2 => by simp at *; omega) (fun a b => by simp; omega) l
theorem perm_of_sub {α : Type} [BEq α] [LawfulBEq α] : ∀ {l m : List α}, l.Nodup → (∀ x ∈ l, x ∈ m) → m.length ≤ l.length → l.Perm m
  | [], m, _, _, hl => by
    have : m = [] := List.eq_nil_of_length_eq_zero (by simpa using hl)
    subst this; exact .nil
  | x :: l, m, hn, hs, hl => by
    have hx : x ∈ m := hs x (by simp)
    have hn' := List.nodup_cons.1 hn
    have h1 := List.perm_cons_erase hx
    have h2 : l.Perm (m.erase x) := perm_of_sub hn'.2 (fun y hy => (List.mem_erase_of_ne (fun e => hn'.1 (by rw [← e]; exact hy))).2 (hs y (by simp [hy]))) (by
      rw [List.length_erase_of_mem hx]; simp at hl; omega)
    exact (h2.cons x).trans h1.symm
end Go.CK

set_option linter.unusedSimpArgs false
set_option linter.unusedVariables false
namespace Go.CK
open Go.AM Go.Proofs
/-- the head that comes next among the first j, and its score -/
def bestT (r : Rl) (keys : List Ky) (done : List Int) : Nat → Int × Int
  | 0 => (-1, -1)
  | j + 1 => if (j : Int) ∈ done then bestT r keys done j else match r.heads[j]? with
    | none => bestT r keys done j
    | some h => if (bestT r keys done j).2 < scoreI r keys done j h then ((j : Int), scoreI r keys done j h) else bestT r keys done j
def doneT (r : Rl) (keys : List Ky) (o : Int) : Nat → List Int
  | 0 => [o]
  | k + 1 => doneT r keys o k ++ [(bestT r keys (doneT r keys o k) r.heads.length).1]
theorem doneT_len (r : Rl) (keys : List Ky) (o : Int) : ∀ k, (doneT r keys o k).length = k + 1
  | 0 => rfl
  | k + 1 => by simp [doneT, doneT_len r keys o k]
theorem bestT_in {r : Rl} {keys : List Ky} {done : List Int} {j : Nat} (h : (j : Int) ∈ done) : bestT r keys done (j + 1) = bestT r keys done j := by rw [bestT, if_pos h]
theorem bestT_out {r : Rl} {keys : List Ky} {done : List Int} {j : Nat} {h : At} (hn : ¬ (j : Int) ∈ done) (hh : r.heads[j]? = some h) : bestT r keys done (j + 1) = if (bestT r keys done j).2 < scoreI r keys done j h then ((j : Int), scoreI r keys done j h) else bestT r keys done j := by rw [bestT, if_neg hn, hh]
theorem scoreI_pos (r : Rl) (keys : List Ky) (done : List Int) (head : Int) (h : At) : 0 ≤ scoreI r keys done head h := by
  unfold scoreI
  split <;> split <;> omega
/-- what the best is, among the first j -/
theorem bestT_is {r : Rl} {keys : List Ky} {done : List Int} : ∀ {j : Nat}, j ≤ r.heads.length →
    ((bestT r keys done j = (-1, -1) ∧ ∀ i, i < j → (i : Int) ∈ done) ∨ ∃ (b : Nat) (h : At), b < j ∧ r.heads[b]? = some h ∧ ¬ (b : Int) ∈ done ∧ bestT r keys done j = ((b : Int), scoreI r keys done b h) ∧
      ∀ i g, i < j → r.heads[i]? = some g → ¬ (i : Int) ∈ done → scoreI r keys done i g ≤ scoreI r keys done b h ∧ (scoreI r keys done i g = scoreI r keys done b h → b ≤ i))
  | 0, _ => .inl ⟨rfl, fun i hi => by omega⟩
  | j + 1, hj => by
    obtain ⟨h, hh⟩ : ∃ h, r.heads[j]? = some h := ⟨_, List.getElem?_eq_getElem hj⟩
    by_cases hd : (j : Int) ∈ done
    · rw [bestT_in hd]
      rcases bestT_is (r := r) (keys := keys) (done := done) (j := j) (by omega) with ⟨h1, h2⟩ | ⟨b, g, h1, h2, h3, h4, h5⟩
      · exact .inl ⟨h1, fun i hi => by
          rcases Nat.lt_or_eq_of_le (Nat.le_of_lt_succ hi) with q | q
          · exact h2 i q
          · rw [q]; exact hd⟩
      · refine .inr ⟨b, g, by omega, h2, h3, h4, fun i g' hi hg hn => ?_⟩
        rcases Nat.lt_or_eq_of_le (Nat.le_of_lt_succ hi) with q | q
        · exact h5 i g' q hg hn
        · rw [q] at hn; exact absurd hd hn
    · rw [bestT_out hd hh]
      rcases bestT_is (r := r) (keys := keys) (done := done) (j := j) (by omega) with ⟨h1, h2⟩ | ⟨b, g, h1, h2, h3, h4, h5⟩
      · have := scoreI_pos r keys done j h
        rw [h1, if_pos (by simp only; omega)]
        refine .inr ⟨j, h, by omega, hh, hd, rfl, fun i g' hi hg hn => ?_⟩
        rcases Nat.lt_or_eq_of_le (Nat.le_of_lt_succ hi) with q | q
        · exact absurd (h2 i q) hn
        · subst q
          rw [hh] at hg; cases hg
          exact ⟨Int.le_refl _, fun _ => Nat.le_refl _⟩
      · rw [h4]
        dsimp only
        split
        · rename_i hlt
          refine .inr ⟨j, h, by omega, hh, hd, rfl, fun i g' hi hg hn => ?_⟩
          rcases Nat.lt_or_eq_of_le (Nat.le_of_lt_succ hi) with q | q
          · have := h5 i g' q hg hn
            exact ⟨by omega, fun e => by omega⟩
          · subst q
            rw [hh] at hg; cases hg
            exact ⟨Int.le_refl _, fun _ => Nat.le_refl _⟩
        · rename_i hlt
          refine .inr ⟨b, g, by omega, h2, h3, rfl, fun i g' hi hg hn => ?_⟩
          rcases Nat.lt_or_eq_of_le (Nat.le_of_lt_succ hi) with q | q
          · exact h5 i g' q hg hn
          · subst q
            rw [hh] at hg; cases hg
            exact ⟨by omega, fun _ => by omega⟩
/-- while some heads are left, the best is one of them -/
theorem best_left {r : Rl} {keys : List Ky} {done : List Int} (hl : done.length < r.heads.length) : ∃ (b : Nat) (h : At), b < r.heads.length ∧ r.heads[b]? = some h ∧ ¬ (b : Int) ∈ done ∧ bestT r keys done r.heads.length = ((b : Int), scoreI r keys done b h) ∧
      ∀ i g, i < r.heads.length → r.heads[i]? = some g → ¬ (i : Int) ∈ done → scoreI r keys done i g ≤ scoreI r keys done b h ∧ (scoreI r keys done i g = scoreI r keys done b h → b ≤ i) := by
  rcases bestT_is (r := r) (keys := keys) (done := done) (Nat.le_refl _) with ⟨_, h2⟩ | h
  · exfalso
    have hs : ∀ x ∈ upI r.heads.length, x ∈ done := fun x hx => by
      obtain ⟨j, hj, rfl⟩ := List.mem_map.1 hx
      exact h2 j (List.mem_range.1 hj)
    have := (perm_of_sub (upI_nodup r.heads.length) hs (by rw [upI_len]; omega)).length_eq
    rw [upI_len] at this
    omega
  · exact h
/-- the heads done: different ones -/
theorem doneT_ok {r : Rl} {keys : List Ky} {o : Int} (h0 : 0 ≤ o) (h1 : o < r.heads.length) : ∀ {k : Nat}, k + 1 ≤ r.heads.length → (doneT r keys o k).Nodup ∧ ∀ x ∈ doneT r keys o k, 0 ≤ x ∧ x < r.heads.length
  | 0, _ => ⟨by simp [doneT], fun x hx => by simp [doneT] at hx; subst hx; exact ⟨h0, h1⟩⟩
  | k + 1, hk => by
    obtain ⟨q1, q2⟩ := doneT_ok (r := r) (keys := keys) h0 h1 (k := k) (by omega)
    obtain ⟨b, h, h2, h3, h4, h5, _⟩ := best_left (r := r) (keys := keys) (done := doneT r keys o k) (by rw [doneT_len]; omega)
    rw [doneT, h5]
    refine ⟨List.nodup_append.2 ⟨q1, by simp, fun x hx y hy e => ?_⟩, fun x hx => ?_⟩
    · simp at hy
      subst hy
      exact h4 (e ▸ hx)
    · rcases List.mem_append.1 hx with hx | hx
      · exact q2 x hx
      · simp at hx
        subst hx
        omega
def orderT (r : Rl) (keys : List Ky) (o : Int) : List Int := (doneT r keys o (r.heads.length - 1)).drop 1
theorem doneT_head (r : Rl) (keys : List Ky) (o : Int) : ∀ k, doneT r keys o k = o :: (doneT r keys o k).drop 1
  | 0 => rfl
  | k + 1 => by
    have := doneT_head r keys o k
    conv => lhs; rw [doneT, this]
    conv => rhs; rw [doneT, this]
    simp
theorem orderT_perm {r : Rl} {keys : List Ky} {o : Int} (h0 : 0 ≤ o) (h1 : o < r.heads.length) : (o :: orderT r keys o).Perm (upI r.heads.length) := by
  rw [orderT, ← doneT_head]
  obtain ⟨q1, q2⟩ := doneT_ok (r := r) (keys := keys) h0 h1 (k := r.heads.length - 1) (by omega)
  exact perm_of_sub q1 (fun x hx => upI_has (q2 x hx).1 (q2 x hx).2) (by rw [upI_len, doneT_len]; omega)
def Pl.zero : Pl := ⟨⟨0, 0, false⟩, [], [], []⟩
def ofI (p : Pg) (keys : List Ky) (o : Oc) : Pl := if o ∈ p.occs then match p.rules[o.rule.toNat]? with
  | none => Pl.zero
  | some r => planI r o (orderT r keys o.head) else Pl.zero
set_option maxRecDepth 100000 in
set_option maxHeartbeats 1000000 in
theorem of_ok {p : Pg} {keys : List Ky} {o : Oc} (hp : p.fit) (hk : keys.length ≤ 100000) : Fun Tryz.prog 9 [p.av, slA Ky.av keys, o.av] (ofI p keys o).av := by
  by_cases hocc : o ∈ p.occs
  · obtain ⟨r, hr, h1, h2, h3, h4⟩ := occs_mem hocc
    have hrm := List.mem_of_getElem? hr
    have hr2 := hp.ok2 r hrm
    have hrg := hp.okG r hrm
    have hhl : r.heads.length ≤ 8 := by rw [Rl.heads_len]; exact hr2.1
    have hcon : Fun Tryz.prog 21 [slA Oc.av p.occs, o.av] (.bool true) := by
      have := containsOc_ok (l := p.occs) (o := o)
      rwa [decide_eq_true hocc] at this
    rw [ofI, if_pos hocc, hr]
    dsimp only
    refine Fun.of (op_plan_Of (by simp) ?_) rfl rfl
    conv => whnf
    conv => whnf
    repeat' ((first | (refine gF ?_; refine CallN.fn (of_yes h1 hr hr2) ?_) | (refine gG ?_; first | refine CallP.fn (all_ok hp.ok hp.few) ?_ | refine CallP.fn (hcon) ?_) | (refine gC ?_; first | refine cY ?_ | refine .not ?_)) <;> conv => whnf)
    refine LoopP.count (fb := true) (r.heads.length - 1) (fun st_ k => st_.sets [(9, .sl (.own 1) ((doneT r keys o.head k).map intA))]) (fun _ => True) trivial ?_ (fun k hk _ => ?_) (fun _ => ?_)
    · refine EndN.at_ ?_ rfl
      conv => whnf
      refine And.intro ?_ ?_ <;> conv => whnf
      all_goals repeat' ((first | (refine gV ?_; first | refine vE ?_ | ((refine gK ?_; refine vD ?_ ?_); (focus (simp [AV.norm, AV.norm1, doneT]; done)))) | (refine gX ?_; refine xB ?_) | exact True.intro) <;> conv => whnf)
    · have hdl := doneT_len r keys o.head k
      conv => whnf
      repeat' ((first | (refine gC ?_; (refine gD ?_; refine cI ?_)) | (refine gL ?_; refine .map ?_)) <;> conv => whnf)
      refine LoopP.count (fb := true) r.heads.length (fun st_ j => st_.sets [(10, .int .i64 (bestT r keys (doneT r keys o.head k) j).1), (11, .int .i64 (bestT r keys (doneT r keys o.head k) j).2), (39, .int .i64 j)]) (fun _ => True) trivial ?_ (fun j hj _ => ?_) (fun _ => ?_)
      · refine EndN.at_ ?_ rfl
        conv => whnf
        refine And.intro ?_ ?_ <;> conv => whnf
        all_goals repeat' ((first | (refine gV ?_; first | refine vE ?_ | refine vI ?_ | (refine WkN.norm ?_ ?_; (focus (simp [AV.norm, AV.norm1, bestT]; done)))) | (refine gX ?_; refine xB ?_) | exact True.intro) <;> conv => whnf)
      · obtain ⟨h, hh⟩ : ∃ h, r.heads[j]? = some h := ⟨_, List.getElem?_eq_getElem hj⟩
        conv => whnf
        repeat' ((first | (refine gF ?_; first | refine CallN.fn (contains_ok (l := doneT r keys o.head k) (n := j)) ?_ | refine CallN.fn (score_ok (r := r) (keys := keys) (done := doneT r keys o.head k) (head := j) (h := h) hr2 (by omega) (by omega) (by omega) (by omega) (by simpa using hh)) ?_) | (refine gC ?_; first | (refine gD ?_; refine cI ?_) | refine CondN.lt (fun hc => ?_) (fun hc => ?_) | refine CondN.dec (fun hc => ?_) (fun hc => ?_)) | (refine gW ?_; refine wI ?_)) <;> conv => whnf)
        · have hb := bestT_in (r := r) (keys := keys) (by assumption : (j : Int) ∈ doneT r keys o.head k)
          refine ⟨trivial, ?_⟩
          refine EndN.at_ ?_ rfl
          conv => whnf
          refine And.intro ?_ ?_ <;> conv => whnf
          all_goals repeat' ((first | (refine gV ?_; first | refine vE ?_ | refine vI ?_ | (refine WkN.norm ?_ ?_; (focus (simp [AV.norm, AV.norm1, hb]; done)))) | (refine gX ?_; refine xB ?_) | exact True.intro) <;> conv => whnf)
        · have hb := bestT_out (keys := keys) (by assumption : ¬ (j : Int) ∈ doneT r keys o.head k) hh
          rw [if_pos (by assumption)] at hb
          refine ⟨trivial, ?_⟩
          refine EndN.at_ ?_ rfl
          conv => whnf
          refine And.intro ?_ ?_ <;> conv => whnf
          all_goals repeat' ((first | (refine gV ?_; first | refine vE ?_ | refine vI ?_ | (refine WkN.norm ?_ ?_; (focus (simp [AV.norm, AV.norm1, hb]; done)))) | (refine gX ?_; refine xB ?_) | exact True.intro) <;> conv => whnf)
        · have hb := bestT_out (keys := keys) (by assumption : ¬ (j : Int) ∈ doneT r keys o.head k) hh
          rw [if_neg (by omega)] at hb
          refine ⟨trivial, ?_⟩
          refine EndN.at_ ?_ rfl
          conv => whnf
          refine And.intro ?_ ?_ <;> conv => whnf
          all_goals repeat' ((first | (refine gV ?_; first | refine vE ?_ | refine vI ?_ | (refine WkN.norm ?_ ?_; (focus (simp [AV.norm, AV.norm1, hb]; done)))) | (refine gX ?_; refine xB ?_) | exact True.intro) <;> conv => whnf)
      · conv => whnf
        repeat' ((first | (refine gC ?_; (refine gD ?_; refine cJ ?_)) | (refine gN ?_; refine nS ?_)) <;> conv => whnf)
        refine ⟨trivial, ?_⟩
        refine EndN.at_ ?_ rfl
        conv => whnf
        refine And.intro ?_ ?_ <;> conv => whnf
        all_goals repeat' ((first | (refine gV ?_; first | refine vE ?_ | (refine WkN.sl ?_ ?_; (focus (simp [AV.norm, AV.norm1, doneT]; done)))) | (refine gX ?_; refine xB ?_) | exact True.intro) <;> conv => whnf)
    · have hdl := doneT_len r keys o.head (r.heads.length - 1)
      have hpm := orderT_perm (r := r) (keys := keys) h2 h3
      have hh : ∀ h ∈ orderT r keys o.head, 0 ≤ h ∧ h < r.heads.length := fun h hm => upI_mem (hpm.mem_iff.1 (List.mem_cons_of_mem _ hm))
      have hol : (orderT r keys o.head).length ≤ 90 := by
        rw [orderT, List.length_drop, hdl]; omega
      have hor := ordered_ok (o := o) (order := orderT r keys o.head) hr2 hrg hol hh
      rw [orderT] at hor ⊢
      generalize doneT r keys o.head (r.heads.length - 1) = dn at *
      have hdr : AV.sl .no (List.drop (Int.toNat 1) (List.take (((dn.map intA).length : Int)).toNat (dn.map intA))) = slA intA (dn.drop 1) := by
        rw [Int.toNat_natCast, List.take_length]
        simp [slA, List.map_drop]
      rw [← hdr] at hor
      conv => whnf
      repeat' ((first | (refine gG ?_; refine CallP.fn (hor) ?_) | (refine gC ?_; (refine gD ?_; refine cJ ?_)) | (refine gL ?_; refine .map ?_) | (refine gN ?_; refine nS ?_) | refine RetP.nrm ?_) <;> conv => whnf)
      rfl
  · rw [ofI, if_neg hocc]
    have hcon : Fun Tryz.prog 21 [slA Oc.av p.occs, o.av] (.bool false) := by
      have := containsOc_ok (l := p.occs) (o := o)
      rwa [decide_eq_false hocc] at this
    refine Fun.of (op_plan_Of (by simp) ?_) rfl rfl
    conv => whnf
    conv => whnf
    repeat' ((first | (refine gG ?_; first | refine CallP.fn (all_ok hp.ok hp.few) ?_ | refine CallP.fn (hcon) ?_) | (refine gC ?_; first | refine cN ?_ | refine .not ?_) | refine RetP.nrm ?_) <;> conv => whnf)
    rfl
end Go.CK

