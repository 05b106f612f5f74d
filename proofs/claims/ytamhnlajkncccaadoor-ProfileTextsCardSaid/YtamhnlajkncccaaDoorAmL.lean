/-
  THE ABSTRACT MACHINE, 13b: loops over iterators. No function of the program is named here. By an AI agent.
-/
import Derived.Test.YtamhnlajkncccaaDoorAmZm
set_option linter.unusedSimpArgs false
set_option linter.unusedVariables false
namespace Go.AM
open Go.CK Go.RowKit

section
variable {E : Entry} {G : Gh} {s : St} {a : Act} {w : World} {P : Program}

theorem mark_inj {D D' : Nat} (h : mark D = mark D') : D = D' := by
  simp only [mark, Deferred.mk.injEq, Target.collected.injEq] at h
  exact h.1

/-- a mark is come to -/
theorem RS.unmark (h : RS E G s a w) {D : Nat} {ds : List Deferred} (hd : a.defers = mark D :: ds) : (Instr.takeDeferred D).run P w = .ok [] (w.putObj D (.deferred none)) ∧ RS E G s ⟨a.tmps, ds⟩ (w.putObj D (.deferred none)) := by
  obtain ⟨h1, h2, h3⟩ := h.sp.ob D (.deferred (some [])) (.inr ⟨by rw [hd]; simp, rfl⟩)
  refine ⟨run_takeDeferred h1, ?_⟩
  obtain ⟨Ds, hDs, hnd⟩ := h.sp.ds
  rw [hd] at hDs
  cases Ds with
  | nil => cases hDs
  | cons D' Ds =>
    simp only [List.map_cons, List.cons.injEq] at hDs
    obtain ⟨e1, e2⟩ := hDs
    have := mark_inj e1
    subst this
    refine h.turn (.deferred none) h1 rfl h3 rfl (fun _ => rfl) ⟨fun B o hs => ?_, h.sp.base, h.sp.inj, Ds, e2, (List.nodup_cons.1 hnd).2⟩
    have hs' : Spc G.σ s.bs a.defers B o := by
      rcases hs with hs | ⟨hm, ho⟩
      · exact .inl hs
      · exact .inr ⟨by rw [hd]; exact List.mem_cons_of_mem _ hm, ho⟩
    obtain ⟨h4, h5, h6⟩ := h.sp.ob B o hs'
    have hne : B ≠ D := fun e => by
      subst e
      rcases hs with ⟨b, x, hb, e, ho⟩ | ⟨hm, ho⟩
      · exact x.obj_nd (h1.symm.trans (ho ▸ h4))
      · rw [e2, List.mem_map] at hm
        obtain ⟨D', hD', e⟩ := hm
        have := mark_inj e
        subst this
        exact (List.nodup_cons.1 hnd).1 hD'
    exact ⟨by rw [World.putObj_heap_other hne]; exact h4, h5, h6⟩

/-- the way out of a function, marks and all -/
theorem RS.leaves {fn : Func} {R : Ending → World → Prop} : ∀ (ds : List Deferred) {a : Act} {w : World}, RS E G s a w → a.defers = ds →
    (∀ w', RS E G s ⟨a.tmps, []⟩ w' → LeavesIn (F0 none) 0 P fn a.tmps R [] .returning w') → LeavesInM (F0 none) 0 P fn a.tmps R ds .returning w
  | [], a, w, h, hd, k => k w (by rw [← hd]; exact h)
  | d :: ds, a, w, h, hd, k => by
    obtain ⟨Ds, hDs, _⟩ := h.sp.ds
    rw [hd] at hDs
    cases Ds with
    | nil => cases hDs
    | cons D Ds =>
      simp only [List.map_cons, List.cons.injEq] at hDs
      obtain ⟨rfl, _⟩ := hDs
      obtain ⟨h1, h2⟩ := h.unmark (P := P) hd
      exact ⟨by simp, .inl ⟨D, _, rfl, h1, RS.leaves (a := ⟨a.tmps, ds⟩) ds h2 rfl k⟩⟩

/-- the same, seen from another beginning -/
theorem RS.reE {E' : Entry} (h : RS E G s a w) (hfr : Fr E'.FP E'.M E'.w G.M w) (hm : ∀ B, E.FP B ∨ E.w.heap.size ≤ B → E'.FP B ∨ E'.w.heap.size ≤ B) (hnt : E'.nt = E.nt) (hnb : E'.nb = E.nb) (hσ : E'.σ0 = E.σ0) : RS E' G s a w :=
  ⟨hfr, h.ok, h.nt.trans hnt.symm, h.val, h.one, h.box, fun b cs hb => ⟨(h.bmem b cs hb).1, hm _ (h.bmem b cs hb).2⟩, h.inj, fun p z l hp => by
    obtain ⟨ad, k, h1, h2, h3⟩ := h.own p z l hp
    refine ⟨ad, k, h1, h2, ?_⟩
    rcases h3 with h3 | ⟨B, hB, h4, h5⟩
    · exact .inl h3
    · exact .inr ⟨B, hB, h4, h5.lt, h5.cells, h5.free, hm _ h5.mine⟩, h.clinj, h.clbox, fun p B hB => ⟨(h.cllt p B hB).1, hm _ (h.cllt p B hB).2⟩, h.lo.trans hnb.symm, by rw [hnb]; exact h.len, by rw [hnb, hσ]; exact h.sig,
    h.sp.step (Hp.le_refl _) (fun _ _ => rfl) (fun _ _ k => k) (fun _ _ k _ => k) (fun _ _ _ _ p k => ⟨p, k⟩) hm⟩

/-- what a state speaks of -/
def All (G : Gh) (bs : List Box) (ds : List Deferred) (B : Nat) : Prop := (∃ b cs, boxCells bs b = some cs ∧ G.σ b = B) ∨ (∃ p, G.cl p = some B) ∨ (∃ o, Spc G.σ bs ds B o)
/-- to begin anew -/
theorem RS.rebase (h : RS E G s a w) : RS ⟨All G s.bs a.defers, G.M, w, E.nt, E.nb, E.σ0⟩ G s a w :=
  ⟨Fr.refl _ _ _, h.ok, h.nt, h.val, h.one, h.box, fun b cs hb => ⟨(h.bmem b cs hb).1, .inl (.inl ⟨b, cs, hb, rfl⟩)⟩, h.inj, fun p z l hp => by
    obtain ⟨ad, k, h1, h2, h3⟩ := h.own p z l hp
    refine ⟨ad, k, h1, h2, ?_⟩
    rcases h3 with h3 | ⟨B, hB, h4, h5⟩
    · exact .inl h3
    · exact .inr ⟨B, hB, h4, h5.lt, h5.cells, h5.free, .inl (.inr (.inl ⟨p, hB⟩))⟩, h.clinj, h.clbox, fun p B hB => ⟨(h.cllt p B hB).1, .inl (.inr (.inl ⟨p, hB⟩))⟩, h.lo, h.len, h.sig,
    ⟨fun B o hs => ⟨(h.sp.ob B o hs).1, (h.sp.ob B o hs).2.1, .inl (.inr (.inr ⟨o, hs⟩))⟩, h.sp.base, h.sp.inj, h.sp.ds⟩⟩
theorem RS.all_mine (h : RS E G s a w) {B : Nat} (hB : All G s.bs a.defers B) : E.FP B ∨ E.w.heap.size ≤ B := by
  rcases hB with ⟨b, cs, hb, rfl⟩ | ⟨p, hp⟩ | ⟨o, hs⟩
  · exact (h.bmem b cs hb).2
  · exact (h.cllt p B hp).2
  · exact (h.sp.ob B o hs).2.2

/-- slots that own nothing -/
theorem RS.slots {bs : List Box} {lo : Nat} (h0 : RS E G ⟨[], bs, lo⟩ a w) {env : List (Nat × AV)} (he : ∀ t y, envGet env t = some y → RV G.M G.σ bs.length y (a.tmps.getD t undef)) : RS E G ⟨env, bs, lo⟩ a w := by
  have hat : ∀ p x, (⟨env, bs, lo⟩ : St).at p = some x → (∃ t, p = .sl t ∧ envGet env t = some x) ∨ (∃ b j, p = .bx b j ∧ (⟨[], bs, lo⟩ : St).at (.bx b j) = some x) := fun p x hp => by
    cases p with
    | sl t => exact .inl ⟨t, rfl, hp⟩
    | bx b j => exact .inr ⟨b, j, rfl, hp⟩
  refine ⟨h0.fr, h0.ok, h0.nt, fun p x hp => ?_, fun b j x hp => h0.one b j x hp, h0.box, h0.bmem, h0.inj, fun p z l hp => ?_, h0.clinj, h0.clbox, h0.cllt, h0.lo, h0.len, h0.sig, h0.sp⟩
  · rcases hat p x hp with ⟨t, rfl, ht⟩ | ⟨b, j, rfl, hx⟩
    · have h1 := he t x ht
      show RV G.M G.σ bs.length x.deown (a.tmps.getD t undef)
      rw [h1.deown_of]; exact h1
    · exact h0.val _ _ hx
  · rcases hat p _ hp with ⟨t, rfl, ht⟩ | ⟨b, j, rfl, hx⟩
    · have := (he t _ ht).deown_of
      simp [AV.deown] at this
    · exact h0.own _ _ _ hx

def noSlots (cl : Pl → Option Nat) : Pl → Option Nat
  | .sl _ => none
  | .bx b j => cl (.bx b j)

/-- the boxes, seen from elsewhere -/
theorem RS.reAct (h : RS E G s a w) (E' : Entry) (a' : Act) (hfr : Fr E'.FP E'.M E'.w G.M w) (hnt : a'.tmps.size = E'.nt) (lo : Nat) (hlo : lo = E'.nb) (hlen : E'.nb ≤ s.bs.length) (hsig : ∀ b, b < E'.nb → G.σ b = E'.σ0 b)
    (hmine : ∀ B, (FPof G s.bs B) → E'.FP B ∨ E'.w.heap.size ≤ B) (hds : a'.defers = []) : RS E' { G with cl := noSlots G.cl } ⟨[], s.bs, lo⟩ a' w := by
  have hat : ∀ p x, (⟨[], s.bs, lo⟩ : St).at p = some x → ∃ b j, p = .bx b j ∧ s.at (.bx b j) = some x := fun p x hp => by
    cases p with
    | sl t => simp [St.at, envGet] at hp
    | bx b j => exact ⟨b, j, rfl, hp⟩
  have hcl : ∀ p B, noSlots G.cl p = some B → ∃ b j, p = .bx b j ∧ G.cl (.bx b j) = some B := fun p B hp => by
    cases p with
    | sl t => cases hp
    | bx b j => exact ⟨b, j, rfl, hp⟩
  refine ⟨hfr, h.ok, hnt, fun p x hp => ?_, fun b j x hp => ?_, h.box, fun b cs hb => ⟨(h.bmem b cs hb).1, hmine _ (.inl ⟨b, cs, hb, rfl⟩)⟩, h.inj, fun p z l hp => ?_, fun p q B hp hq => ?_, fun p B hB b cs hb => ?_, fun p B hB => ?_, hlo, hlen, hsig, ?_⟩
  · obtain ⟨b, j, rfl, hx⟩ := hat p x hp
    exact h.val _ _ hx
  · exact h.one b j x hp
  · obtain ⟨b, j, rfl, hx⟩ := hat p _ hp
    obtain ⟨ad, k, h1, h2, h3⟩ := h.own _ _ _ hx
    refine ⟨ad, k, h1, h2, ?_⟩
    rcases h3 with h3 | ⟨B, hB, h4, h5⟩
    · exact .inl h3
    · exact .inr ⟨B, hB, h4, h5.lt, h5.cells, h5.free, hmine B (.inr (.inl ⟨b, j, hB⟩))⟩
  · obtain ⟨b, j, rfl, hx⟩ := hcl p B hp
    obtain ⟨b', j', rfl, hx'⟩ := hcl q B hq
    exact h.clinj _ _ B hx hx'
  · obtain ⟨b', j, rfl, hx⟩ := hcl p B hB
    exact h.clbox _ B hx b cs hb
  · obtain ⟨b, j, rfl, hx⟩ := hcl p B hB
    exact ⟨(h.cllt _ B hx).1, hmine B (.inr (.inl ⟨b, j, hx⟩))⟩
  · rw [hds]
    refine ⟨fun B o hs => ?_, h.sp.base, h.sp.inj, [], rfl, .nil⟩
    rcases hs with ⟨b, x, hb, e, ho⟩ | ⟨hmem, _⟩
    · obtain ⟨h1, h2, _⟩ := h.sp.ob B o (.inl ⟨b, x, hb, e, ho⟩)
      refine ⟨h1, fun p hp => ?_, hmine B (.inr (.inr ⟨b, x, hb, e⟩))⟩
      obtain ⟨b', j, rfl, hx⟩ := hcl p B hp
      exact h2 _ hx
    · cases hmem


/-! ### a loop's record -/
theorem boxCells_loop {bs : List Box} {x : LB} (b : Nat) : boxCells (bs ++ [.loop x]) b = boxCells bs b := by
  rw [boxCells_append]
  split
  · rename_i e; subst e; simp [boxCells, Box.cs?]
  · rfl
theorem boxLoop_snoc {bs : List Box} {x : LB} (b : Nat) : boxLoop (bs ++ [.loop x]) b = if b = bs.length then some x else boxLoop bs b := by
  simp only [boxLoop]
  by_cases h : b < bs.length
  · rw [List.getElem?_append_left h, if_neg (by omega)]
  · by_cases h2 : b = bs.length
    · subst h2; simp [Box.lb?]
    · rw [if_neg h2, List.getElem?_eq_none (by simp; omega), List.getElem?_eq_none (by omega)]

theorem RS.newLoop (h : RS E G s a w) (r : Loop) :
    RS E ⟨G.M, fun b => if b = s.bs.length then w.heap.size + 1 else G.σ b, G.cl⟩ ⟨s.env, s.bs ++ [.loop ⟨G.M, G.σ, s.bs.length, r, none⟩], s.lo⟩ ⟨a.tmps, mark w.heap.size :: a.defers⟩ ((w.alloc (.deferred (some []))).alloc (.loop r)) := by
  have hw : ∀ B, B < w.heap.size → ((w.alloc (.deferred (some []))).alloc (.loop r)).heap[B]? = w.heap[B]? := fun B hB => (Below.heap_alloc _ _ _ (by simp; omega)).trans (Below.heap_alloc _ _ _ hB)
  have hg := h.grow (M' := G.M) (w' := (w.alloc (.deferred (some []))).alloc (.loop r)) ⟨rfl, rfl, rfl, by simp; omega, Hp.le_refl _, fun B hB _ => hw B hB, fun _ _ _ _ => rfl⟩ (fun b o v hv => by
    have := h.ok b o v hv
    simp only [Hp.of] at this ⊢
    rw [cell_heap (hw b (Hp.lt h.ok hv))]; exact this)
  have hsz : E.w.heap.size ≤ w.heap.size := h.fr.size
  have hL : ((w.alloc (.deferred (some []))).alloc (.loop r)).heap[w.heap.size + 1]? = some (.loop r) := by
    have := World.alloc_heap_new (w.alloc (.deferred (some []))) (.loop r)
    rwa [World.size_alloc] at this
  have hD : ((w.alloc (.deferred (some []))).alloc (.loop r)).heap[w.heap.size]? = some (.deferred (some [])) := (Below.heap_alloc _ _ _ (by simp)).trans (World.alloc_heap_new w _)
  generalize (w.alloc (.deferred (some []))).alloc (.loop r) = w' at *
  have hat : ∀ p, (⟨s.env, s.bs ++ [.loop ⟨G.M, G.σ, s.bs.length, r, none⟩], s.lo⟩ : St).at p = s.at p := fun p => by
    cases p with
    | sl t => rfl
    | bx b j => simp only [St.at, boxCells_loop]
  have hσ : ∀ b, b < s.bs.length → (if b = s.bs.length then w.heap.size + 1 else G.σ b) = G.σ b := fun b hb => by rw [if_neg (by omega)]
  have hval : ∀ p x, s.at p = some x → valAt (fun b => if b = s.bs.length then w.heap.size + 1 else G.σ b) ⟨a.tmps, mark w.heap.size :: a.defers⟩ w' p = valAt G.σ a w' p := fun p x hp => by
    cases p with
    | sl t => rfl
    | bx b j =>
      simp only [St.at] at hp
      cases hb : boxCells s.bs b with
      | none => rw [hb] at hp; cases hp
      | some cs => simp only [valAt]; rw [hσ b (boxCells_lt hb)]
  have hnocl : ∀ B, w.heap.size ≤ B → ∀ p, G.cl p ≠ some B := fun B hB p hp => by
    have := (h.cllt p B hp).1
    omega
  refine ⟨hg.fr, hg.ok, h.nt, fun p x hp => ?_, fun b j x hp => ?_, fun b cs hb => ?_, fun b cs hb => ?_, fun b b' cs cs' hb hb' e => ?_, fun p z l hp => ?_, h.clinj, fun p B hB b cs hb => ?_, hg.cllt, h.lo, by simp only [List.length_append]; exact Nat.le_add_right_of_le h.len, fun b hb => ?_, ?_⟩
  · rw [hat] at hp
    rw [hval p x hp]
    exact (hg.val p x hp).mono (Hp.le_refl _) (by simp) hσ
  · rw [hat] at hp
    rw [hval _ x hp]; exact hg.one b j x hp
  · rw [boxCells_loop] at hb
    simp only [hσ b (boxCells_lt hb)]
    exact hg.box b cs hb
  · rw [boxCells_loop] at hb
    simp only [hσ b (boxCells_lt hb)]
    exact hg.bmem b cs hb
  · rw [boxCells_loop] at hb hb'
    simp only [hσ b (boxCells_lt hb), hσ b' (boxCells_lt hb')] at e
    exact h.inj b b' cs cs' hb hb' e
  · rw [hat] at hp
    rw [hval p _ hp]; exact hg.own p z l hp
  · rw [boxCells_loop] at hb
    simp only [hσ b (boxCells_lt hb)]
    exact h.clbox p B hB b cs hb
  · have := h.len
    simp only [hσ b (by omega)]
    exact h.sig b hb
  · have hold : ∀ b x, boxLoop s.bs b = some x → G.σ b < w.heap.size := fun b x hb => (Array.getElem?_eq_some_iff.1 (h.sp.ob _ _ (.inl ⟨b, x, hb, rfl, rfl⟩)).1).1
    obtain ⟨Ds, hDs, hnd⟩ := h.sp.ds
    refine ⟨fun B o hs => ?_, fun b x hb => ?_, fun b b' x x' hb hb' e => ?_, w.heap.size :: Ds, by simp [hDs], List.nodup_cons.2 ⟨fun hm => ?_, hnd⟩⟩
    · rcases hs with ⟨b, x, hb, e, rfl⟩ | ⟨hm, rfl⟩
      · rw [boxLoop_snoc] at hb
        split at hb
        · rename_i eb
          cases hb
          simp only [eb, if_true] at e
          subst e
          exact ⟨hL, hnocl _ (by omega), .inr (by omega)⟩
        · simp only at e
          rw [hσ b (boxLoop_lt hb)] at e
          exact hg.sp.ob B _ (.inl ⟨b, x, hb, e, rfl⟩)
      · rcases List.mem_cons.1 hm with hm | hm
        · have := mark_inj hm
          subst this
          exact ⟨hD, hnocl _ (Nat.le_refl _), .inr hsz⟩
        · exact hg.sp.ob B _ (.inr ⟨hm, rfl⟩)
    · rw [boxLoop_snoc] at hb
      split at hb
      · rename_i eb
        cases hb
        exact ⟨Hp.le_refl _, by simp only; omega, fun c hc => hσ c hc⟩
      · obtain ⟨h1, h2, h3⟩ := h.sp.base b x hb
        have := boxLoop_lt hb
        exact ⟨h1, h2, fun c hc => (hσ c (by omega)).trans (h3 c hc)⟩
    · rw [boxLoop_snoc] at hb hb'
      split at hb
      · rename_i eb
        split at hb'
        · rename_i eb'; rw [eb, eb']
        · have := hold b' x' hb'
          simp only at e
          rw [hσ b' (boxLoop_lt hb'), if_pos eb] at e
          omega
      · split at hb'
        · rename_i eb'
          have := hold b x hb
          simp only at e
          rw [hσ b (boxLoop_lt hb), if_pos eb'] at e
          omega
        · simp only [hσ b (boxLoop_lt hb), hσ b' (boxLoop_lt hb')] at e
          exact h.sp.inj b b' x x' hb hb' e
    · have h1 := (h.sp.ob w.heap.size _ (.inr ⟨by rw [hDs]; exact List.mem_map.2 ⟨_, hm, rfl⟩, rfl⟩)).1
      have := (Array.getElem?_eq_some_iff.1 h1).1
      omega

/-! ### a round -/
def LB.done (x : LB) (c : Code) : LB := { x with r := { x.r with state := .done, pending := some c } }
/-- how a round of the loop ends -/
def roundQ (x : LB) (b : Nat) (Q : AV → List Box → Prop) : AX → St → Prop
  | .normal, s => Q (.bool true) (s.bs.set b (.loop x))
  | .ret, s => Q (.bool false) (s.bs.set b (.loop (x.done .ret)))
  | .exit id, s => Q (.bool false) (s.bs.set b (.loop (x.done (.exit id))))
def putAll : List (Nat × AV) → List Nat → List AV → List (Nat × AV)
  | e, p :: ps, v :: vs => putAll (envPut e p v) ps vs
  | e, _, _ => e
def deownEnv : List (Nat × AV) → List (Nat × AV)
  | [] => []
  | (t, v) :: r => (t, v.deown) :: deownEnv r
theorem deownEnv_get : ∀ (e : List (Nat × AV)) (t : Nat) (y : AV), envGet (deownEnv e) t = some y → ∃ x, envGet e t = some x ∧ y = x.deown
  | [], t, y, h => by cases h
  | (k, v) :: r, t, y, h => by
    simp only [deownEnv, envGet] at h ⊢
    cases hb : Nat.beq k t with
    | true => rw [hb] at h; cases h; exact ⟨v, rfl, rfl⟩
    | false => rw [hb] at h; exact deownEnv_get r t y h

theorem putAll_ok {M : Hp} {σ : Nat → Nat} {n : Nat} : ∀ (ps : List Nat) (vals : List AV) (args : List Value) (env : List (Nat × AV)) (tmps : Array Value), args.length = vals.length → (∀ p ∈ ps, p < tmps.size) →
    (∀ t y, envGet env t = some y → RV M σ n y (tmps.getD t undef)) → (∀ j (h : j < vals.length) v, args[j]? = some v → RV M σ n vals[j] v) →
    (∀ t y, envGet (putAll env ps vals) t = some y → RV M σ n y (((ps.zip args).foldl (fun t (p, v) => t.setIfInBounds p v) tmps).getD t undef)) ∧ ((ps.zip args).foldl (fun t (p, v) => t.setIfInBounds p v) tmps).size = tmps.size
  | [], vals, args, env, tmps, _, _, h, _ => by cases vals <;> exact ⟨h, rfl⟩
  | p :: ps, [], [], env, tmps, _, _, h, _ => ⟨h, rfl⟩
  | p :: ps, v :: vals, u :: args, env, tmps, hl, hp, h, hv => by
    have hsz : (tmps.setIfInBounds p u).size = tmps.size := by simp
    have := putAll_ok ps vals args (envPut env p v) (tmps.setIfInBounds p u) (by simpa using hl) (fun q hq => by rw [hsz]; exact hp q (List.mem_cons_of_mem _ hq)) (fun t y hy => by
      rw [envGet_put] at hy
      split at hy
      · rename_i e
        subst e
        cases hy
        have : (tmps.setIfInBounds t u).getD t undef = u := by
          have := hp t (by simp)
          simp [this]
        rw [this]
        exact hv 0 (by simp) u (by simp)
      · rename_i e
        have : (tmps.setIfInBounds p u).getD t undef = tmps.getD t undef := by
          simp [Array.getElem?_setIfInBounds_ne (Ne.symm e)]
        rw [this]; exact h t y hy) (fun j hj v' hv' => hv (j + 1) (by simp; omega) v' (by simpa using hv'))
    simp only [putAll, List.zip_cons_cons, List.foldl_cons]
    exact ⟨this.1, this.2.trans hsz⟩
  | p :: ps, [], u :: args, env, tmps, hl, _, _, _ => by simp at hl
  | p :: ps, v :: vals, [], env, tmps, hl, _, _, _ => by simp at hl

theorem boxLoop_setLoop {bs : List Box} {b : Nat} (x : LB) (hb : b < bs.length) (c : Nat) : boxLoop (bs.set b (.loop x)) c = if c = b then some x else boxLoop bs c := by
  simp only [boxLoop, List.getElem?_set]
  by_cases e : b = c
  · subst e; simp [hb, Box.lb?]
  · rw [if_neg e, if_neg (fun k => e k.symm)]
theorem boxLoop_setDead {bs : List Box} {b : Nat} (c : Nat) : boxLoop (bs.set b .dead) c = if c = b then none else boxLoop bs c := by
  simp only [boxLoop, List.getElem?_set]
  by_cases e : b = c
  · subst e
    by_cases hb : b < bs.length
    · simp [hb, Box.lb?]
    · simp [hb]
  · rw [if_neg e, if_neg (fun k => e k.symm)]
theorem boxCells_setNo {bs : List Box} {b : Nat} {y : Box} (hy : y.cs? = none) (hb : boxCells bs b = none) (c : Nat) : boxCells (bs.set b y) c = boxCells bs c := by
  by_cases e : b = c
  · subst e
    rw [hb]
    simp only [boxCells, List.getElem?_set]
    by_cases hl : b < bs.length
    · simp only [if_true, hl]
      exact hy
    · simp [hl]
  · simp only [boxCells, List.getElem?_set, if_neg e]
theorem boxCells_of_loop {bs : List Box} {b : Nat} {x : LB} (h : boxLoop bs b = some x) : boxCells bs b = none := by
  simp only [boxLoop, boxCells] at *
  split at h
  · rename_i y e
    cases y <;> first | rfl | (cases h; done) | skip
  · cases h
end
end Go.AM
