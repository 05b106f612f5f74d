/-
  THE ABSTRACT MACHINE, 18: boxes that a call does not see. No function of the program is named here. By an AI agent.
-/
import Derived.Test.YtamhnlajkncccaaDoorAmH
set_option linter.unusedSimpArgs false
set_option linter.unusedVariables false
namespace Go.AM
open Go.CK Go.RowKit

def clF (n : Nat) (cl : Pl → Option Nat) : Pl → Option Nat
  | .sl _ => none
  | .bx b j => if b < n then cl (.bx b j) else none
theorem clF_some {n : Nat} {cl : Pl → Option Nat} {p : Pl} {B : Nat} (h : clF n cl p = some B) : ∃ b j, p = .bx b j ∧ b < n ∧ cl (.bx b j) = some B := by
  cases p with
  | sl t => cases h
  | bx b j =>
    simp only [clF] at h
    split at h
    · exact ⟨b, j, rfl, by assumption, h⟩
    · cases h
theorem boxCells_app {bs cs : List Box} {b : Nat} : boxCells (bs ++ cs) b = if b < bs.length then boxCells bs b else boxCells cs (b - bs.length) := by
  simp only [boxCells]
  by_cases h : b < bs.length
  · rw [List.getElem?_append_left h, if_pos h]
  · rw [List.getElem?_append_right (by omega), if_neg h]
theorem boxLoop_app {bs cs : List Box} {b : Nat} : boxLoop (bs ++ cs) b = if b < bs.length then boxLoop bs b else boxLoop cs (b - bs.length) := by
  simp only [boxLoop]
  by_cases h : b < bs.length
  · rw [List.getElem?_append_left h, if_pos h]
  · rw [List.getElem?_append_right (by omega), if_neg h]
theorem boxCells_front {bs : List Box} (cs : List Box) {b : Nat} {ds : List AV} (h : boxCells bs b = some ds) : boxCells (bs ++ cs) b = some ds := by
  rw [boxCells_app, if_pos (boxCells_lt h)]; exact h
theorem boxLoop_front {bs : List Box} (cs : List Box) {b : Nat} {x : LB} (h : boxLoop bs b = some x) : boxLoop (bs ++ cs) b = some x := by
  rw [boxLoop_app, if_pos (boxLoop_lt h)]; exact h

section
variable {E : Entry} {G : Gh} {a : Act} {w : World}

/-- the boxes from bs.length on are out of sight -/
theorem RS.hide {bs cs : List Box} {lo : Nat} (h : RS E G ⟨[], bs ++ cs, lo⟩ a w) (hlt : boxesLt bs.length bs = true) (a' : Act) (hds : a'.defers = []) :
    RS (callE ⟨G.M, G.σ, clF bs.length G.cl⟩ bs w a'.tmps.size) ⟨G.M, G.σ, clF bs.length G.cl⟩ ⟨[], bs, bs.length⟩ a' w := by
  have hat : ∀ p x, (⟨[], bs, bs.length⟩ : St).at p = some x → ∃ b j ds, p = .bx b j ∧ b < bs.length ∧ boxCells bs b = some ds ∧ ds[j]? = some x ∧ (⟨[], bs ++ cs, lo⟩ : St).at (.bx b j) = some x := fun p x hp => by
    cases p with
    | sl t => simp [St.at, envGet] at hp
    | bx b j =>
      simp only [St.at] at hp
      cases hb : boxCells bs b with
      | none => rw [hb] at hp; cases hp
      | some ds =>
        rw [hb] at hp
        refine ⟨b, j, ds, rfl, boxCells_lt hb, hb, hp, ?_⟩
        simp only [St.at, boxCells_front cs hb]; exact hp
  refine ⟨Fr.refl _ _ _, h.ok, rfl, fun p x hp => ?_, fun b j x hp => ?_, fun b ds hb => h.box b ds (boxCells_front cs hb), fun b ds hb => ⟨(h.bmem b ds (boxCells_front cs hb)).1, .inl (.inl ⟨b, ds, hb, rfl⟩)⟩, fun b b' ds ds' hb hb' e => h.inj b b' ds ds' (boxCells_front cs hb) (boxCells_front cs hb') e, fun p z l hp => ?_, fun p q B hp hq => ?_, fun p B hB b ds hb => ?_, fun p B hB => ?_, rfl, Nat.le_refl _, fun _ _ => rfl, ?_⟩
  · obtain ⟨b, j, ds, rfl, _, hb, hj, hx⟩ := hat p x hp
    exact (h.val _ _ hx).lt (by rw [lt_deown]; exact boxesLt_get hlt hb hj)
  · obtain ⟨b', j', ds, e, _, _, _, hx⟩ := hat _ x hp
    cases e
    exact h.one _ _ _ hx
  · obtain ⟨b, j, ds, rfl, hbl, hb, hj, hx⟩ := hat p _ hp
    obtain ⟨ad, k, h1, h2, h3⟩ := h.own _ _ _ hx
    refine ⟨ad, k, h1, h2, ?_⟩
    rcases h3 with h3 | ⟨B, hB, h4, h5⟩
    · exact .inl h3
    · have hB' : clF bs.length G.cl (.bx b j) = some B := by simp only [clF, if_pos hbl]; exact hB
      exact .inr ⟨B, hB', h4, h5.lt, h5.cells, h5.free, .inl (.inr (.inl ⟨b, j, hB'⟩))⟩
  · obtain ⟨b, j, rfl, _, h1⟩ := clF_some hp
    obtain ⟨b', j', rfl, _, h2⟩ := clF_some hq
    exact h.clinj _ _ B h1 h2
  · obtain ⟨b', j', rfl, _, h1⟩ := clF_some hB
    exact h.clbox _ B h1 b ds (boxCells_front cs hb)
  · have hB0 := hB
    obtain ⟨b', j', rfl, _, h1⟩ := clF_some hB
    exact ⟨(h.cllt _ B h1).1, .inl (.inr (.inl ⟨b', j', hB0⟩))⟩
  · rw [hds]
    refine ⟨fun B o hs => ?_, fun b x hb => h.sp.base b x (boxLoop_front cs hb), fun b b' x x' hb hb' e => h.sp.inj b b' x x' (boxLoop_front cs hb) (boxLoop_front cs hb') e, [], rfl, .nil⟩
    rcases hs with ⟨b, x, hb, e, ho⟩ | ⟨hm, _⟩
    · obtain ⟨h1, h2, _⟩ := h.sp.ob B o (.inl ⟨b, x, boxLoop_front cs hb, e, ho⟩)
      refine ⟨h1, fun p hp => ?_, .inl (.inr (.inr ⟨b, x, hb, e⟩))⟩
      obtain ⟨b', j', rfl, _, h3⟩ := clF_some hp
      exact h2 _ h3
    · cases hm

/-- the boxes that a call did not see are as they were -/
theorem RS.unhide {bs cs own : List Box} {lo : Nat} (h : RS E G ⟨[], bs ++ cs, lo⟩ a w) (hol : own.length = bs.length) {G' : Gh} {r : AV} {v : Value} {w' : World}
    (h' : RS (callE ⟨G.M, G.σ, clF bs.length G.cl⟩ bs w 1) G' ⟨[(0, r)], own, bs.length⟩ ⟨#[v], []⟩ w') :
    ∃ G'', RS (callE G (bs ++ cs) w 1) G'' ⟨[(0, r)], own ++ cs, (bs ++ cs).length⟩ ⟨#[v], []⟩ w' := by
  have hσ : ∀ b, b < bs.length → G'.σ b = G.σ b := h'.sig
  have hfr : Fr (FPof ⟨G.M, G.σ, clF bs.length G.cl⟩ bs) G.M w G'.M w' := h'.fr
  have hFP : ∀ B, FPof ⟨G.M, G.σ, clF bs.length G.cl⟩ bs B → FPof G (bs ++ cs) B := fun B hB => by
    rcases hB with ⟨b, ds, hb, e⟩ | ⟨b, j, hb⟩ | ⟨b, x, hb, e⟩
    · exact .inl ⟨b, ds, boxCells_front cs hb, e⟩
    · obtain ⟨b', j', e, _, h1⟩ := clF_some (n := bs.length) (cl := G.cl) (p := .bx b j) hb
      exact .inr (.inl ⟨b', j', h1⟩)
    · exact .inr (.inr ⟨b, x, boxLoop_front cs hb, e⟩)
  have hmine : ∀ B, (FPof ⟨G.M, G.σ, clF bs.length G.cl⟩ bs B ∨ w.heap.size ≤ B) → (FPof G (bs ++ cs) B ∨ w.heap.size ≤ B) := fun B hB => hB.imp (hFP B) id
  -- what is behind is apart
  have noC : ∀ b ds, ¬ b < bs.length → boxCells (bs ++ cs) b = some ds → ¬ FPof ⟨G.M, G.σ, clF bs.length G.cl⟩ bs (G.σ b) := fun b ds hn hb hF => by
    rcases hF with ⟨c, es, hc, e⟩ | ⟨c, j, hc⟩ | ⟨c, x, hc, e⟩
    · have := h.inj c b es ds (boxCells_front cs hc) hb e
      have := boxCells_lt hc
      omega
    · obtain ⟨b', j', _, _, h1⟩ := clF_some (n := bs.length) (cl := G.cl) (p := .bx c j) hc
      exact h.clbox _ _ h1 b ds hb rfl
    · have h1 := (h.sp.ob _ _ (.inl ⟨c, x, boxLoop_front cs hc, e, rfl⟩)).1
      obtain ⟨vs, T, h2, _⟩ := h.box b ds hb
      have h2 : w.heap[G.σ b]? = some (.cells vs T (0, 0)) := h2
      exact x.obj_nc (h2.symm.trans h1)
  have noCl : ∀ b j B, ¬ b < bs.length → G.cl (.bx b j) = some B → ¬ FPof ⟨G.M, G.σ, clF bs.length G.cl⟩ bs B := fun b j B hn hb hF => by
    rcases hF with ⟨c, es, hc, e⟩ | ⟨c, j', hc⟩ | ⟨c, x, hc, e⟩
    · exact h.clbox _ B hb c es (boxCells_front cs hc) e
    · obtain ⟨b', j'', e, hlt, h1⟩ := clF_some (n := bs.length) (cl := G.cl) (p := .bx c j') hc
      have := h.clinj _ _ B hb h1
      cases this
      exact hn hlt
    · exact (h.sp.ob B _ (.inl ⟨c, x, boxLoop_front cs hc, e, rfl⟩)).2.1 _ hb
  have noL : ∀ b x, ¬ b < bs.length → boxLoop (bs ++ cs) b = some x → ¬ FPof ⟨G.M, G.σ, clF bs.length G.cl⟩ bs (G.σ b) := fun b x hn hb hF => by
    obtain ⟨h1, h2, _⟩ := h.sp.ob _ _ (.inl ⟨b, x, hb, rfl, rfl⟩)
    rcases hF with ⟨c, es, hc, e⟩ | ⟨c, j', hc⟩ | ⟨c, y, hc, e⟩
    · obtain ⟨vs, T, h3, _⟩ := h.box c es (boxCells_front cs hc)
      have h3 : w.heap[G.σ c]? = some (.cells vs T (0, 0)) := h3
      rw [show G.σ c = G.σ b from e] at h3
      exact x.obj_nc (h3.symm.trans h1)
    · obtain ⟨b', j'', _, _, h3⟩ := clF_some (n := bs.length) (cl := G.cl) (p := .bx c j') hc
      exact h2 _ h3
    · have := h.sp.inj c b y x (boxLoop_front cs hc) hb e
      have := boxLoop_lt hc
      omega
  have hlen : (own ++ cs).length = (bs ++ cs).length := by simp [hol]
  have hbk : ∀ b ds, ¬ b < bs.length → boxCells (own ++ cs) b = some ds → boxCells (bs ++ cs) b = some ds := fun b ds hn hb => by
    rw [boxCells_app, if_neg (by omega)] at hb
    rw [boxCells_app, if_neg hn, ← hol]; exact hb
  have hfk : ∀ b ds, b < bs.length → boxCells (own ++ cs) b = some ds → boxCells own b = some ds := fun b ds hn hb => by
    rw [boxCells_app, if_pos (by omega)] at hb; exact hb
  have hlk : ∀ b x, ¬ b < bs.length → boxLoop (own ++ cs) b = some x → boxLoop (bs ++ cs) b = some x := fun b x hn hb => by
    rw [boxLoop_app, if_neg (by omega)] at hb
    rw [boxLoop_app, if_neg hn, ← hol]; exact hb
  have hlf : ∀ b x, b < bs.length → boxLoop (own ++ cs) b = some x → boxLoop own b = some x := fun b x hn hb => by
    rw [boxLoop_app, if_pos (by omega)] at hb; exact hb
  have hnew : ∀ q B, G'.cl q = some B → FPof ⟨G.M, G.σ, clF bs.length G.cl⟩ bs B ∨ w.heap.size ≤ B := fun q B hB => (h'.cllt q B hB).2
  have hcl : ∀ p B, (fun p : Pl => match p with | .sl t => G'.cl (.sl t) | .bx b j => if b < bs.length then G'.cl (.bx b j) else G.cl (.bx b j)) p = some B →
      (G'.cl p = some B ∧ ∀ b j, p = .bx b j → b < bs.length) ∨ ∃ b j, p = .bx b j ∧ ¬ b < bs.length ∧ G.cl (.bx b j) = some B := fun p B hp => by
    cases p with
    | sl t => exact .inl ⟨hp, fun b j e => by cases e⟩
    | bx b j =>
      simp only at hp
      split at hp
      · rename_i hb; exact .inl ⟨hp, fun b' j' e => by cases e; exact hb⟩
      · rename_i hb; exact .inr ⟨b, j, rfl, hb, hp⟩
  have hat : ∀ p x, (⟨[(0, r)], own ++ cs, (bs ++ cs).length⟩ : St).at p = some x → ((⟨[(0, r)], own, bs.length⟩ : St).at p = some x ∧ (∀ b j, p = .bx b j → b < bs.length) ∧ valAt G.σ ⟨#[v], []⟩ w' p = valAt G'.σ ⟨#[v], []⟩ w' p) ∨
      (∃ b j, p = .bx b j ∧ ¬ b < bs.length ∧ (⟨[], bs ++ cs, lo⟩ : St).at (.bx b j) = some x ∧ valAt G.σ ⟨#[v], []⟩ w' (.bx b j) = valAt G.σ a w (.bx b j)) := fun p x hp => by
    cases p with
    | sl t => exact .inl ⟨hp, (fun b j e => by cases e), rfl⟩
    | bx b j =>
      simp only [St.at] at hp
      cases hb : boxCells (own ++ cs) b with
      | none => rw [hb] at hp; cases hp
      | some ds =>
        rw [hb] at hp
        by_cases hn : b < bs.length
        · refine .inl ⟨by simp only [St.at, hfk b ds hn hb]; exact hp, (fun b' j' e => by cases e; exact hn), ?_⟩
          simp only [valAt, hσ b hn]
        · have hb' := hbk b ds hn hb
          refine .inr ⟨b, j, rfl, hn, by simp only [St.at, hb']; exact hp, ?_⟩
          simp only [valAt]
          rw [cell_heap (hfr.heap _ (h.blt hb') (noC b ds hn hb'))]
  refine ⟨⟨G'.M, G.σ, fun p => match p with | .sl t => G'.cl (.sl t) | .bx b j => if b < bs.length then G'.cl (.bx b j) else G.cl (.bx b j)⟩,
    ⟨hfr.os, hfr.tape, hfr.output, hfr.size, hfr.le, fun B hB hn => hfr.heap B hB (fun k => hn (hFP B k)), fun B hB hn => hfr.mem B hB (fun k => hn (hFP B k))⟩, h'.ok, rfl, fun p x hp => ?_, fun b j x hp => ?_, fun b ds hb => ?_, fun b ds hb => ?_, fun b b' ds ds' hb hb' e => ?_, fun p z l hp => ?_, fun p q B hp hq => ?_, fun p B hB b ds hb => ?_, fun p B hB => ?_, rfl, by show (bs ++ cs).length ≤ (own ++ cs).length; omega, fun _ _ => rfl, ?_⟩
  · rcases hat p x hp with ⟨h1, _, h2⟩ | ⟨b, j, rfl, _, h1, h2⟩
    · rw [h2]
      exact (h'.val p x h1).mono (Hp.le_refl _) (by simp) (fun b hb => (hσ b (by rw [← hol]; exact hb)).symm)
    · rw [h2, show (⟨[(0, r)], own ++ cs, (bs ++ cs).length⟩ : St).bs.length = (bs ++ cs).length from hlen]
      exact (h.val _ _ h1).mono hfr.le (Nat.le_refl _) (fun _ _ => rfl)
  · rcases hat _ x hp with ⟨h1, _, h2⟩ | ⟨b', j', e, _, h1, h2⟩
    · rw [h2]; exact h'.one _ _ _ h1
    · cases e
      rw [h2]; exact h.one _ _ _ h1
  · by_cases hn : b < bs.length
    · have := h'.box b ds (hfk b ds hn hb)
      simp only [hσ b hn] at this
      exact this
    · have hb' := hbk b ds hn hb
      obtain ⟨vs, T, h1, h2⟩ := h.box b ds hb'
      exact ⟨vs, T, (hfr.heap _ (h.blt hb') (noC b ds hn hb')).trans h1, h2⟩
  · by_cases hn : b < bs.length
    · have := h'.bmem b ds (hfk b ds hn hb)
      simp only [hσ b hn] at this
      exact ⟨this.1, hmine _ this.2⟩
    · have hb' := hbk b ds hn hb
      exact ⟨fun o => (hfr.mem _ (h.blt hb') (noC b ds hn hb') o).trans ((h.bmem b ds hb').1 o), .inl (.inl ⟨b, ds, hb', rfl⟩)⟩
  · have key : ∀ c c' es es', c < bs.length → ¬ c' < bs.length → boxCells (own ++ cs) c = some es → boxCells (own ++ cs) c' = some es' → G.σ c = G.σ c' → False := fun c c' es es' h1 h2 h3 h4 h5 => by
      have h6 := (h'.bmem c es (hfk c es h1 h3)).2
      rw [hσ c h1, h5] at h6
      have h7 := hbk c' es' h2 h4
      rcases h6 with h6 | h6
      · exact noC c' es' h2 h7 h6
      · have : w.heap.size ≤ G.σ c' := h6
        have h8 : G.σ c' < w.heap.size := h.blt h7
        omega
    by_cases hn : b < bs.length
    · by_cases hn' : b' < bs.length
      · exact h'.inj b b' ds ds' (hfk b ds hn hb) (hfk b' ds' hn' hb') (by rw [hσ b hn, hσ b' hn']; exact e)
      · exact (key b b' ds ds' hn hn' hb hb' e).elim
    · by_cases hn' : b' < bs.length
      · exact (key b' b ds' ds hn' hn hb' hb e.symm).elim
      · exact h.inj b b' ds ds' (hbk b ds hn hb) (hbk b' ds' hn' hb') e
  · rcases hat p _ hp with ⟨h1, hp2, h2⟩ | ⟨b, j, rfl, hn, h1, h2⟩
    · obtain ⟨ad, k, h3, h4, h5⟩ := h'.own p z l h1
      refine ⟨ad, k, h2.trans h3, h4, ?_⟩
      rcases h5 with h5 | ⟨B, hB, h6, h7⟩
      · exact .inl h5
      · refine .inr ⟨B, ?_, h6, h7.lt, h7.cells, h7.free, hmine _ h7.mine⟩
        cases p with
        | sl t => exact hB
        | bx b j => simp only [if_pos (hp2 b j rfl)]; exact hB
    · obtain ⟨ad, k, h3, h4, h5⟩ := h.own _ _ _ h1
      refine ⟨ad, k, h2.trans h3, h4, ?_⟩
      rcases h5 with h5 | ⟨B, hB, h6, h7⟩
      · exact .inl h5
      · have hlt := (h.cllt _ B hB).1
        have hnF := noCl b j B hn hB
        obtain ⟨vs, T, h8, h9⟩ := h7.cells
        exact .inr ⟨B, by simp only [if_neg hn]; exact hB, h6, h7.lt, ⟨vs, T, (hfr.heap B hlt hnF).trans h8, h9⟩, fun o ho => (hfr.mem B hlt hnF o).trans (h7.free o ho), .inl (.inr (.inl ⟨b, j, hB⟩))⟩
  · have key : ∀ p' b j, G'.cl p' = some B → ¬ b < bs.length → G.cl (.bx b j) = some B → False := fun p' b j h1 h2 h3 => by
      rcases hnew p' B h1 with h4 | h4
      · exact noCl b j B h2 h3 h4
      · have h5 : B < w.heap.size := (h.cllt _ B h3).1
        omega
    rcases hcl p B hp with ⟨h1, _⟩ | ⟨b, j, rfl, hn, h1⟩
    · rcases hcl q B hq with ⟨h2, _⟩ | ⟨b', j', rfl, hn', h2⟩
      · exact h'.clinj _ _ B h1 h2
      · exact (key _ _ _ h1 hn' h2).elim
    · rcases hcl q B hq with ⟨h2, _⟩ | ⟨b', j', rfl, hn', h2⟩
      · exact (key _ _ _ h2 hn h1).elim
      · exact h.clinj _ _ B h1 h2
  · rcases hcl p B hB with ⟨h1, _⟩ | ⟨b', j', rfl, hn', h1⟩
    · by_cases hn : b < bs.length
      · have := h'.clbox p B h1 b ds (hfk b ds hn hb)
        rwa [hσ b hn] at this
      · intro e
        have e' : G.σ b = B := e
        have hb' := hbk b ds hn hb
        rcases hnew p B h1 with h4 | h4
        · exact noC b ds hn hb' (e' ▸ h4)
        · have h5 : G.σ b < w.heap.size := h.blt hb'
          omega
    · by_cases hn : b < bs.length
      · intro e
        have e' : G.σ b = B := e
        have h6 := (h'.bmem b ds (hfk b ds hn hb)).2
        rw [hσ b hn, e'] at h6
        rcases h6 with h6 | h6
        · exact noCl b' j' B hn' h1 h6
        · have h5 : B < w.heap.size := (h.cllt _ B h1).1
          have : w.heap.size ≤ B := h6
          omega
      · exact h.clbox _ B h1 b ds (hbk b ds hn hb)
  · rcases hcl p B hB with ⟨h1, _⟩ | ⟨b', j', rfl, hn', h1⟩
    · exact ⟨(h'.cllt p B h1).1, hmine B (hnew p B h1)⟩
    · exact ⟨Nat.lt_of_lt_of_le (h.cllt _ B h1).1 hfr.size, .inl (.inr (.inl ⟨b', j', h1⟩))⟩
  · refine ⟨fun B o hs => ?_, fun b x hb => ?_, fun b b' x x' hb hb' e => ?_, [], rfl, .nil⟩
    · rcases hs with ⟨b, x, hb, e, ho⟩ | ⟨hm, _⟩
      · have e' : G.σ b = B := e
        by_cases hn : b < bs.length
        · obtain ⟨h1, h2, h3⟩ := h'.sp.ob B o (.inl ⟨b, x, hlf b x hn hb, (hσ b hn).trans e', ho⟩)
          refine ⟨h1, fun p hp => ?_, hmine B h3⟩
          rcases hcl p B hp with ⟨h4, _⟩ | ⟨c, j, rfl, hn', h4⟩
          · exact h2 _ h4
          · rcases h3 with h5 | h5
            · exact noCl c j B hn' h4 h5
            · have h6 : B < w.heap.size := (h.cllt _ B h4).1
              have : w.heap.size ≤ B := h5
              omega
        · have hb' := hlk b x hn hb
          obtain ⟨h1, h2, _⟩ := h.sp.ob B o (.inl ⟨b, x, hb', e', ho⟩)
          have hlt : B < w.heap.size := (Array.getElem?_eq_some_iff.1 h1).1
          have hnF := noL b x hn hb'
          rw [e'] at hnF
          refine ⟨(hfr.heap B hlt hnF).trans h1, fun p hp => ?_, .inl (.inr (.inr ⟨b, x, hb', e'⟩))⟩
          rcases hcl p B hp with ⟨h4, _⟩ | ⟨c, j, rfl, hn', h4⟩
          · rcases hnew p B h4 with h5 | h5
            · exact hnF h5
            · omega
          · exact h2 _ h4
      · cases hm
    · by_cases hn : b < bs.length
      · obtain ⟨h1, h2, h3⟩ := h'.sp.base b x (hlf b x hn hb)
        exact ⟨h1, h2, fun c hc => (hσ c (by omega)).symm.trans (h3 c hc)⟩
      · obtain ⟨h1, h2, h3⟩ := h.sp.base b x (hlk b x hn hb)
        exact ⟨Hp.le_trans h1 hfr.le, h2, h3⟩
    · have e' : G.σ b = G.σ b' := e
      have key : ∀ c c' y y', c < bs.length → ¬ c' < bs.length → boxLoop (own ++ cs) c = some y → boxLoop (own ++ cs) c' = some y' → G.σ c = G.σ c' → False := fun c c' y y' h1 h2 h3 h4 h5 => by
        have h6 := (h'.sp.ob _ _ (.inl ⟨c, y, hlf c y h1 h3, rfl, rfl⟩)).2.2
        rw [hσ c h1, h5] at h6
        have h7 := hlk c' y' h2 h4
        rcases h6 with h6 | h6
        · exact noL c' y' h2 h7 h6
        · have h8 := (Array.getElem?_eq_some_iff.1 (h.sp.ob _ _ (.inl ⟨c', y', h7, rfl, rfl⟩)).1).1
          have : w.heap.size ≤ G.σ c' := h6
          have h8 : G.σ c' < w.heap.size := h8
          omega
      by_cases hn : b < bs.length
      · by_cases hn' : b' < bs.length
        · exact h'.sp.inj b b' x x' (hlf b x hn hb) (hlf b' x' hn' hb') (by rw [hσ b hn, hσ b' hn']; exact e')
        · exact (key b b' x x' hn hn' hb hb' e').elim
      · by_cases hn' : b' < bs.length
        · exact (key b' b x' x hn' hn hb' hb e'.symm).elim
        · exact h.sp.inj b b' x x' (hlk b x hn hb) (hlk b' x' hn' hb') e'
end

/-- A round does not see the boxes that lie behind: they are as they were. -/
theorem SemY.frame {P : Program} {b : Nat} {y : List AV} {bs : List Box} {Q : AV → List Box → Prop} (h : SemY P b y bs Q) (hlt : boxesLt bs.length bs = true) (hy : ∀ v ∈ y, v.lt bs.length = true) (hQ : ∀ r bs', Q r bs' → r.lt bs.length = true ∧ boxesLt bs.length (bs'.take bs.length) = true) (cs : List Box) :
    SemY P b y (bs ++ cs) fun r bs' => ∃ own, Q r own ∧ bs' = own.take bs.length ++ cs := by
  intro E G a0 w args lo hpre hal hav
  have h0 := hpre.hide hlt ⟨#[], []⟩ rfl
  obtain ⟨f, tmps, assign, body, hyr, hround⟩ := h _ _ _ w args _ h0 hal (fun j hj v hv => (hav j hj v hv).lt (hy _ (List.getElem_mem hj)))
  refine ⟨f, tmps, assign, body, hyr, fun rd n => (hround rd n).mono ?_⟩
  rintro e w' ⟨v, r, bs', G', rfl, hq, h'⟩
  obtain ⟨hr, hb'⟩ := hQ r bs' hq
  have hle : bs.length ≤ bs'.length := h'.len
  obtain ⟨G2, h2⟩ := Weak.cut ⟨[(0, r)], bs', bs.length⟩ bs.length (Nat.le_refl _) hle (by simp only [envLt, hr]; rfl) hb' _ _ _ _ h'
  obtain ⟨G3, h3⟩ := hpre.unhide (by simp; omega) h2
  exact ⟨v, r, _, G3, rfl, ⟨bs', hq, rfl⟩, h3⟩
/-- The same of a call. -/
theorem Sem.frame {P : Program} {f : FuncId} {y : List AV} {bs : List Box} {Q : AV → List Box → Prop} (h : Sem P f y bs Q) (hlt : boxesLt bs.length bs = true) (hy : ∀ v ∈ y, v.lt bs.length = true) (hQ : ∀ r bs', Q r bs' → r.lt bs.length = true ∧ boxesLt bs.length (bs'.take bs.length) = true) (cs : List Box) :
    Sem P f y (bs ++ cs) fun r bs' => ∃ own, Q r own ∧ bs' = own.take bs.length ++ cs := by
  intro E G a0 w args lo hpre hal hav
  have h0 := hpre.hide hlt ⟨#[], []⟩ rfl
  refine (h _ _ _ w args _ h0 hal (fun j hj v hv => (hav j hj v hv).lt (hy _ (List.getElem_mem hj)))).mono ?_
  rintro e w' ⟨v, r, bs', G', rfl, hq, h'⟩
  obtain ⟨hr, hb'⟩ := hQ r bs' hq
  have hle : bs.length ≤ bs'.length := h'.len
  obtain ⟨G2, h2⟩ := Weak.cut ⟨[(0, r)], bs', bs.length⟩ bs.length (Nat.le_refl _) hle (by simp only [envLt, hr]; rfl) hb' _ _ _ _ h'
  obtain ⟨G3, h3⟩ := hpre.unhide (by simp; omega) h2
  exact ⟨v, r, _, G3, rfl, ⟨bs', hq, rfl⟩, h3⟩
end Go.AM
