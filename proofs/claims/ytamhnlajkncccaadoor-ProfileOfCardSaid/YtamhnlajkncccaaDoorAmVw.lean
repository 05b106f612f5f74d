/-
  THE ABSTRACT MACHINE, 22: rows that come last; rows looked at as lists by functions that only read. No function of the program is named here. By an AI agent.
-/
import Derived.Test.YtamhnlajkncccaaDoorAmRw
import Derived.Test.YtamhnlajkncccaaDoorAv
set_option linter.unusedSimpArgs false
set_option linter.unusedVariables false
namespace Go.AM
open Go.CK Go.RowKit

/-- boxes of no use ahead of a row, the last: the row takes their place -/
theorem Weak.gc {env : List (Nat × AV)} {own J : List Box} {cs : List AV} {lo t m k : Nat} (h0 : envGet env t = some (.bsl (own.length + J.length) m k)) (hlo : lo ≤ own.length) (he : ∀ u x, u ≠ t → envGet env u = some x → x.lt own.length = true) (ho : boxesLt own.length own = true) (hd : ∀ x ∈ cs, x.deown = x ∧ x.lt own.length = true) :
    Weak ⟨env, own ++ (J ++ [.row cs]), lo⟩ ⟨envPut env t (.bsl own.length m k), own ++ [.row cs], lo⟩ := fun E G a w hs => by
  have hb1 : ∀ c ds, boxCells (own ++ [.row cs]) c = some ds → (c = own.length ∧ ds = cs ∧ cs ≠ []) ∨ (c < own.length ∧ boxCells own c = some ds) := fun c ds h => by
    rw [boxCells_append] at h
    split at h
    · rename_i e
      rw [row_cs] at h
      split at h
      · cases h
      · rename_i h1
        cases h; exact .inl ⟨e, rfl, h1⟩
    · exact .inr ⟨boxCells_lt h, h⟩
  have hb2 : ∀ c, c < own.length → boxCells (own ++ (J ++ [.row cs])) c = boxCells own c := fun c hc => by simp only [boxCells, List.getElem?_append_left hc]
  have hb3 : cs ≠ [] → boxCells (own ++ (J ++ [.row cs])) (own.length + J.length) = some cs := fun h => by
    simp [boxCells, row_cs, h]
  have hl1 : ∀ c x, boxLoop (own ++ [.row cs]) c = some x → boxLoop own c = some x := fun c x h => boxLoop_append rfl h
  have hl2 : ∀ c x, boxLoop own c = some x → boxLoop (own ++ (J ++ [.row cs])) c = some x := fun c x h => by
    simp only [boxLoop, List.getElem?_append_left (boxLoop_lt h)]; exact h
  have hlen : (own ++ (J ++ [Box.row cs])).length = own.length + J.length + 1 := by simp; omega
  have hlen' : (own ++ [Box.row cs]).length = own.length + 1 := by simp
  obtain ⟨f, hf⟩ : ∃ f : Nat → Nat, f = fun c => if c = own.length then own.length + J.length else c := ⟨_, rfl⟩
  obtain ⟨σ', hσ'⟩ : ∃ σ' : Nat → Nat, σ' = fun c => G.σ (f c) := ⟨_, rfl⟩
  have hfl : ∀ c, c < own.length → f c = c := fun c hc => by rw [hf]; simp only; rw [if_neg (by omega)]
  have hfb : f own.length = own.length + J.length := by rw [hf]; simp
  have hσl : ∀ c, c < own.length → σ' c = G.σ c := fun c hc => by rw [hσ']; simp only; rw [hfl c hc]
  have hbox : ∀ c ds, boxCells (own ++ [.row cs]) c = some ds → boxCells (own ++ (J ++ [.row cs])) (f c) = some ds ∧ σ' c = G.σ (f c) := fun c ds h => by
    refine ⟨?_, by rw [hσ']⟩
    rcases hb1 c ds h with ⟨rfl, rfl, h1⟩ | ⟨h1, h2⟩
    · rw [hfb]; exact hb3 h1
    · rw [hfl c h1, hb2 c h1]; exact h2
  have hinj : ∀ c c' ds ds', boxCells (own ++ [.row cs]) c = some ds → boxCells (own ++ [.row cs]) c' = some ds' → f c = f c' → c = c' := fun c c' ds ds' h h' e => by
    rcases hb1 c ds h with ⟨rfl, _, _⟩ | ⟨h1, _⟩ <;> rcases hb1 c' ds' h' with ⟨rfl, _, _⟩ | ⟨h2, _⟩
    · rfl
    · rw [hfb, hfl c' h2] at e; omega
    · rw [hfl c h1, hfb] at e; omega
    · rw [hfl c h1, hfl c' h2] at e; exact e
  have hmono : ∀ x v, x.lt own.length = true → RV G.M G.σ (own ++ (J ++ [Box.row cs])).length x v → RV G.M σ' (own ++ [Box.row cs]).length x v := fun x v hx h =>
    (h.lt hx).mono (Hp.le_refl _) (by rw [hlen']; omega) hσl
  have hat : ∀ p x, (⟨envPut env t (.bsl own.length m k), own ++ [.row cs], lo⟩ : St).at p = some x → (p = .sl t ∧ x = .bsl own.length m k) ∨ (∃ u, p = .sl u ∧ u ≠ t ∧ envGet env u = some x) ∨ ∃ c j, p = .bx c j ∧ (⟨env, own ++ (J ++ [.row cs]), lo⟩ : St).at (.bx (f c) j) = some x ∧ σ' c = G.σ (f c) ∧ x.deown.lt own.length = true ∧ ((c = own.length ∧ x.deown = x) ∨ f c = c) := fun p x hp => by
    cases p with
    | sl u =>
      simp only [St.at, envGet_put] at hp
      split at hp
      · rename_i e
        cases hp
        exact .inl ⟨by rw [e], rfl⟩
      · rename_i e
        exact .inr (.inl ⟨u, rfl, e, hp⟩)
    | bx c j =>
      simp only [St.at] at hp
      cases hc : boxCells (own ++ [.row cs]) c with
      | none => rw [hc] at hp; cases hp
      | some ds =>
        rw [hc] at hp
        simp only [Option.bind_some] at hp
        obtain ⟨h1, h2⟩ := hbox c ds hc
        refine .inr (.inr ⟨c, j, rfl, by simp only [St.at, h1, Option.bind_some]; exact hp, h2, ?_, ?_⟩)
        · rcases hb1 c ds hc with ⟨rfl, rfl, _⟩ | ⟨h3, h4⟩
          · obtain ⟨q1, q2⟩ := hd x (List.mem_of_getElem? hp)
            rw [q1]; exact q2
          · rw [lt_deown]; exact boxesLt_get ho h4 hp
        · rcases hb1 c ds hc with ⟨rfl, rfl, _⟩ | ⟨h3, _⟩
          · exact .inl ⟨rfl, (hd x (List.mem_of_getElem? hp)).1⟩
          · exact .inr (hfl c h3)
  have hva : ∀ c j, σ' c = G.σ (f c) → valAt σ' a w (.bx c j) = valAt G.σ a w (.bx (f c) j) := fun c j e => by simp only [valAt, e]
  refine ⟨{ G with σ := σ' }, hs.fr, hs.ok, hs.nt, fun p x hp => ?_, fun c j x hp => ?_, fun c ds hc => ?_, fun c ds hc => ?_, fun c c' ds ds' hc hc' e => ?_, fun p z l hp => ?_, hs.clinj, fun p B hB c ds hc => ?_, hs.cllt, hs.lo, ?_, fun c hc => ?_, ?_⟩
  · rcases hat p x hp with ⟨rfl, rfl⟩ | ⟨u, rfl, hu, hx⟩ | ⟨c, j, rfl, hx, e, hlt, _⟩
    · have hv := hs.val (.sl t) _ (show (⟨env, own ++ (J ++ [.row cs]), lo⟩ : St).at (.sl t) = some _ from h0)
      obtain ⟨ad, h1, _, h3, h4, h5⟩ := hv.inv_bsl
      show RV G.M σ' _ _ (valAt G.σ a w (.sl t))
      rw [h1]
      refine .bsl _ _ _ _ (by simp) h3 h4 fun hk => ?_
      rw [h5 hk, hσ']
      simp only [hfb]
    · have hv := hs.val (.sl u) x (show (⟨env, own ++ (J ++ [.row cs]), lo⟩ : St).at (.sl u) = some _ from hx)
      exact hmono _ _ (by rw [lt_deown]; exact he u x hu hx) hv
    · show RV G.M σ' _ _ (valAt σ' a w (.bx c j))
      rw [hva c j e]
      exact hmono _ _ hlt (hs.val _ x hx)
  · rcases hat _ x hp with ⟨e, _⟩ | ⟨u, e, _, _⟩ | ⟨c', j', e, hx, e2, _, _⟩
    · cases e
    · cases e
    · cases e
      show (valAt σ' a w (.bx c j)).oneCell' = true
      rw [hva c j e2]; exact hs.one _ _ _ hx
  · obtain ⟨h1, h2⟩ := hbox c ds hc
    show ∃ vs T, w.heap[σ' c]? = _ ∧ _
    rw [h2]; exact hs.box _ ds h1
  · obtain ⟨h1, h2⟩ := hbox c ds hc
    show (∀ o, G.M (σ' c) o = none) ∧ (E.FP (σ' c) ∨ E.w.heap.size ≤ σ' c)
    rw [h2]; exact hs.bmem _ ds h1
  · obtain ⟨h1, h2⟩ := hbox c ds hc
    obtain ⟨h1', h2'⟩ := hbox c' ds' hc'
    have e : σ' c = σ' c' := e
    rw [h2, h2'] at e
    exact hinj c c' ds ds' hc hc' (hs.inj _ _ ds ds' h1 h1' e)
  · rcases hat p _ hp with ⟨_, e⟩ | ⟨u, rfl, _, hx⟩ | ⟨c, j, rfl, hx, e, _, hc⟩
    · cases e
    · exact hs.own (.sl u) z l hx
    · rcases hc with ⟨_, hc⟩ | hc
      · simp [AV.deown] at hc
      · show ∃ ad k, valAt σ' a w (.bx c j) = _ ∧ _
        rw [hva c j e, hc]
        rw [hc] at hx
        exact hs.own _ z l hx
  · obtain ⟨h1, h2⟩ := hbox c ds hc
    show σ' c ≠ B
    rw [h2]; exact hs.clbox p B hB _ ds h1
  · show E.nb ≤ (own ++ [Box.row cs]).length
    have : lo = E.nb := hs.lo
    rw [hlen']; omega
  · have : lo = E.nb := hs.lo
    show σ' c = _
    rw [hσl c (by omega)]; exact hs.sig c hc
  · exact ((hs.sp.loops (bs' := own) hl2).step (Hp.le_refl _) hσl (fun c x h => hl1 c x h) (fun _ _ k _ => k) (fun _ _ _ _ p k => ⟨p, k⟩) (fun _ k => k))
theorem EndN.gc {α : Type} {f : α → AV} {z : Nat} (hp : Plain f z) (own J : List Box) (t : Nat) {s s' : St} {l : List α} {m k k' : Nat} (hb : s.bs = own ++ (J ++ [rowF f z k' l])) (h0 : envGet s.env t = some (.bsl (own.length + J.length) m k)) (hlo : Nat.ble s.lo own.length = true) (he : envLtBut own.length t s.env = true) (ho : boxesLt own.length own = true)
    (h : EndN ⟨envPut s.env t (.bsl own.length m k), own ++ [rowF f z k' l], s.lo⟩ s') : EndN s s' := by
  obtain ⟨env, bs, lo⟩ := s
  simp only at hb
  subst hb
  exact ⟨(Weak.gc h0 (Nat.le_of_ble_eq_true hlo) (envLtBut_get he) ho (hp.rowOk l _ _)).trans h.out⟩
theorem RetP.gc {α : Type} {f : α → AV} {z : Nat} (hp : Plain f z) (own J : List Box) (t : Nat) {s : St} {rs : List RRes} {Q : AV → List Box → Prop} {l : List α} {m k k' : Nat} (hb : s.bs = own ++ (J ++ [rowF f z k' l])) (h0 : envGet s.env t = some (.bsl (own.length + J.length) m k)) (hlo : s.lo ≤ own.length) (he : envLtBut own.length t s.env = true) (ho : boxesLt own.length own = true)
    (h : RetP ⟨envPut s.env t (.bsl own.length m k), own ++ [rowF f z k' l], s.lo⟩ rs Q) : RetP s rs Q := by
  obtain ⟨env, bs, lo⟩ := s
  simp only at hb
  subst hb
  obtain ⟨s', h3, h4⟩ := h.out
  exact ⟨s', (Weak.gc h0 hlo (envLtBut_get he) ho (hp.rowOk l _ _)).trans h3, h4⟩

/-! ### functions that only read, and hand on a number or a truth value -/
def scalar : AV → Bool
  | .bool _ => true
  | .int _ _ => true
  | .str _ => true
  | _ => false
/-- what reads as x reads as y too, as long as nothing is written -/
def Vw (bs : List Box) (x y : AV) : Prop := ∀ (E : Entry) (G : Gh) (a : Act) (w : World) (lo : Nat), RS E G ⟨[], bs, lo⟩ a w → ∀ v, RV G.M G.σ bs.length x v → RV (Hp.of w) G.σ 0 y v
theorem Vw.same {bs : List Box} {x : AV} (h : x.flat = true) : Vw bs x x := fun _ _ _ _ _ hs _ hv => .flat ((hv.toFV h).mono hs.ok)
theorem Vw.func {bs : List Box} {f : Fn} : Vw bs (.fn f [] []) (.fn f [] []) := fun _ _ _ _ _ hs _ hv => by
  obtain ⟨us, vs, rfl, h1, h2, _, _⟩ := hv.inv_fn
  exact .fn f [] [] us vs h1 h2 (fun j h => by cases h) (fun j h => by cases h)
theorem Vw.row {α : Type} {f : α → AV} {z : Nat} (hp : Plain f z) {bs : List Box} {b m k : Nat} {l : List α} (hb : bs[b]? = some (rowF f z k l)) (hm : m = l.length) : Vw bs (.bsl b m k) (.sl .no (l.map f)) := fun E G a w lo hs v hv => by
  refine .flat ?_
  subst hm
  obtain ⟨ad, rfl, hbl, hmk, hml, had⟩ := hv.inv_bsl
  have hz : ∀ y ∈ l.map f, y.cells.length = z := fun y hy => by obtain ⟨x, _, rfl⟩ := List.mem_map.1 hy; exact hp.sz x
  have hlm : (l.map f).length = l.length := by simp
  by_cases hk : k = 0
  · subst hk
    have hl : l = [] := List.eq_nil_of_length_eq_zero (by omega)
    subst hl
    exact FV.mk_sl (l := []) (B := 0) (off := 0) (sz := z) (by simp) (Nat.le_refl _) (Nat.zero_le _) (by simp) (fun h => absurd rfl h) (fun i hi => by cases hi)
  · have hne : cellsOf (l.map f) ++ List.replicate ((k - l.length) * z) .top ≠ [] := fun e => by
      have := congrArg List.length e
      rw [List.length_append, hp.len, List.length_replicate, ← Nat.add_mul, List.length_nil] at this
      have h2 : 0 < (l.length + (k - l.length)) * z := Nat.mul_pos (by omega) hp.pos
      omega
    have hbc : boxCells bs b = some (cellsOf (l.map f) ++ List.replicate ((k - l.length) * z) .top) := rowAt_cells (rowAt_row hb) hne
    rw [had hk]
    have hel : Elems (Hp.of w) (G.σ b) 0 z (l.map f) := Elems.ofCells (p := List.replicate ((k - l.length) * z) .top) hz fun j hj => by
      obtain ⟨u, h1, h2, h3⟩ := hs.bval (s := ⟨[], bs, lo⟩) hbc j hj
      refine ⟨u, by rw [Nat.zero_add]; exact h1, h2, ?_⟩
      have hc : (cellsOf (l.map f) ++ List.replicate ((k - l.length) * z) AV.top)[j].deown = (cellsOf (l.map f) ++ List.replicate ((k - l.length) * z) AV.top)[j] ∧ (cellsOf (l.map f) ++ List.replicate ((k - l.length) * z) AV.top)[j].flat1 = true := by
        have := List.getElem_mem hj
        rcases List.mem_append.1 this with hx | hx
        · exact hp.mem hx
        · rw [(List.mem_replicate.1 hx).2]; exact ⟨rfl, rfl⟩
      rw [hc.1] at h3
      exact (h3.flat1 hc.2).mono hs.ok
    have := FV.mk_sl (M := Hp.of w) (o := .no) (l := l.map f) (a := some ⟨G.σ b, 0, none⟩) (k := k) (B := G.σ b) (off := 0) (sz := z) (by simp) (by rw [hlm]; exact hmk) (by rw [hlm];first|exact hml|exact glim_le hml) (by simp) (fun _ => rfl) hel
    rw [hlm] at this
    exact this
inductive Vws (bs : List Box) : List AV → List AV → Prop
  | nil : Vws bs [] []
  | cons {x y : AV} {xs ys : List AV} (h : Vw bs x y) (k : Vws bs xs ys) : Vws bs (x :: xs) (y :: ys)
theorem Vws.len {bs : List Box} {xs ys : List AV} (h : Vws bs xs ys) : ys.length = xs.length := by
  induction h with
  | nil => rfl
  | cons _ _ ih => simp [ih]
theorem Vws.get {bs : List Box} {xs ys : List AV} (h : Vws bs xs ys) : ∀ j (hj : j < xs.length) (hj' : j < ys.length), Vw bs xs[j] ys[j] := by
  induction h with
  | nil => intro j hj; cases hj
  | cons h _ ih =>
    intro j hj hj'
    cases j with
    | zero => exact h
    | succ j => exact ih j (by simpa using hj) (by simpa using hj')
theorem Fun.view {P : Program} {f : FuncId} {vals vals' : List AV} {r : AV} {bs : List Box} (h : Fun P f vals' r) (hr : scalar r = true) (hv : Vws bs vals vals') : Sem P f vals bs fun r' bs' => r' = r ∧ bs' = bs := by
  intro E G a0 w args lo hpre hl hval
  have h0 : RS ⟨fun _ => False, Hp.of w, w, 0, 0, G.σ⟩ ⟨Hp.of w, G.σ, fun _ => none⟩ ⟨[], [], 0⟩ ⟨#[], []⟩ w := by
    have hat : ∀ p x, (⟨[], [], 0⟩ : St).at p = some x → False := fun p x hp => by
      cases p with
      | sl t => simp [St.at, envGet] at hp
      | bx b j => simp [St.at, boxCells] at hp
    have hbx : ∀ b cs, boxCells ([] : List Box) b = some cs → False := fun b cs hb => by simp [boxCells] at hb
    exact ⟨Fr.refl _ _ _, Hp.le_refl _, rfl, fun p x hp => (hat p x hp).elim, fun b j x hp => (hat _ x hp).elim, fun b cs hb => (hbx b cs hb).elim, fun b cs hb => (hbx b cs hb).elim, fun b b' cs cs' hb _ _ => (hbx b cs hb).elim, fun p z l hp => (hat p _ hp).elim, (fun p q B hp => by cases hp), (fun p B hp => by cases hp), (fun p B hp => by cases hp), rfl, Nat.le_refl _, (fun b hb => by cases hb), Sp.none _ _ _ _ _ _⟩
  refine (h [] _ _ _ w args 0 h0 (by rw [hl, hv.len]) (fun j hj v hjv => ?_)).mono ?_
  · have hj2 : j < vals.length := by rw [← hv.len]; exact hj
    exact hv.get j hj2 hj E G a0 w lo hpre v (hval j hj2 v hjv)
  · rintro e w' ⟨v, r', bs', G', rfl, ⟨rfl, _⟩, h'⟩
    refine ⟨v, r', bs, ⟨G.M, G.σ, fun p => match p with | .sl _ => none | .bx b j => G.cl (.bx b j)⟩, rfl, ⟨rfl, rfl⟩, ?_⟩
    have hno : ∀ B, ¬ FPof ⟨Hp.of w, G.σ, fun _ => none⟩ [] B := fun B hB => by
      rcases hB with ⟨b, cs, hb, _⟩ | ⟨b, j, hb⟩ | ⟨b, x, hb, _⟩
      · simp [boxCells] at hb
      · cases hb
      · exact boxLoop_nil hb
    have hfr : Fr (FPof ⟨Hp.of w, G.σ, fun _ => none⟩ []) (Hp.of w) w G'.M w' := h'.fr
    have hat0 : (⟨[(0, r')], bs', ([] : List Box).length⟩ : St).at (.sl 0) = some r' := rfl
    have hatc : ∀ p x, (⟨[(0, r')], bs, bs.length⟩ : St).at p = some x → (p = .sl 0 ∧ x = r') ∨ (∃ b j, p = .bx b j ∧ (⟨[], bs, lo⟩ : St).at (.bx b j) = some x) := fun p x hp => by
      cases p with
      | sl t =>
        simp only [St.at, envGet] at hp
        split at hp
        · rename_i hb
          have := Nat.eq_of_beq_eq_true hb
          subst this
          cases hp
          exact .inl ⟨rfl, rfl⟩
        · cases hp
      | bx b j => exact .inr ⟨b, j, rfl, hp⟩
    have hbv : ∀ b j x, (⟨[], bs, lo⟩ : St).at (.bx b j) = some x → valAt G.σ ⟨#[v], []⟩ w' (.bx b j) = valAt G.σ a0 w (.bx b j) := fun b j x hx => by
      simp only [St.at] at hx
      cases hb : boxCells bs b with
      | none => rw [hb] at hx; cases hx
      | some cs => simp only [valAt]; rw [cell_heap (hfr.heap _ (hpre.blt hb) (hno _))]
    have hrv : RV G.M G.σ bs.length r'.deown v := by
      have h1 := h'.val _ _ hat0
      cases r' with
      | bool b => exact .flat (by have := h1.inv_bool; rw [show v = .bool b from this]; exact .bool b)
      | int k n => exact .flat (by have := h1.inv_int; rw [show v = .int k n from this]; exact .int k n)
      | str s => exact .flat (by have := h1.inv_str; rw [show v = .string s from this.1]; exact .str s this.2)
      | _ => cases hr
    refine ⟨⟨hfr.os, hfr.tape, hfr.output, hfr.size, Hp.le_refl _, fun B hB _ => hfr.heap B hB (hno B), fun B hB _ _ => rfl⟩, Hp.le_trans hpre.ok (Hp.le_trans hfr.le h'.ok), rfl, fun p x hp => ?_, fun b j x hp => ?_, fun b cs hb => ?_, fun b cs hb => ?_, hpre.inj, fun p z l hp => ?_, fun p q B hp hq' => ?_, fun p B hB b cs hb => ?_, fun p B hB => ?_, rfl, Nat.le_refl _, fun _ _ => rfl, ?_⟩
    · rcases hatc p x hp with ⟨rfl, rfl⟩ | ⟨b, j, rfl, hx⟩
      · exact hrv
      · show RV G.M G.σ bs.length x.deown _
        rw [hbv b j x hx]
        exact hpre.val _ _ hx
    · rcases hatc _ x hp with ⟨e, _⟩ | ⟨b', j', e, hx⟩
      · cases e
      · cases e
        show (valAt G.σ _ w' _).oneCell' = true
        rw [hbv b j x hx]; exact hpre.one _ _ _ hx
    · obtain ⟨vs, T, h1, h2⟩ := hpre.box b cs hb
      exact ⟨vs, T, (hfr.heap _ (hpre.blt hb) (hno _)).trans h1, h2⟩
    · obtain ⟨h1, _⟩ := hpre.bmem b cs hb
      exact ⟨h1, .inl (.inl ⟨b, cs, hb, rfl⟩)⟩
    · rcases hatc p _ hp with ⟨rfl, hx⟩ | ⟨b, j, rfl, hx⟩
      · subst hx; cases hr
      · obtain ⟨ad, k, h1, h2, h3⟩ := hpre.own _ _ _ hx
        refine ⟨ad, k, (hbv b j _ hx).trans h1, h2, ?_⟩
        rcases h3 with h3 | ⟨B, hB, h4, h5⟩
        · exact .inl h3
        · have hlt := (hpre.cllt _ B hB).1
          obtain ⟨vs, T, h6, h7⟩ := h5.cells
          exact .inr ⟨B, hB, h4, h5.lt, ⟨vs, T, (hfr.heap B hlt (hno B)).trans h6, h7⟩, h5.free, .inl (.inr (.inl ⟨b, j, hB⟩))⟩
    · cases p with
      | sl t => cases hp
      | bx b j =>
        cases q with
        | sl u => cases hq'
        | bx b' j' => exact hpre.clinj _ _ B hp hq'
    · cases p with
      | sl t => cases hB
      | bx b' j' => exact hpre.clbox _ B hB b cs hb
    · cases p with
      | sl t => cases hB
      | bx b' j' => exact ⟨Nat.lt_of_lt_of_le (hpre.cllt _ B hB).1 hfr.size, .inl (.inr (.inl ⟨b', j', hB⟩))⟩
    · refine ⟨fun B o hs => ?_, fun b x hb => ?_, hpre.sp.inj, [], rfl, .nil⟩
      · rcases hs with ⟨b, x, hb, e, ho⟩ | ⟨hmem, _⟩
        · obtain ⟨h1, h2, _⟩ := hpre.sp.ob B o (.inl ⟨b, x, hb, e, ho⟩)
          have hlt := (Array.getElem?_eq_some_iff.1 h1).1
          refine ⟨(hfr.heap B hlt (hno B)).trans h1, fun p hp => ?_, .inl (.inr (.inr ⟨b, x, hb, e⟩))⟩
          cases p with
          | sl t => cases hp
          | bx b' j' => exact h2 _ hp
        · cases hmem
      · exact hpre.sp.base b x hb
theorem CallN.view {P : Program} {f : FuncId} {vals raw vals' : List AV} {r : AV} {bs : List Box} {K : AV → List Box → Prop} (h : Fun P f vals' r) (hr : scalar r = true) (hv : Vws bs raw vals') (hK : K r bs) : CallN P f vals raw bs K :=
  .raw (h.view hr hv) fun r' bs' ⟨e1, e2⟩ => by subst e1 e2; exact hK
/-- what is handed in is there -/
theorem Sem.assume {P : Program} {f : FuncId} {vals : List AV} {bs : List Box} {Q : AV → List Box → Prop} (h : (∀ x ∈ vals, x.flat = true → x.good) → (∀ cs, AV.ept cs ∈ vals → ∀ c ∈ cs, c.good) → Sem P f vals bs Q) : Sem P f vals bs Q := fun E G a0 w args lo h1 h2 h3 => by
  refine h (fun x hx hf => ?_) (fun cs hx c hc => ?_) E G a0 w args lo h1 h2 h3
  · obtain ⟨j, hj, rfl⟩ := List.getElem_of_mem hx
    exact ⟨G.M, _, (h3 j hj _ (List.getElem?_eq_getElem (by omega))).toFV hf⟩
  · obtain ⟨j, hj, e⟩ := List.getElem_of_mem hx
    have hv := h3 j hj _ (List.getElem?_eq_getElem (by omega))
    rw [e] at hv
    obtain ⟨B, off, _, hcs⟩ := hv.inv_ept
    obtain ⟨i, hi, rfl⟩ := List.getElem_of_mem hc
    obtain ⟨v, _, _, h6⟩ := hcs i hi
    exact ⟨G.M, v, h6⟩
/-- elements put behind nothing: a row -/
theorem AppN.nilRow {α : Type} {f : α → AV} {z : Nat} (hp : Plain f z) {e : List (Nat × AV)} {bs : List Box} {lo : Nat} {l' : List α} {o : Cap} {K : AV → St → Prop} (hlim : l'.length ≤ 4294967296)
    (h : ∀ k', l'.length ≤ k' → K (.bsl bs.length l'.length k') ⟨e, bs ++ [rowF f z k' l'], lo⟩) : AppN z ⟨e, bs, lo⟩ (.sl .full []) (.sl o (l'.map f)) K := by
  refine ⟨?_⟩
  unfold appB
  simp only [srcK, elsK]
  refine ⟨fun y hy => by obtain ⟨x, _, rfl⟩ := List.mem_map.1 hy; exact hp.sz x, ?_⟩
  rw [List.length_map]
  refine ⟨⟨hp.pos, by simp, by omega, fun x hx => by simp at hx⟩, fun k' hk' => ?_⟩
  have := h k' (by omega)
  simp only [rowF, killO, Nat.zero_add, List.take_nil, List.nil_append] at this ⊢
  exact this
/-- a row, the last of the boxes: it moves one box further -/
theorem Weak.shift {env : List (Nat × AV)} {own : List Box} {cs : List AV} {lo t m k : Nat} (h0 : envGet env t = some (.bsl own.length m k)) (hd : ∀ x ∈ cs, x.deown = x) :
    Weak ⟨env, own ++ [.row cs], lo⟩ ⟨envPut env t (.bsl (own.length + 1) m k), own ++ [.dead, .row cs], lo⟩ := fun E G a w hs => by
  have hsl := hs.val (.sl t) _ (show (⟨env, own ++ [.row cs], lo⟩ : St).at (.sl t) = some _ from h0)
  obtain ⟨ad, hv, hbl, hmk, hml, had⟩ := hsl.inv_bsl
  have hbx : ∀ c ds, boxCells (own ++ [.dead, .row cs]) c = some ds → (c = own.length + 1 ∧ ds = cs ∧ cs ≠ []) ∨ (c < own.length ∧ boxCells own c = some ds) := fun c ds h => by
    rcases Nat.lt_or_ge c own.length with h1 | h1
    · refine .inr ⟨h1, ?_⟩
      simpa only [boxCells, List.getElem?_append_left h1] using h
    · left
      simp only [boxCells, List.getElem?_append_right h1] at h
      rcases Nat.lt_or_ge (c - own.length) 1 with h2 | h2
      · rw [show c - own.length = 0 by omega] at h
        simp [Box.cs?] at h
      · rcases Nat.lt_or_ge (c - own.length) 2 with h3 | h3
        · rw [show c - own.length = 1 by omega] at h
          simp only [List.getElem?_cons_succ, List.getElem?_cons_zero, Option.bind_some, row_cs] at h
          split at h
          · cases h
          · cases h; exact ⟨by omega, rfl, by assumption⟩
        · rw [List.getElem?_eq_none (by simp; omega)] at h
          cases h
  have hold : ∀ c, c < own.length → boxCells (own ++ [.row cs]) c = boxCells own c := fun c hc => by simp only [boxCells, List.getElem?_append_left hc]
  have hrow : cs ≠ [] → boxCells (own ++ [.row cs]) own.length = some cs := fun h => by simp [boxCells, row_cs, h]
  have hloop : ∀ c x, boxLoop (own ++ [.dead, .row cs]) c = some x → boxLoop (own ++ [.row cs]) c = some x := fun c x h => by
    rcases Nat.lt_or_ge c own.length with h1 | h1
    · simpa only [boxLoop, List.getElem?_append_left h1] using h
    · simp only [boxLoop, List.getElem?_append_right h1] at h
      rcases Nat.lt_or_ge (c - own.length) 1 with h2 | h2
      · rw [show c - own.length = 0 by omega] at h
        simp [Box.lb?] at h
      · rcases Nat.lt_or_ge (c - own.length) 2 with h3 | h3
        · rw [show c - own.length = 1 by omega] at h
          simp [Box.lb?] at h
        · rw [List.getElem?_eq_none (by simp; omega)] at h
          cases h
  have h1 := hs.reb (bs' := own ++ [.dead, .row cs]) (σ' := fun c => if c = own.length + 1 then G.σ own.length else G.σ c) (fun c => if c = own.length + 1 then own.length else c) (by simp) (fun c hc => by
      simp at hc; rw [if_neg (by omega)]) hloop (fun c ds hc => by
      rcases hbx c ds hc with ⟨rfl, rfl, h⟩ | ⟨h, h2⟩
      · rw [if_pos rfl, if_pos rfl]
        exact ⟨ds, hrow h, rfl, Nat.le_refl _, fun j x hx => .inr ⟨hx, .inr (hd x (List.mem_of_getElem? hx))⟩⟩
      · rw [if_neg (by omega), if_neg (by omega)]
        exact ⟨ds, by rw [hold c h]; exact h2, rfl, Nat.le_refl _, fun j x hx => .inr ⟨hx, .inl rfl⟩⟩)
    (fun c c' ds ds' hc hc' e => by
      rcases hbx c ds hc with ⟨rfl, _⟩ | ⟨h, _⟩ <;> rcases hbx c' ds' hc' with ⟨rfl, _⟩ | ⟨h2, _⟩
      · rfl
      · rw [if_pos rfl, if_neg (by omega)] at e; omega
      · rw [if_pos rfl, if_neg (by omega)] at e; omega
      · rwa [if_neg (by omega), if_neg (by omega)] at e)
  refine ⟨_, h1.upd (q := .sl t) (y := .bsl own.length m k) h0 (x := .bsl (own.length + 1) m k) ?_⟩
  show RV G.M _ _ _ (valAt G.σ a w (.sl t))
  rw [hv]
  refine .bsl _ _ _ _ (by simp) hmk hml fun hk => ?_
  rw [had hk]
  simp
theorem EndN.shift {α : Type} {f : α → AV} {z : Nat} (hp : Plain f z) (own : List Box) (t : Nat) {s s' : St} {l : List α} {m k k' : Nat} (hb : s.bs = own ++ [rowF f z k' l]) (h0 : envGet s.env t = some (.bsl own.length m k))
    (h : EndN ⟨envPut s.env t (.bsl (own.length + 1) m k), own ++ [.dead, rowF f z k' l], s.lo⟩ s') : EndN s s' := by
  obtain ⟨env, bs, lo⟩ := s
  simp only at hb
  subst hb
  exact ⟨(Weak.shift h0 fun x hx => (hp.rowOk l _ 0 x hx).1).trans h.out⟩
theorem setLast {α : Type} (own : List α) (x y : α) : (own ++ [x]).set own.length y = own ++ [y] := by simp
theorem setLast2 {α : Type} (own : List α) (x y c : α) : ((own ++ [x]) ++ [c]).set own.length y = (own ++ [y]) ++ [c] := by simp
/-- the cells of a row hold no box -/
theorem row_all {α : Type} {f : α → AV} {z : Nat} (hp : Plain f z) (l : List α) (q n : Nat) : (cellsOf (l.map f) ++ List.replicate q AV.top).all (fun x => x.lt n) = true := List.all_eq_true.2 fun x hx => (hp.rowOk l q n x hx).2
theorem row_allI (l : List Int) (q n : Nat) : (cellsOf (l.map (AV.int .i64)) ++ List.replicate q AV.top).all (fun x => x.lt n) = true := row_all plainI l q n
theorem row_allB (l : List Bool) (q n : Nat) : (cellsOf (l.map AV.bool) ++ List.replicate q AV.top).all (fun x => x.lt n) = true := row_all plainB l q n
theorem bLtRow {n : Nat} {cs : List AV} {r : List Box} (h : cs.all (fun x => x.lt n) = true) (k : boxesLt n r = true) : boxesLt n (.row cs :: r) = true := by simp only [boxesLt, h, k, Bool.and_self]
theorem bLtCells {n : Nat} {cs : List AV} {r : List Box} (h : cs.all (fun x => x.lt n) = true) (k : boxesLt n r = true) : boxesLt n (.cells cs :: r) = true := by simp only [boxesLt, h, k, Bool.and_self]
end Go.AM
