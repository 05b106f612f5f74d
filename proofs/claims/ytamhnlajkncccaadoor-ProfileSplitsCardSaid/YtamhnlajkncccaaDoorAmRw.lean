/-
  THE ABSTRACT MACHINE, 21: rows and maps, as lists of a type. No function of the program is named here. By an AI agent.
-/
import Derived.Test.YtamhnlajkncccaaDoorAmP
set_option linter.unusedSimpArgs false
set_option linter.unusedVariables false
namespace Go.AM
open Go.CK Go.RowKit

/-- a row: the elements of l, room for k -/
def rowF {α : Type} (f : α → AV) (z k : Nat) (l : List α) : Box := .row (cellsOf (l.map f) ++ List.replicate ((k - l.length) * z) .top)
/-- elements of z cells, none of which owns anything -/
structure Plain {α : Type} (f : α → AV) (z : Nat) : Prop where
  pos : 0 < z
  sz : ∀ x, (f x).cells.length = z
  de : ∀ x, ∀ c ∈ (f x).cells, c.deown = c
  flat : ∀ x, ∀ c ∈ (f x).cells, c.flat1 = true
theorem mem_cellsOf : ∀ {l : List AV} {c : AV}, c ∈ cellsOf l → ∃ x ∈ l, c ∈ x.cells
  | [], _, h => by cases h
  | x :: l, c, h => by
    rcases List.mem_append.1 h with h | h
    · exact ⟨x, by simp, h⟩
    · obtain ⟨y, h1, h2⟩ := mem_cellsOf h
      exact ⟨y, by simp [h1], h2⟩
section
variable {α : Type} {f : α → AV} {z : Nat}
theorem Plain.len (h : Plain f z) (l : List α) : (cellsOf (l.map f)).length = l.length * z := by
  rw [cellsOf_length (z := z) fun y hy => by obtain ⟨x, _, rfl⟩ := List.mem_map.1 hy; exact h.sz x, List.length_map]
theorem Plain.mem (h : Plain f z) {l : List α} {c : AV} (hc : c ∈ cellsOf (l.map f)) : c.deown = c ∧ c.flat1 = true := by
  obtain ⟨y, h1, h2⟩ := mem_cellsOf hc
  obtain ⟨x, _, rfl⟩ := List.mem_map.1 h1
  exact ⟨h.de x c h2, h.flat x c h2⟩
theorem Plain.take (h : Plain f z) (l : List α) (p : List AV) : (cellsOf (l.map f) ++ p).take (l.length * z) = cellsOf (l.map f) := by
  rw [← h.len l]; simp

theorem rowAt_row {bs : List Box} {b : Nat} {cs : List AV} (h : bs[b]? = some (.row cs)) : rowAt bs b = some cs := by
  unfold rowAt; rw [h]
theorem srcK_row {bs : List Box} {b m k : Nat} {cs : List AV} {K : Nat → Nat → List AV → Option Nat → Prop} (h : bs[b]? = some (.row cs)) (k' : K m k cs (some b)) : srcK bs (.bsl b m k) K := by
  simp only [srcK, rowAt_row h]; exact k'
/-- elements of a list put behind a row -/
theorem AppN.row (hp : Plain f z) {e : List (Nat × AV)} {bs : List Box} {lo : Nat} {b m k : Nat} {l l' : List α} {o : Cap} {K : AV → St → Prop} (hb : bs[b]? = some (rowF f z k l)) (hm : m = l.length) (hk : m ≤ k) (hlim : m + l'.length ≤ 4294967296)
    (h : ∀ k', (l ++ l').length ≤ k' → K (.bsl bs.length (l ++ l').length k') ⟨e, bs.set b .dead ++ [rowF f z k' (l ++ l')], lo⟩) : AppN z ⟨e, bs, lo⟩ (.bsl b m k) (.sl o (l'.map f)) K := by
  subst hm
  refine ⟨srcK_row hb ?_⟩
  refine ⟨fun y hy => by obtain ⟨x, _, rfl⟩ := List.mem_map.1 hy; exact hp.sz x, ?_⟩
  rw [List.length_map]
  refine ⟨⟨hp.pos, ?_, hlim, fun x hx => ?_⟩, fun k' hk' => ?_⟩
  · rw [List.length_append, hp.len, List.length_replicate, ← Nat.add_mul]; exact Nat.mul_le_mul_right _ (by omega)
  · rw [hp.take] at hx; exact (hp.mem hx).1
  · rw [hp.take, ← List.append_assoc, ← cellsOf_append, ← List.map_append]
    have := h k' (by simpa using hk')
    simp only [List.length_append] at this
    unfold rowF at this
    simp only [List.length_append] at this
    exact this
theorem AppN.one (hp : Plain f z) {e : List (Nat × AV)} {bs : List Box} {lo : Nat} {b m k : Nat} {l : List α} {x : α} {o : Cap} {K : AV → St → Prop} (hb : bs[b]? = some (rowF f z k l)) (hm : m = l.length) (hk : m ≤ k) (hlim : m + 1 ≤ 4294967296)
    (h : ∀ k', (l ++ [x]).length ≤ k' → K (.bsl bs.length (l ++ [x]).length k') ⟨e, bs.set b .dead ++ [rowF f z k' (l ++ [x])], lo⟩) : AppN z ⟨e, bs, lo⟩ (.bsl b m k) (.sl o [f x]) K :=
  AppN.row (l' := [x]) hp hb hm hk hlim h
/-- room is made -/
theorem ZerN.nil (hp : Plain f z) {e : List (Nat × AV)} {bs : List Box} {lo : Nat} {ik : IntKind} {n : Int} {K : AV → St → Prop} (hn : 0 ≤ n ∧ n ≤ 4294967296) (h : ∀ k', n.toNat ≤ k' → K (.bsl bs.length n.toNat k') ⟨e, bs ++ [rowF f z k' []], lo⟩) : ZerN z ⟨e, bs, lo⟩ (.sl .full []) (.int ik n) K := by
  refine ⟨?_⟩
  unfold appZ
  simp only [srcK]
  refine ⟨⟨hp.pos, by simp, ⟨hn.1, by omega⟩, fun x hx => by simp at hx⟩, fun k' hk' => ?_⟩
  have := h k' (by omega)
  simpa [rowF, cellsOf, killO] using this

/-- a row is made -/
theorem MkN.row (hp : Plain f z) (x : α) {e : List (Nat × AV)} {bs : List Box} {lo : Nat} {ik jk : IntKind} {n m : Int} {K : AV → St → Prop} (hn : 0 ≤ n ∧ n ≤ m ∧ m ≤ 4294967296) (h : K (.bsl bs.length n.toNat m.toNat) ⟨e, bs ++ [rowF f z m.toNat (List.replicate n.toNat x)], lo⟩) : MkN z (f x) ⟨e, bs, lo⟩ (.int ik n) (.int jk m) K := by
  refine ⟨⟨⟨hp.pos, hn⟩, ?_⟩⟩
  simpa only [rowF, List.map_replicate, List.length_replicate] using h

/-! ### weaker states -/
theorem RS.rowNil {E : Entry} {G : Gh} {s : St} {a : Act} {w : World} (h : RS E G s a w) : RS E G ⟨s.env, s.bs ++ [.row []], s.lo⟩ a w := by
  have := h.reb (bs' := s.bs ++ [.row []]) (σ' := G.σ) id (by simp) (fun _ _ => rfl) (fun b x hb => boxLoop_append rfl hb) (fun b cs' hc => by
    rw [boxCells_append] at hc
    split at hc
    · cases hc
    · exact ⟨cs', hc, rfl, Nat.le_refl _, fun j x hx => .inr ⟨hx, .inl rfl⟩⟩) (fun b b' _ _ _ _ e => e)
  exact this
/-- no elements: a row without any -/
theorem Weak.toRow (s : St) (t : Nat) (h0 : envGet s.env t = some (.sl .full [])) : Weak s ⟨envPut s.env t (.bsl s.bs.length 0 0), s.bs ++ [.row []], s.lo⟩ := fun E G a w hs => by
  have h1 := hs.rowNil
  have hat : (⟨s.env, s.bs ++ [.row []], s.lo⟩ : St).at (.sl t) = some (.sl .full []) := h0
  have hv := h1.val _ _ hat
  simp only [AV.deown] at hv
  refine ⟨G, h1.upd (q := .sl t) hat ?_⟩
  obtain ⟨ad, kk, B, off, sz', e1, _, _, _, e2, _⟩ := hv.inv_sl
  have := e2 rfl
  subst this
  rw [e1]
  exact .bsl _ _ _ _ (by simp) (Nat.le_refl _) (Nat.zero_le _) (fun h => absurd rfl h)
theorem RetP.toRow {s : St} {rs : List RRes} {Q : AV → List Box → Prop} (k : Nat) (h0 : envGet s.env k = some (.sl .full [])) (h : RetP ⟨envPut s.env k (.bsl s.bs.length 0 0), s.bs ++ [.row []], s.lo⟩ rs Q) : RetP s rs Q := by
  obtain ⟨s', h3, h4⟩ := h.out
  exact ⟨s', (Weak.toRow s k h0).trans h3, h4⟩
theorem EndN.toRow {s t : St} (k : Nat) (h0 : envGet s.env k = some (.sl .full [])) (h : EndN ⟨envPut s.env k (.bsl s.bs.length 0 0), s.bs ++ [.row []], s.lo⟩ t) : EndN s t := ⟨(Weak.toRow s k h0).trans h.out⟩

theorem Elems.ofCells {M : Hp} {B : Nat} {L : List AV} {p : List AV} (hz : ∀ y ∈ L, y.cells.length = z) (h : Cells M B 0 (cellsOf L ++ p)) : Elems M B 0 z L := fun i hi => by
  have hl := cellsOf_length hz
  have hc := hz _ (List.getElem_mem hi)
  refine ⟨hc, fun j hj => ?_⟩
  have hij : i * z + j < (cellsOf L).length := by
    rw [hl]
    have := Nat.mul_le_mul_right z hi
    rw [Nat.succ_mul] at this
    omega
  obtain ⟨v, h1, h2, h3⟩ := h (i * z + j) (by rw [List.length_append]; omega)
  refine ⟨v, ?_, h2, ?_⟩
  · rw [Nat.zero_add] at h1 ⊢; exact h1
  · rw [List.getElem_append_left hij] at h3
    have hg := cellsOf_get hz i hi j (by omega)
    rw [List.getElem?_eq_getElem hij, List.getElem?_eq_getElem hj] at hg
    rw [← Option.some.inj hg]; exact h3
/-- a row that is written no more is a list -/
theorem Weak.froze (hp : Plain f z) (s : St) (t : Nat) {b m k : Nat} {l : List α} (h0 : envGet s.env t = some (.bsl b m k)) (hb : s.bs[b]? = some (rowF f z k l)) (hm : m = l.length) : Weak s ⟨envPut s.env t (.sl .no (l.map f)), s.bs.set b .dead, s.lo⟩ := fun E G a w hs => by
  subst hm
  have hz : ∀ y ∈ l.map f, y.cells.length = z := fun y hy => by obtain ⟨x, _, rfl⟩ := List.mem_map.1 hy; exact hp.sz x
  have hat : s.at (.sl t) = some (.bsl b l.length k) := h0
  have hv0 := hs.val _ _ hat
  obtain ⟨ad, hv, hbl, hmk, hml, had⟩ := hv0.inv_bsl
  by_cases hk : k = 0
  · subst hk
    have hl : l = [] := List.eq_nil_of_length_eq_zero (by omega)
    subst hl
    have h1 := hs.reb (bs' := s.bs.set b .dead) (σ' := G.σ) id (by simp) (fun _ _ => rfl) (fun c x hc => boxLoop_kill hc) (fun c cs' hc => by
      rw [boxCells_setDead] at hc
      split at hc
      · cases hc
      · exact ⟨cs', hc, rfl, Nat.le_refl _, fun j x hx => .inr ⟨hx, .inl rfl⟩⟩) (fun b b' _ _ _ _ e => e)
    refine ⟨_, h1.upd (q := .sl t) (x := .sl .no ([].map f)) hat ?_⟩
    show RV G.M G.σ _ _ (valAt G.σ a w (.sl t))
    rw [hv]
    exact .flat (FV.mk_sl (l := []) (B := 0) (off := 0) (sz := z) (by simp) (Nat.le_refl _) (Nat.zero_le _) (by simp) (fun h => absurd rfl h) (fun i hi => by cases hi))
  · have hne : cellsOf (l.map f) ++ List.replicate ((k - l.length) * z) .top ≠ [] := fun e => by
      have := congrArg List.length e
      rw [List.length_append, hp.len, List.length_replicate, ← Nat.add_mul, List.length_nil] at this
      have h2 : 0 < (l.length + (k - l.length)) * z := Nat.mul_pos (by omega) hp.pos
      omega
    have hbc : boxCells s.bs b = some (cellsOf (l.map f) ++ List.replicate ((k - l.length) * z) .top) := rowAt_cells (rowAt_row hb) hne
    obtain ⟨G', h1, h2, h3⟩ := hs.dead hbc (fun x hx => by
      rcases List.mem_append.1 hx with hx | hx
      · exact (hp.mem hx).2
      · rw [(List.mem_replicate.1 hx).2]; rfl)
    refine ⟨G', h1.upd (q := .sl t) (x := .sl .no (l.map f)) (y := .bsl b l.length k) h0 ?_⟩
    show RV G'.M G'.σ _ _ (valAt G'.σ a w (.sl t))
    have hva : valAt G'.σ a w (.sl t) = .slice ad l.length k := hv
    rw [hva, had hk]
    have := FV.mk_sl (M := G'.M) (o := .no) (l := l.map f) (a := some ⟨G.σ b, 0, none⟩) (k := k) (B := G.σ b) (off := 0) (sz := z) (by simp) (by simpa using hmk) (by first|(simpa using hml)|(have:=glim_le hml;simpa using this)) (by simp) (fun _ => rfl) (Elems.ofCells hz h3)
    rw [List.length_map] at this
    exact .flat this
theorem RetP.froze (hp : Plain f z) {s : St} {t : Nat} {b m k : Nat} {l : List α} {Q : AV → List Box → Prop} (h0 : envGet s.env t = some (.bsl b m k)) (hb : s.bs[b]? = some (rowF f z k l)) (hm : m = l.length) (h : RetP ⟨envPut s.env t (.sl .no (l.map f)), s.bs.set b .dead, s.lo⟩ [.slot t] Q) : RetP s [.slot t] Q := by
  obtain ⟨s', h3, h4⟩ := h.out
  exact ⟨s', (Weak.froze hp s t h0 hb hm).trans h3, h4⟩
end
section
variable {E : Entry} {G : Gh} {s : St} {a : Act} {w : World}
theorem boxCells_setRow {bs : List Box} {b : Nat} {cs : List AV} (hb : b < bs.length) (h0 : cs ≠ []) (c : Nat) : boxCells (bs.set b (.row cs)) c = if c = b then some cs else boxCells bs c := by
  simp only [boxCells, List.getElem?_set]
  by_cases e : b = c
  · subst e; simp only [if_true, hb, row_cs, if_neg h0]
  · rw [if_neg e, if_neg (fun x => e x.symm)]
/-- the cells of a row turn, all at once; blocks may have come -/
theorem RS.reCells (h : RS E G s a w) {b : Nat} {cs cs' : List AV} (hb : boxCells s.bs b = some cs) {w' : World} {vs' : Array Value} {T : TypeId} (hc' : w'.heap[G.σ b]? = some (.cells vs' T (0, 0))) (hsz : cs'.length ≤ vs'.size) (hne : cs' ≠ [])
    (hos : w'.os = w.os) (htp : w'.tape = w.tape) (hout : w'.output = w.output) (hsize : w.heap.size ≤ w'.heap.size) (hother : ∀ B, B < w.heap.size → B ≠ G.σ b → w'.heap[B]? = w.heap[B]?)
    (hv : ∀ (j : Nat) (hj : j < cs'.length) v, vs'[j]? = some v → v.oneCell' = true ∧ RV G.M G.σ s.bs.length cs'[j] v) : RS E G ⟨s.env, s.bs.set b (.row cs'), s.lo⟩ a w' := by
  have hblt := h.blt hb
  have hbl := boxCells_lt hb
  obtain ⟨vs, T0, hc, hvl⟩ := h.box b cs hb
  obtain ⟨hM, hmine⟩ := h.bmem b cs hb
  have hset : ∀ c, boxCells (s.bs.set b (.row cs')) c = if c = b then some cs' else boxCells s.bs c := boxCells_setRow hbl hne
  have hlen : (s.bs.set b (.row cs')).length = s.bs.length := by simp
  have hcl : ∀ p B, G.cl p = some B → B ≠ G.σ b := fun p B hB e => h.clbox p B hB b cs hb e.symm
  have hval : ∀ p y, (⟨s.env, s.bs.set b (.row cs'), s.lo⟩ : St).at p = some y → (s.at p = some y ∧ valAt G.σ a w' p = valAt G.σ a w p) ∨ ∃ j, ∃ hj : j < cs'.length, p = .bx b j ∧ y = cs'[j] ∧ vs'[j]? = some (valAt G.σ a w' p) := fun p y hp => by
    cases p with
    | sl t => exact .inl ⟨hp, rfl⟩
    | bx c j =>
      simp only [St.at, hset] at hp
      by_cases e : c = b
      · subst e
        rw [if_pos rfl] at hp
        simp only [Option.bind_some] at hp
        obtain ⟨hj, hy⟩ := List.getElem?_eq_some_iff.1 hp
        refine .inr ⟨j, hj, rfl, hy.symm, ?_⟩
        simp only [valAt, World.cell?, hc']
        have : j < vs'.size := by omega
        simp [this]
      · rw [if_neg e] at hp
        refine .inl ⟨hp, ?_⟩
        cases hbc : boxCells s.bs c with
        | none => rw [hbc] at hp; cases hp
        | some ds =>
          simp only [valAt]
          rw [cell_heap (hother _ (h.blt hbc) (fun e2 => e (h.inj c b ds cs hbc hb e2)))]
  have hbox : ∀ c ds, boxCells (s.bs.set b (.row cs')) c = some ds → (c = b ∧ ds = cs') ∨ (c ≠ b ∧ boxCells s.bs c = some ds) := fun c ds hcd => by
    rw [hset] at hcd
    split at hcd
    · rename_i e; cases hcd; exact .inl ⟨e, rfl⟩
    · rename_i e; exact .inr ⟨e, hcd⟩
  have hcs : ∀ c ds, boxCells (s.bs.set b (.row cs')) c = some ds → ∃ es, boxCells s.bs c = some es := fun c ds hcd => by
    rcases hbox c ds hcd with ⟨rfl, _⟩ | ⟨_, h1⟩
    · exact ⟨cs, hb⟩
    · exact ⟨ds, h1⟩
  refine ⟨⟨hos.trans h.fr.os, htp.trans h.fr.tape, hout.trans h.fr.output, Nat.le_trans h.fr.size hsize, h.fr.le, fun B hB hn => ?_, h.fr.mem⟩, fun B o u hu => ?_, h.nt, fun p y hp => ?_, fun c j y hp => ?_, fun c ds hcd => ?_, fun c ds hcd => ?_, fun c c' ds ds' hcd hcd' e => ?_, fun p z l hp => ?_, h.clinj, fun p B hB c ds hcd => ?_, fun p B hB => ?_, h.lo, by rw [hlen]; exact h.len, h.sig, h.sp.step (Hp.le_refl _) (fun _ _ => rfl) (fun c x hx => ?_) (fun B o ho hk => ?_) (fun _ _ _ _ p k => ⟨p, k⟩) (fun _ k => k)⟩
  · have hne2 : B ≠ G.σ b := fun e => by
      subst e
      rcases hmine with hm | hm
      · exact hn hm
      · omega
    rw [hother B (Nat.lt_of_lt_of_le hB h.fr.size) hne2]
    exact h.fr.heap B hB hn
  · have h1 := h.ok _ _ _ hu
    have hne2 : B ≠ G.σ b := fun e => by rw [e, hM] at hu; cases hu
    simp only [Hp.of] at h1 ⊢
    rw [cell_heap (hother B (Hp.lt h.ok hu) hne2)]; exact h1
  · rw [hlen]
    rcases hval p y hp with ⟨h1, h2⟩ | ⟨j, hj, rfl, rfl, h3⟩
    · rw [h2]; exact h.val p y h1
    · have := (hv j hj _ h3).2
      rw [this.deown_of]; exact this
  · rcases hval _ y hp with ⟨h1, h2⟩ | ⟨j', hj, e, rfl, h3⟩
    · rw [h2]; exact h.one c j y h1
    · cases e
      exact (hv _ hj _ h3).1
  · rcases hbox c ds hcd with ⟨rfl, rfl⟩ | ⟨h1, h2⟩
    · exact ⟨vs', T, hc', hsz⟩
    · obtain ⟨us, T', h4, h5⟩ := h.box c ds h2
      exact ⟨us, T', by rw [hother _ (h.blt h2) (fun e2 => h1 (h.inj c b ds cs h2 hb e2))]; exact h4, h5⟩
  · obtain ⟨es, h1⟩ := hcs c ds hcd
    exact h.bmem c es h1
  · obtain ⟨es, h1⟩ := hcs c ds hcd
    obtain ⟨es', h1'⟩ := hcs c' ds' hcd'
    exact h.inj c c' es es' h1 h1' e
  · rcases hval p _ hp with ⟨h1, h2⟩ | ⟨j, hj, rfl, e, h3⟩
    · obtain ⟨ad, k, q1, q2, q3⟩ := h.own p z l h1
      refine ⟨ad, k, by rw [h2]; exact q1, q2, ?_⟩
      rcases q3 with q3 | ⟨B, hB, q4, q5⟩
      · exact .inl q3
      · obtain ⟨us, T', q6, q7⟩ := q5.cells
        exact .inr ⟨B, hB, q4, q5.lt, ⟨us, T', by rw [hother B (h.cllt p B hB).1 (hcl p B hB)]; exact q6, q7⟩, q5.free, q5.mine⟩
    · have := (hv j hj _ h3).2.deown_of
      rw [← e] at this
      simp [AV.deown] at this
  · obtain ⟨es, h1⟩ := hcs c ds hcd
    exact h.clbox p B hB c es h1
  · obtain ⟨h1, h2⟩ := h.cllt p B hB
    exact ⟨Nat.lt_of_lt_of_le h1 hsize, h2⟩
  · by_cases e : b = c
    · subst e
      simp [boxLoop, hbl, Box.lb?] at hx
    · simp only [boxLoop, List.getElem?_set, if_neg e] at hx
      exact hx
  · rw [hother B (Array.getElem?_eq_some_iff.1 ho).1 (fun e => by subst e; rw [hc] at ho; cases ho; cases hk)]
    exact ho
end
/-- a dead box ahead of a row, the last: the row takes its place -/
theorem Weak.unshift {env : List (Nat × AV)} {own : List Box} {cs : List AV} {lo t m k : Nat} (h0 : envGet env t = some (.bsl (own.length + 1) m k)) (hlo : lo ≤ own.length) (he : ∀ u x, u ≠ t → envGet env u = some x → x.lt own.length = true) (ho : boxesLt own.length own = true) (hd : ∀ x ∈ cs, x.deown = x ∧ x.lt own.length = true) :
    Weak ⟨env, own ++ [.dead, .row cs], lo⟩ ⟨envPut env t (.bsl own.length m k), own ++ [.row cs], lo⟩ := fun E G a w hs => by
  have hb1 : ∀ c ds, boxCells (own ++ [.row cs]) c = some ds → (c = own.length ∧ ds = cs ∧ cs ≠ []) ∨ (c < own.length ∧ boxCells own c = some ds) := fun c ds h => by
    rw [boxCells_append] at h
    split at h
    · rename_i e
      rw [row_cs] at h
      split at h
      · cases h
      · rename_i h1
        cases h; exact .inl ⟨e, rfl, h1⟩
    · exact .inr ⟨boxCells_lt h, h⟩
  have hb2 : ∀ c, c < own.length → boxCells (own ++ [.dead, .row cs]) c = boxCells own c := fun c hc => by simp only [boxCells, List.getElem?_append_left hc]
  have hb3 : cs ≠ [] → boxCells (own ++ [.dead, .row cs]) (own.length + 1) = some cs := fun h => by
    simp [boxCells, row_cs, h]
  have hl1 : ∀ c x, boxLoop (own ++ [.row cs]) c = some x → boxLoop own c = some x := fun c x h => boxLoop_append rfl h
  have hl2 : ∀ c x, boxLoop own c = some x → boxLoop (own ++ [.dead, .row cs]) c = some x := fun c x h => by
    simp only [boxLoop, List.getElem?_append_left (boxLoop_lt h)]; exact h
  have hlen : (own ++ [Box.dead, .row cs]).length = own.length + 2 := by simp
  have hlen' : (own ++ [Box.row cs]).length = own.length + 1 := by simp
  obtain ⟨f, hf⟩ : ∃ f : Nat → Nat, f = fun c => if c = own.length then own.length + 1 else c := ⟨_, rfl⟩
  obtain ⟨σ', hσ'⟩ : ∃ σ' : Nat → Nat, σ' = fun c => G.σ (f c) := ⟨_, rfl⟩
  have hfl : ∀ c, c < own.length → f c = c := fun c hc => by rw [hf]; simp only; rw [if_neg (by omega)]
  have hfb : f own.length = own.length + 1 := by rw [hf]; simp
  have hσl : ∀ c, c < own.length → σ' c = G.σ c := fun c hc => by rw [hσ']; simp only; rw [hfl c hc]
  have hbox : ∀ c ds, boxCells (own ++ [.row cs]) c = some ds → boxCells (own ++ [.dead, .row cs]) (f c) = some ds ∧ σ' c = G.σ (f c) := fun c ds h => by
    refine ⟨?_, by rw [hσ']⟩
    rcases hb1 c ds h with ⟨rfl, rfl, h1⟩ | ⟨h1, h2⟩
    · rw [hfb]; exact hb3 h1
    · rw [hfl c h1, hb2 c h1]; exact h2
  have hinj : ∀ c c' ds ds', boxCells (own ++ [.row cs]) c = some ds → boxCells (own ++ [.row cs]) c' = some ds' → f c = f c' → c = c' := fun c c' ds ds' h h' e => by
    rcases hb1 c ds h with ⟨rfl, _, _⟩ | ⟨h1, _⟩ <;> rcases hb1 c' ds' h' with ⟨rfl, _, _⟩ | ⟨h2, _⟩
    · rfl
    · rw [hfb, hfl c' h2] at e; omega
    · rw [hfl c h1, hfb] at e; omega
    · rw [hfl c h1, hfl c' h2] at e; exact e
  have hmono : ∀ x v, x.lt own.length = true → RV G.M G.σ (own ++ [Box.dead, .row cs]).length x v → RV G.M σ' (own ++ [Box.row cs]).length x v := fun x v hx h =>
    (h.lt hx).mono (Hp.le_refl _) (by rw [hlen']; omega) hσl
  have hat : ∀ p x, (⟨envPut env t (.bsl own.length m k), own ++ [.row cs], lo⟩ : St).at p = some x → (p = .sl t ∧ x = .bsl own.length m k) ∨ (∃ u, p = .sl u ∧ u ≠ t ∧ envGet env u = some x) ∨ ∃ c j, p = .bx c j ∧ (⟨env, own ++ [.dead, .row cs], lo⟩ : St).at (.bx (f c) j) = some x ∧ σ' c = G.σ (f c) ∧ x.deown.lt own.length = true ∧ ((c = own.length ∧ x.deown = x) ∨ f c = c) := fun p x hp => by
    cases p with
    | sl u =>
      simp only [St.at, envGet_put] at hp
      split at hp
      · rename_i e
        cases hp
        exact .inl ⟨by rw [e], rfl⟩
      · rename_i e
        exact .inr (.inl ⟨u, rfl, e, hp⟩)
    | bx c j =>
      simp only [St.at] at hp
      cases hc : boxCells (own ++ [.row cs]) c with
      | none => rw [hc] at hp; cases hp
      | some ds =>
        rw [hc] at hp
        simp only [Option.bind_some] at hp
        obtain ⟨h1, h2⟩ := hbox c ds hc
        refine .inr (.inr ⟨c, j, rfl, by simp only [St.at, h1, Option.bind_some]; exact hp, h2, ?_, ?_⟩)
        · rcases hb1 c ds hc with ⟨rfl, rfl, _⟩ | ⟨h3, h4⟩
          · obtain ⟨q1, q2⟩ := hd x (List.mem_of_getElem? hp)
            rw [q1]; exact q2
          · rw [lt_deown]; exact boxesLt_get ho h4 hp
        · rcases hb1 c ds hc with ⟨rfl, rfl, _⟩ | ⟨h3, _⟩
          · exact .inl ⟨rfl, (hd x (List.mem_of_getElem? hp)).1⟩
          · exact .inr (hfl c h3)
  have hva : ∀ c j, σ' c = G.σ (f c) → valAt σ' a w (.bx c j) = valAt G.σ a w (.bx (f c) j) := fun c j e => by simp only [valAt, e]
  refine ⟨{ G with σ := σ' }, hs.fr, hs.ok, hs.nt, fun p x hp => ?_, fun c j x hp => ?_, fun c ds hc => ?_, fun c ds hc => ?_, fun c c' ds ds' hc hc' e => ?_, fun p z l hp => ?_, hs.clinj, fun p B hB c ds hc => ?_, hs.cllt, hs.lo, ?_, fun c hc => ?_, ?_⟩
  · rcases hat p x hp with ⟨rfl, rfl⟩ | ⟨u, rfl, hu, hx⟩ | ⟨c, j, rfl, hx, e, hlt, _⟩
    · have hv := hs.val (.sl t) _ (show (⟨env, own ++ [.dead, .row cs], lo⟩ : St).at (.sl t) = some _ from h0)
      obtain ⟨ad, h1, _, h3, h4, h5⟩ := hv.inv_bsl
      show RV G.M σ' _ _ (valAt G.σ a w (.sl t))
      rw [h1]
      refine .bsl _ _ _ _ (by simp) h3 h4 fun hk => ?_
      rw [h5 hk, hσ']
      simp only [hfb]
    · have hv := hs.val (.sl u) x (show (⟨env, own ++ [.dead, .row cs], lo⟩ : St).at (.sl u) = some _ from hx)
      exact hmono _ _ (by rw [lt_deown]; exact he u x hu hx) hv
    · show RV G.M σ' _ _ (valAt σ' a w (.bx c j))
      rw [hva c j e]
      exact hmono _ _ hlt (hs.val _ x hx)
  · rcases hat _ x hp with ⟨e, _⟩ | ⟨u, e, _, _⟩ | ⟨c', j', e, hx, e2, _, _⟩
    · cases e
    · cases e
    · cases e
      show (valAt σ' a w (.bx c j)).oneCell' = true
      rw [hva c j e2]; exact hs.one _ _ _ hx
  · obtain ⟨h1, h2⟩ := hbox c ds hc
    show ∃ vs T, w.heap[σ' c]? = _ ∧ _
    rw [h2]; exact hs.box _ ds h1
  · obtain ⟨h1, h2⟩ := hbox c ds hc
    show (∀ o, G.M (σ' c) o = none) ∧ (E.FP (σ' c) ∨ E.w.heap.size ≤ σ' c)
    rw [h2]; exact hs.bmem _ ds h1
  · obtain ⟨h1, h2⟩ := hbox c ds hc
    obtain ⟨h1', h2'⟩ := hbox c' ds' hc'
    have e : σ' c = σ' c' := e
    rw [h2, h2'] at e
    exact hinj c c' ds ds' hc hc' (hs.inj _ _ ds ds' h1 h1' e)
  · rcases hat p _ hp with ⟨_, e⟩ | ⟨u, rfl, _, hx⟩ | ⟨c, j, rfl, hx, e, _, hc⟩
    · cases e
    · exact hs.own (.sl u) z l hx
    · rcases hc with ⟨_, hc⟩ | hc
      · simp [AV.deown] at hc
      · show ∃ ad k, valAt σ' a w (.bx c j) = _ ∧ _
        rw [hva c j e, hc]
        rw [hc] at hx
        exact hs.own _ z l hx
  · obtain ⟨h1, h2⟩ := hbox c ds hc
    show σ' c ≠ B
    rw [h2]; exact hs.clbox p B hB _ ds h1
  · show E.nb ≤ (own ++ [Box.row cs]).length
    have : lo = E.nb := hs.lo
    rw [hlen']; omega
  · have : lo = E.nb := hs.lo
    show σ' c = _
    rw [hσl c (by omega)]; exact hs.sig c hc
  · exact ((hs.sp.loops (bs' := own) hl2).step (Hp.le_refl _) hσl (fun c x h => hl1 c x h) (fun _ _ k _ => k) (fun _ _ _ _ p k => ⟨p, k⟩) (fun _ k => k))
/-- all slots but t hold no box from n on -/
def envLtBut (n t : Nat) : List (Nat × AV) → Bool
  | [] => true
  | (u, x) :: r => (Nat.beq u t || x.lt n) && envLtBut n t r
theorem envLtBut_get {n t : Nat} : ∀ {e : List (Nat × AV)}, envLtBut n t e = true → ∀ u x, u ≠ t → envGet e u = some x → x.lt n = true
  | [], _, _, _, _, h => by cases h
  | (k, y) :: r, h, u, x, hu, hg => by
    simp only [envLtBut, Bool.and_eq_true, Bool.or_eq_true] at h
    simp only [envGet] at hg
    split at hg
    · rename_i hb
      cases hg
      have := Nat.eq_of_beq_eq_true hb
      subst this
      rcases h.1 with h1 | h1
      · exact absurd (Nat.eq_of_beq_eq_true h1) hu
      · exact h1
    · exact envLtBut_get h.2 u x hu hg
theorem Plain.rowOk {α : Type} {f : α → AV} {z : Nat} (hp : Plain f z) (l : List α) (q n : Nat) : ∀ x ∈ cellsOf (l.map f) ++ List.replicate q .top, x.deown = x ∧ x.lt n = true := fun x hx => by
  rcases List.mem_append.1 hx with hx | hx
  · obtain ⟨h1, h2⟩ := hp.mem hx
    refine ⟨h1, ?_⟩
    cases x <;> first | (cases h2; done) | rfl
  · rw [(List.mem_replicate.1 hx).2]; exact ⟨rfl, rfl⟩
/-- a round's end: the row is the last box; the one ahead of it is dead -/
theorem EndN.unshift {α : Type} {f : α → AV} {z : Nat} (hp : Plain f z) (own : List Box) (t : Nat) {s s' : St} {l : List α} {m k k' : Nat} (hb : s.bs = own ++ [.dead, rowF f z k' l]) (h0 : envGet s.env t = some (.bsl (own.length + 1) m k)) (hlo : Nat.ble s.lo own.length = true) (he : envLtBut own.length t s.env = true) (ho : boxesLt own.length own = true)
    (h : EndN ⟨envPut s.env t (.bsl own.length m k), own ++ [rowF f z k' l], s.lo⟩ s') : EndN s s' := by
  obtain ⟨env, bs, lo⟩ := s
  simp only at hb
  subst hb
  exact ⟨(Weak.unshift h0 (Nat.le_of_ble_eq_true hlo) (envLtBut_get he) ho (hp.rowOk l _ _)).trans h.out⟩
theorem FV.flat1 {M : Hp} {x : AV} {v : Value} (h : FV M x v) (h1 : v.oneCell' = true) : x.flat1 = true := by
  cases h with
  | sl o l a k B off sz ho hk hl hf ha hz hm hv =>
    cases o with
    | own z => exact absurd rfl (ho z)
    | _ => rfl
  | agg cs vs hl h2 hv => cases h1
  | _ => rfl
theorem flat1_lt {x : AV} (h : x.flat1 = true) (n : Nat) : x.lt0 n = true ∧ x.lt1 n = true ∧ x.lt n = true := by
  cases x <;> first | (cases h; done) | exact ⟨rfl, rfl, rfl⟩ | skip
  rename_i o l
  exact ⟨h, h, rfl⟩
theorem FV.lt {M : Hp} {x : AV} {v : Value} (h : FV M x v) (n : Nat) : x.lt n = true := by
  cases h with
  | agg cs vs hl h1 hv =>
    simp only [AV.lt, List.all_eq_true]
    intro c hc
    obtain ⟨j, hj, rfl⟩ := List.mem_iff_getElem.1 hc
    have hj' : j < vs.length := by omega
    exact (flat1_lt ((hv j hj _ (List.getElem?_eq_getElem hj')).flat1 (h1 _ (List.getElem_mem hj'))) n).2.1
  | _ => rfl
theorem RetP.slot {s : St} {t : Nat} {Q : AV → List Box → Prop} (h : Q (s.get t) s.bs) : RetP s [.slot t] Q := ⟨s, Weak.refl s, .inl h⟩
/-- whole numbers of int, as elements -/
theorem plainI : Plain (AV.int .i64) 1 := ⟨Nat.zero_lt_one, fun _ => rfl, fun x c h => by simp [AV.cells] at h; subst h; rfl, fun x c h => by simp [AV.cells] at h; subst h; rfl⟩

/-! ### sets: maps of which all values are one -/
def msOf (v : AV) (xs : List Int) : List (Int × AV) := xs.foldl (fun l n => mput l n v) []
theorem mget_put (v : AV) : ∀ (l : List (Int × AV)) (n m : Int), mget (mput l n v) m = if m = n then some v else mget l m
  | [], n, m => by simp only [mput, mget]
  | (k, x) :: l, n, m => by
    simp only [mput]
    by_cases h : n = k
    · subst h
      simp only [if_true, mget]
      by_cases h2 : m = n <;> simp [h2]
    · simp only [if_neg h, mget]
      by_cases h2 : m = k
      · subst h2
        rw [if_pos rfl, if_neg (fun e => h e.symm), if_pos rfl]
      · rw [if_neg h2, if_neg h2, mget_put v l n m]
theorem mget_ms (v : AV) (xs : List Int) (n : Int) : mget (msOf v xs) n = if n ∈ xs then some v else none := by
  have : ∀ (xs : List Int) (l : List (Int × AV)), mget (xs.foldl (fun l n => mput l n v) l) n = if n ∈ xs then some v else mget l n := fun xs => by
    induction xs with
    | nil => intro l; simp
    | cons x xs ih =>
      intro l
      rw [List.foldl_cons, ih, mget_put]
      by_cases h1 : n ∈ xs
      · simp [h1]
      · by_cases h2 : n = x
        · simp [h2]
        · simp [h1, h2]
  rw [msOf, this]
  simp [mget]
theorem msOf_put (v : AV) (xs : List Int) (n : Int) : mput (msOf v xs) n v = msOf v (xs ++ [n]) := by simp [msOf]
theorem MapN.set {v : AV} {xs : List Int} {n : Int} {ok : Bool} {z : AV} {K : AV → Prop} (hv : mapOk v = true) (h1 : n ∈ xs → K (okR ok v true)) (h2 : n ∉ xs → K (okR ok z false)) : MapN (msOf v xs) n ok z K := by
  refine ⟨?_⟩
  rw [mget_ms]
  by_cases h : n ∈ xs
  · simp only [if_pos h]; exact ⟨hv, h1 h⟩
  · simp only [if_neg h]; exact h2 h

/-! ### rows of numbers: elements -/
theorem cells_int (l : List Int) : cellsOf (l.map (AV.int .i64)) = l.map (AV.int .i64) := by
  induction l with
  | nil => rfl
  | cons x l ih => rw [List.map_cons, cellsOf, ih]; rfl
/-- the cells of a row of numbers -/
theorem rowI_cells {bs : List Box} {b k i : Nat} {l : List Int} {x : Int} (hb : bs[b]? = some (rowF (AV.int .i64) 1 k l)) (hx : l[i]? = some x) : boxCells bs b = some (l.map (AV.int .i64) ++ List.replicate (k - l.length) AV.top) := by
  have hrow : bs[b]? = some (.row (l.map (AV.int .i64) ++ List.replicate (k - l.length) AV.top)) := by
    rw [hb]
    simp only [rowF, cells_int, Nat.mul_one]
  refine rowAt_cells (rowAt_row hrow) fun e => ?_
  have := congrArg List.length e
  rw [List.length_append, List.length_map, List.length_nil] at this
  have hi := (List.getElem?_eq_some_iff.1 hx).1
  omega
/-- a number of a row is read -/
theorem ElN.ints {e : List (Nat × AV)} {bs : List Box} {lo b k i : Nat} {l : List Int} {x : Int} {K : AV → Prop} (hb : bs[b]? = some (rowF (AV.int .i64) 1 k l)) (hx : l[i]? = some x) (h : K (.int .i64 x)) : ElN false 1 ⟨e, bs, lo⟩ (.elp b i 1 0) K := by
  refine ⟨?_⟩
  have hi := (List.getElem?_eq_some_iff.1 hx).1
  simp only [St.rd, rowI_cells hb hx, Nat.mul_one, Nat.add_zero]
  rw [List.drop_append_of_le_length (by rw [List.length_map]; omega), ← List.map_drop, List.drop_eq_getElem_cons hi, (List.getElem?_eq_some_iff.1 hx).2]
  simp only [List.map_cons, List.cons_append, loadK, AV.deown]
  exact h
/-- a number of a row is written -/
theorem EsN.ints {e : List (Nat × AV)} {bs : List Box} {lo b k i : Nat} {l : List Int} {x y : Int} {K : St → Prop} (hb : bs[b]? = some (rowF (AV.int .i64) 1 k l)) (hx : l[i]? = some x) (h : K ⟨e, bs.set b (rowF (AV.int .i64) 1 k (l.set i y)), lo⟩) : EsN 1 ⟨e, bs, lo⟩ b i 1 0 (.int .i64 y) K := by
  refine ⟨?_⟩
  have hi := (List.getElem?_eq_some_iff.1 hx).1
  simp only [storeEK, rowI_cells hb hx, Nat.mul_one, Nat.add_zero]
  refine ⟨⟨rfl, rfl, by omega, by rw [List.length_append, List.length_map]; omega⟩, ?_⟩
  have he : setAt (l.map (AV.int .i64) ++ List.replicate (k - l.length) AV.top) i (AV.int .i64 y).cells = (l.set i y).map (AV.int .i64) ++ List.replicate (k - (l.set i y).length) AV.top := by
    simp only [AV.cells, setAt, List.length_set, List.map_set]
    rw [List.set_append, if_pos (by rw [List.length_map]; exact hi)]
  rw [he]
  have e2 : rowF (AV.int .i64) 1 k (l.set i y) = .row ((l.set i y).map (AV.int .i64) ++ List.replicate (k - (l.set i y).length) AV.top) := by simp only [rowF, cells_int, Nat.mul_one]
  rw [← e2]; exact h

/-! ### rows of elements of one cell -/
theorem cells_one {α : Type} {f : α → AV} (hf : ∀ x, (f x).cells = [f x]) (l : List α) : cellsOf (l.map f) = l.map f := by
  induction l with
  | nil => rfl
  | cons x l ih => rw [List.map_cons, cellsOf, ih, hf]; rfl
theorem rowO_cells {α : Type} {f : α → AV} (hf : ∀ x, (f x).cells = [f x]) {bs : List Box} {b k i : Nat} {l : List α} {x : α} (hb : bs[b]? = some (rowF f 1 k l)) (hx : l[i]? = some x) : boxCells bs b = some (l.map f ++ List.replicate (k - l.length) AV.top) := by
  have hrow : bs[b]? = some (.row (l.map f ++ List.replicate (k - l.length) AV.top)) := by
    rw [hb]
    simp only [rowF, cells_one hf, Nat.mul_one]
  refine rowAt_cells (rowAt_row hrow) fun e => ?_
  have := congrArg List.length e
  rw [List.length_append, List.length_map, List.length_nil] at this
  have hi := (List.getElem?_eq_some_iff.1 hx).1
  omega
/-- an element of one cell is read -/
theorem ElN.one {α : Type} {f : α → AV} (hf : ∀ x, (f x).cells = [f x] ∧ (f x).deown = f x) {e : List (Nat × AV)} {bs : List Box} {lo b k i : Nat} {l : List α} {x : α} {K : AV → Prop} (hb : bs[b]? = some (rowF f 1 k l)) (hx : l[i]? = some x) (h : K (f x)) : ElN false 1 ⟨e, bs, lo⟩ (.elp b i 1 0) K := by
  refine ⟨?_⟩
  have hi := (List.getElem?_eq_some_iff.1 hx).1
  simp only [St.rd, rowO_cells (fun x => (hf x).1) hb hx, Nat.mul_one, Nat.add_zero]
  rw [List.drop_append_of_le_length (by rw [List.length_map]; omega), ← List.map_drop, List.drop_eq_getElem_cons hi, (List.getElem?_eq_some_iff.1 hx).2]
  simp only [List.map_cons, List.cons_append, loadK, (hf x).2]
  exact h
/-- an element of one cell is written -/
theorem EsN.one {α : Type} {f : α → AV} (hf : ∀ x, (f x).cells = [f x] ∧ cellOk (f x) = true) {e : List (Nat × AV)} {bs : List Box} {lo b k i : Nat} {l : List α} {x y : α} {K : St → Prop} (hb : bs[b]? = some (rowF f 1 k l)) (hx : l[i]? = some x) (h : K ⟨e, bs.set b (rowF f 1 k (l.set i y)), lo⟩) : EsN 1 ⟨e, bs, lo⟩ b i 1 0 (f y) K := by
  refine ⟨?_⟩
  have hi := (List.getElem?_eq_some_iff.1 hx).1
  simp only [storeEK, rowO_cells (fun x => (hf x).1) hb hx, Nat.mul_one, Nat.add_zero]
  refine ⟨⟨(hf y).2, by rw [(hf y).1]; rfl, by omega, by rw [List.length_append, List.length_map]; omega⟩, ?_⟩
  have he : setAt (l.map f ++ List.replicate (k - l.length) AV.top) i (f y).cells = (l.set i y).map f ++ List.replicate (k - (l.set i y).length) AV.top := by
    simp only [(hf y).1, setAt, List.length_set, List.map_set]
    rw [List.set_append, if_pos (by rw [List.length_map]; exact hi)]
  rw [he]
  have e2 : rowF f 1 k (l.set i y) = .row ((l.set i y).map f ++ List.replicate (k - (l.set i y).length) AV.top) := by simp only [rowF, cells_one (fun x => (hf x).1), Nat.mul_one]
  rw [← e2]; exact h
theorem plainB : Plain AV.bool 1 := ⟨Nat.zero_lt_one, fun _ => rfl, fun x c h => by simp [AV.cells] at h; subst h; rfl, fun x c h => by simp [AV.cells] at h; subst h; rfl⟩
/-- what a row that is written no more leaves: its first m elements, as a list -/
theorem RS.thaw {α : Type} {f : α → AV} {z : Nat} (hp : Plain f z) {E : Entry} {G : Gh} {s : St} {a : Act} {w : World} (hs : RS E G s a w) {b k0 : Nat} {l : List α} (hb : s.bs[b]? = some (rowF f z k0 l)) :
    ∃ G', RS E G' ⟨s.env, s.bs.set b .dead, s.lo⟩ a w ∧ G'.σ = G.σ ∧ ∀ (m k : Nat) (v : Value), m ≤ l.length → RV G.M G.σ s.bs.length (.bsl b m k) v → FV G'.M (.sl .no ((l.take m).map f)) v := by
  have hz : ∀ y ∈ l.map f, y.cells.length = z := fun y hy => by obtain ⟨x, _, rfl⟩ := List.mem_map.1 hy; exact hp.sz x
  by_cases hne : cellsOf (l.map f) ++ List.replicate ((k0 - l.length) * z) AV.top = []
  · have hl : l = [] := by
      have := congrArg List.length hne
      rw [List.length_append, hp.len, List.length_nil] at this
      have h0 := hp.pos
      cases l with
      | nil => rfl
      | cons x l => simp only [List.length_cons, Nat.succ_mul] at this; omega
    subst hl
    have h1 := hs.reb (bs' := s.bs.set b .dead) (σ' := G.σ) id (by simp) (fun _ _ => rfl) (fun c x hc => boxLoop_kill hc) (fun c cs' hc => by
      rw [boxCells_setDead] at hc
      split at hc
      · cases hc
      · exact ⟨cs', hc, rfl, Nat.le_refl _, fun j x hx => .inr ⟨hx, .inl rfl⟩⟩) (fun b b' _ _ _ _ e => e)
    refine ⟨_, h1, rfl, fun m k v hm hv => ?_⟩
    simp only [List.length_nil, Nat.le_zero] at hm
    subst hm
    obtain ⟨ad, rfl, _, _, _, _⟩ := hv.inv_bsl
    exact FV.mk_sl (l := []) (B := 0) (off := 0) (sz := z) (by simp) (Nat.zero_le _) (Nat.zero_le _) (by simp) (fun h => absurd rfl h) (fun i hi => by cases hi)
  · have hbc : boxCells s.bs b = some (cellsOf (l.map f) ++ List.replicate ((k0 - l.length) * z) .top) := rowAt_cells (rowAt_row hb) hne
    obtain ⟨G', h1, h2, h3⟩ := hs.dead hbc (fun x hx => by
      rcases List.mem_append.1 hx with hx | hx
      · exact (hp.mem hx).2
      · rw [(List.mem_replicate.1 hx).2]; rfl)
    refine ⟨G', h1, h2, fun m k v hm hv => ?_⟩
    obtain ⟨ad, rfl, _, hmk, hml, had⟩ := hv.inv_bsl
    have he := elems_slice (Elems.ofCells hz h3) 0 m (by simpa using hm)
    simp only [Nat.zero_mul, Nat.add_zero, List.drop_zero, ← List.map_take] at he
    have hlen : ((l.take m).map f).length = m := by simp; omega
    have := FV.mk_sl (M := G'.M) (o := .no) (l := (l.take m).map f) (a := ad) (k := k) (B := G.σ b) (off := 0) (sz := z) (by simp) (by omega) (by rw [hlen];first|exact hml|exact glim_le hml) (by simp) (fun h0 => had (fun e => by
      subst e
      have : m = 0 := by omega
      subst this
      simp at h0)) he
    rw [hlen] at this
    exact this
/-- a row within a struct, that is written no more, is a list: the struct stands in slot t -/
theorem Weak.frozeIn {α : Type} {f : α → AV} {z : Nat} (hp : Plain f z) (s : St) (t i : Nat) {cs : List AV} {b m k k0 : Nat} {l : List α} (h0 : envGet s.env t = some (.agg cs)) (hi : cs[i]? = some (.bsl b m k)) (hb : s.bs[b]? = some (rowF f z k0 l)) (hm : m ≤ l.length) : Weak s ⟨envPut s.env t (.agg (cs.set i (.sl .no ((l.take m).map f)))), s.bs.set b .dead, s.lo⟩ := fun E G a w hs => by
  have hilt := (List.getElem?_eq_some_iff.1 hi).1
  have hat : s.at (.sl t) = some (.agg cs) := h0
  have hv0 := hs.val _ _ hat
  have hde : (AV.agg cs).deown = .agg cs := rfl
  rw [hde] at hv0
  obtain ⟨vs, hv, hvl, hv1, hve⟩ := hv0.inv_agg
  have hbv := hve i hilt vs[i] (List.getElem?_eq_getElem (by omega))
  rw [(List.getElem?_eq_some_iff.1 hi).2] at hbv
  obtain ⟨G', h1, hσ, hth⟩ := hs.thaw hp hb
  have hfv := hth m k _ hm hbv
  have hat' : (⟨s.env, s.bs.set b .dead, s.lo⟩ : St).at (.sl t) = some (.agg cs) := h0
  have hv2 := h1.val _ _ hat'
  rw [hde] at hv2
  obtain ⟨vs2, hv3, hvl2, hv12, hve2⟩ := hv2.inv_agg
  have hva : valAt G'.σ a w (.sl t) = valAt G.σ a w (.sl t) := rfl
  rw [hva, hv] at hv3
  have hvs : vs = vs2 := by
    have := congrArg (fun v => match v with | Value.agg xs => xs.toList | _ => []) hv3
    simpa using this
  subst hvs
  refine ⟨G', h1.upd (q := .sl t) (x := .agg (cs.set i (.sl .no ((l.take m).map f)))) hat' ?_⟩
  show RV G'.M G'.σ _ _ (valAt G'.σ a w (.sl t))
  rw [hva, hv]
  refine .agg _ vs (by simp [hvl]) hv1 fun j hj v hjv => ?_
  rw [List.getElem_set]
  split
  · rename_i e
    subst e
    rw [List.getElem?_eq_getElem (by omega)] at hjv
    cases hjv
    exact .flat hfv
  · exact hve2 j (by simpa using hj) v hjv
/-- .. the struct stands in box c -/
theorem Weak.frozeBx {α : Type} {f : α → AV} {z : Nat} (hp : Plain f z) (s : St) (c i : Nat) {cs : List AV} {b m k k0 : Nat} {l : List α} (h0 : s.bs[c]? = some (.cells cs)) (hi : cs[i]? = some (.bsl b m k)) (hb : s.bs[b]? = some (rowF f z k0 l)) (hm : m ≤ l.length) : Weak s ⟨s.env, (s.bs.set b .dead).set c (.cells (cs.set i (.sl .no ((l.take m).map f)))), s.lo⟩ := fun E G a w hs => by
  have hcb : c ≠ b := fun e => by subst e; rw [h0] at hb; cases hb
  have hbc : boxCells s.bs c = some cs := by simp only [boxCells, h0]; rfl
  have hbc' : boxCells (s.bs.set b .dead) c = some cs := by rw [boxCells_setDead, if_neg hcb]; exact hbc
  have hat : s.at (.bx c i) = some (.bsl b m k) := by simp only [St.at, hbc, Option.bind_some]; exact hi
  have hv0 := hs.val _ _ hat
  have hde : (AV.bsl b m k).deown = .bsl b m k := rfl
  rw [hde] at hv0
  obtain ⟨G', h1, hσ, hth⟩ := hs.thaw hp hb
  have hfv := hth m k _ hm hv0
  have hat' : (⟨s.env, s.bs.set b .dead, s.lo⟩ : St).at (.bx c i) = some (.bsl b m k) := by simp only [St.at, hbc', Option.bind_some]; exact hi
  have h2 := h1.upd (q := .bx c i) (x := .sl .no ((l.take m).map f)) hat' (by
    show RV G'.M G'.σ _ _ (valAt G'.σ a w (.bx c i))
    have hva : valAt G'.σ a w (.bx c i) = valAt G.σ a w (.bx c i) := by simp only [valAt, hσ]
    rw [hva]
    exact .flat hfv)
  refine ⟨G', ?_⟩
  have e : (⟨s.env, s.bs.set b .dead, s.lo⟩ : St).upd (.bx c i) (.sl .no ((l.take m).map f)) = ⟨s.env, (s.bs.set b .dead).set c (.cells (cs.set i (.sl .no ((l.take m).map f)))), s.lo⟩ := by simp only [St.upd, hbc', St.setBox]
  rw [← e]; exact h2
theorem EndN.frozeIn {α : Type} {f : α → AV} {z : Nat} (hp : Plain f z) {s s' : St} (t i : Nat) {cs : List AV} {b m k k0 : Nat} {l : List α} (h0 : envGet s.env t = some (.agg cs)) (hi : cs[i]? = some (.bsl b m k)) (hb : s.bs[b]? = some (rowF f z k0 l)) (hm : m ≤ l.length) (h : EndN ⟨envPut s.env t (.agg (cs.set i (.sl .no ((l.take m).map f)))), s.bs.set b .dead, s.lo⟩ s') : EndN s s' := ⟨(Weak.frozeIn hp s t i h0 hi hb hm).trans h.out⟩
theorem RetP.frozeIn {α : Type} {f : α → AV} {z : Nat} (hp : Plain f z) {s : St} (t i : Nat) {cs : List AV} {b m k k0 : Nat} {l : List α} {rs : List RRes} {Q : AV → List Box → Prop} (h0 : envGet s.env t = some (.agg cs)) (hi : cs[i]? = some (.bsl b m k)) (hb : s.bs[b]? = some (rowF f z k0 l)) (hm : m ≤ l.length) (h : RetP ⟨envPut s.env t (.agg (cs.set i (.sl .no ((l.take m).map f)))), s.bs.set b .dead, s.lo⟩ rs Q) : RetP s rs Q := by
  obtain ⟨s', h3, h4⟩ := h.out
  exact ⟨s', (Weak.frozeIn hp s t i h0 hi hb hm).trans h3, h4⟩
theorem RetP.frozeBx {α : Type} {f : α → AV} {z : Nat} (hp : Plain f z) {s : St} (c i : Nat) {cs : List AV} {b m k k0 : Nat} {l : List α} {rs : List RRes} {Q : AV → List Box → Prop} (h0 : s.bs[c]? = some (.cells cs)) (hi : cs[i]? = some (.bsl b m k)) (hb : s.bs[b]? = some (rowF f z k0 l)) (hm : m ≤ l.length) (h : RetP ⟨s.env, (s.bs.set b .dead).set c (.cells (cs.set i (.sl .no ((l.take m).map f)))), s.lo⟩ rs Q) : RetP s rs Q := by
  obtain ⟨s', h3, h4⟩ := h.out
  exact ⟨s', (Weak.frozeBx hp s c i h0 hi hb hm).trans h3, h4⟩
/-- is a slice nil: what comes of it is the same -/
theorem NilN.no {l : List AV} {K : Bool → Prop} (h : ∀ b, (b = true → l = []) → K b) : NilN l K := ⟨fun hl => h false (fun e => by cases e), fun hl b => h b fun _ => hl⟩
end Go.AM
