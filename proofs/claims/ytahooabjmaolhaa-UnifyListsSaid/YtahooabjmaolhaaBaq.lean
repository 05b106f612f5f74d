/-
  Texts of this claim joined (wip/gen/bundle.py), those declarations only that are needed: AmRw Av AmVw AmTa AmVx. By an AI agent.
-/
import Derived.Test.YtahooabjmaolhaaBap
import Derived.Test.YtahooabjmaolhaaBaa
set_option linter.unusedSimpArgs false
set_option linter.unusedVariables false
namespace Go.AM
open Go.CK Go.RowKit
def rowF {α : Type} (f : α -> AV) (z k : Nat) (l : List α) : Box := .row (cellsOf (l.map f) ++ List.replicate ((k - l.length) * z) .top)
structure Plain {α : Type} (f : α -> AV) (z : Nat) : Prop where
 pos : 0 < z
 sz : ∀ x, (f x).cells.length = z
 de : ∀ x, ∀ c ∈ (f x).cells, c.deown = c
 flat : ∀ x, ∀ c ∈ (f x).cells, c.flat1 = true
theorem mem_cellsOf : ∀ {l : List AV} {c : AV}, c ∈ cellsOf l -> ∃ x ∈ l, c ∈ x.cells
 | [], _, h => by cases h
 | x :: l, c, h => by
  rcases List.mem_append.1 h with h | h
  ·exact ⟨x, by simp, h⟩
  ·obtain ⟨y, h1, h2⟩ := mem_cellsOf h; exact ⟨y, by simp [h1], h2⟩
section
variable {α : Type} {f : α -> AV} {z : Nat}
theorem Plain.len (h : Plain f z) (l : List α) : (cellsOf (l.map f)).length = l.length * z := by
 rw [cellsOf_length (z := z) fun y hy => by obtain ⟨x, _, rfl⟩ := List.mem_map.1 hy; exact h.sz x, List.length_map]
theorem Plain.mem (h : Plain f z) {l : List α} {c : AV} (hc : c ∈ cellsOf (l.map f)) : c.deown = c ∧ c.flat1 = true := by
 obtain ⟨y, h1, h2⟩ := mem_cellsOf hc; obtain ⟨x, _, rfl⟩ := List.mem_map.1 h1; exact ⟨h.de x c h2, h.flat x c h2⟩
theorem Plain.take (h : Plain f z) (l : List α) (p : List AV) : (cellsOf (l.map f) ++ p).take (l.length * z) = cellsOf (l.map f) := by
 rw [← h.len l]; simp
theorem rowAt_row {bs : List Box} {b : Nat} {cs : List AV} (h : bs[b]? = some (.row cs)) : rowAt bs b = some cs := by
 unfold rowAt; rw [h]
theorem srcK_row {bs : List Box} {b m k : Nat} {cs : List AV} {K : Nat -> Nat -> List AV -> Option Nat -> Prop} (h : bs[b]? = some (.row cs)) (k' : K m k cs (some b)) : srcK bs (.bsl b m k) K := by
 simp only [srcK, rowAt_row h]; exact k'
theorem AppN.row (hp : Plain f z) {e : List (Nat × AV)} {bs : List Box} {lo : Nat} {b m k : Nat} {l l' : List α} {o : Cap} {K : AV -> St -> Prop} (hb : bs[b]? = some (rowF f z k l)) (hm : m = l.length) (hk : m ≤ k) (hlim : m + l'.length ≤ 4294967296)
  (h : ∀ k', (l ++ l').length ≤ k' -> K (.bsl bs.length (l ++ l').length k') ⟨e, bs.set b .dead ++ [rowF f z k' (l ++ l')], lo⟩) : AppN z ⟨e, bs, lo⟩ (.bsl b m k) (.sl o (l'.map f)) K := by
 subst hm; refine ⟨srcK_row hb ?_⟩; refine ⟨fun y hy => by obtain ⟨x, _, rfl⟩ := List.mem_map.1 hy; exact hp.sz x, ?_⟩
 rw [List.length_map]; refine ⟨⟨hp.pos, ?_, hlim, fun x hx => ?_⟩, fun k' hk' => ?_⟩
 ·rw [List.length_append, hp.len, List.length_replicate, ← Nat.add_mul]; exact Nat.mul_le_mul_right _ (by omega)
 ·rw [hp.take] at hx; exact (hp.mem hx).1
 ·rw [hp.take, ← List.append_assoc, ← cellsOf_append, ← List.map_append]; have := h k' (by simpa using hk')
  simp only [List.length_append] at this; unfold rowF at this; simp only [List.length_append] at this; exact this
theorem AppN.one (hp : Plain f z) {e : List (Nat × AV)} {bs : List Box} {lo : Nat} {b m k : Nat} {l : List α} {x : α} {o : Cap} {K : AV -> St -> Prop} (hb : bs[b]? = some (rowF f z k l)) (hm : m = l.length) (hk : m ≤ k) (hlim : m + 1 ≤ 4294967296)
  (h : ∀ k', (l ++ [x]).length ≤ k' -> K (.bsl bs.length (l ++ [x]).length k') ⟨e, bs.set b .dead ++ [rowF f z k' (l ++ [x])], lo⟩) : AppN z ⟨e, bs, lo⟩ (.bsl b m k) (.sl o [f x]) K :=
 AppN.row (l' := [x]) hp hb hm hk hlim h
theorem MkN.row (hp : Plain f z) (x : α) {e : List (Nat × AV)} {bs : List Box} {lo : Nat} {ik jk : IntKind} {n m : Int} {K : AV -> St -> Prop} (hn : 0 ≤ n ∧ n ≤ m ∧ m ≤ 4294967296) (h : K (.bsl bs.length n.toNat m.toNat) ⟨e, bs ++ [rowF f z m.toNat (List.replicate n.toNat x)], lo⟩) : MkN z (f x) ⟨e, bs, lo⟩ (.int ik n) (.int jk m) K := by
 refine ⟨⟨⟨hp.pos, hn⟩, ?_⟩⟩; simpa only [rowF, List.map_replicate, List.length_replicate] using h
theorem RS.rowNil {E : Entry} {G : Gh} {s : St} {a : Act} {w : World} (h : RS E G s a w) : RS E G ⟨s.env, s.bs ++ [.row []], s.lo⟩ a w := by
 have := h.reb (bs' := s.bs ++ [.row []]) (σ' := G.σ) id (by simp) (fun _ _ => rfl) (fun b x hb => boxLoop_append rfl hb) (fun b cs' hc => by
  rw [boxCells_append] at hc; split at hc
  ·cases hc
  ·exact ⟨cs', hc, rfl, Nat.le_refl _, fun j x hx => .inr ⟨hx, .inl rfl⟩⟩) (fun b b' _ _ _ _ e => e)
 exact this
theorem Elems.ofCells {M : Hp} {B : Nat} {L : List AV} {p : List AV} (hz : ∀ y ∈ L, y.cells.length = z) (h : Cells M B 0 (cellsOf L ++ p)) : Elems M B 0 z L := fun i hi => by
 have hl := cellsOf_length hz; have hc := hz _ (List.getElem_mem hi); refine ⟨hc, fun j hj => ?_⟩
 have hij : i * z + j < (cellsOf L).length := by
  rw [hl]; have := Nat.mul_le_mul_right z hi; rw [Nat.succ_mul] at this; omega
 obtain ⟨v, h1, h2, h3⟩ := h (i * z + j) (by rw [List.length_append]; omega)
 refine ⟨v, ?_, h2, ?_⟩
 ·rw [Nat.zero_add] at h1 ⊢; exact h1
 ·rw [List.getElem_append_left hij] at h3; have hg := cellsOf_get hz i hi j (by omega)
  rw [List.getElem?_eq_getElem hij, List.getElem?_eq_getElem hj] at hg; rw [← Option.some.inj hg]; exact h3
theorem Weak.froze (hp : Plain f z) (s : St) (t : Nat) {b m k : Nat} {l : List α} (h0 : envGet s.env t = some (.bsl b m k)) (hb : s.bs[b]? = some (rowF f z k l)) (hm : m = l.length) : Weak s ⟨envPut s.env t (.sl .no (l.map f)), s.bs.set b .dead, s.lo⟩ := fun E G a w hs => by
 subst hm; have hz : ∀ y ∈ l.map f, y.cells.length = z := fun y hy => by obtain ⟨x, _, rfl⟩ := List.mem_map.1 hy; exact hp.sz x
 have hat : s.at (.sl t) = some (.bsl b l.length k) := h0; have hv0 := hs.val _ _ hat; obtain ⟨ad, hv, hbl, hmk, hml, had⟩ := hv0.inv_bsl
 by_cases hk : k = 0
 ·subst hk; have hl : l = [] := List.eq_nil_of_length_eq_zero (by omega)
  subst hl
  have h1 := hs.reb (bs' := s.bs.set b .dead) (σ' := G.σ) id (by simp) (fun _ _ => rfl) (fun c x hc => boxLoop_kill hc) (fun c cs' hc => by
   rw [boxCells_setDead] at hc; split at hc
   ·cases hc
   ·exact ⟨cs', hc, rfl, Nat.le_refl _, fun j x hx => .inr ⟨hx, .inl rfl⟩⟩) (fun b b' _ _ _ _ e => e)
  refine ⟨_, h1.upd (q := .sl t) (x := .sl .no ([].map f)) hat ?_⟩; show RV G.M G.σ _ _ (valAt G.σ a w (.sl t)); rw [hv]; exact .flat (FV.mk_sl (l := []) (B := 0) (off := 0) (sz := z) (by simp) (Nat.le_refl _) (Nat.zero_le _) (by simp) (fun h => absurd rfl h) (fun i hi => by cases hi))
 ·have hne : cellsOf (l.map f) ++ List.replicate ((k - l.length) * z) .top ≠ [] := fun e => by
   have := congrArg List.length e; rw [List.length_append, hp.len, List.length_replicate, ← Nat.add_mul, List.length_nil] at this; have h2 : 0 < (l.length + (k - l.length)) * z := Nat.mul_pos (by omega) hp.pos
   omega
  have hbc : boxCells s.bs b = some (cellsOf (l.map f) ++ List.replicate ((k - l.length) * z) .top) := rowAt_cells (rowAt_row hb) hne
  obtain ⟨G', h1, h2, h3⟩ := hs.dead hbc (fun x hx => by
   rcases List.mem_append.1 hx with hx | hx
   ·exact (hp.mem hx).2
   ·rw [(List.mem_replicate.1 hx).2]; rfl)
  refine ⟨G', h1.upd (q := .sl t) (x := .sl .no (l.map f)) (y := .bsl b l.length k) h0 ?_⟩; show RV G'.M G'.σ _ _ (valAt G'.σ a w (.sl t)); have hva : valAt G'.σ a w (.sl t) = .slice ad l.length k := hv; rw [hva, had hk]; have := FV.mk_sl (M := G'.M) (o := .no) (l := l.map f) (a := some ⟨G.σ b, 0, none⟩) (k := k) (B := G.σ b) (off := 0) (sz := z) (by simp) (by simpa using hmk) (by first|(simpa using hml)|(have:=glim_le hml;simpa using this)) (by simp) (fun _ => rfl) (Elems.ofCells hz h3)
  rw [List.length_map] at this; exact .flat this
end
section
variable {E : Entry} {G : Gh} {s : St} {a : Act} {w : World}
theorem boxCells_setRow {bs : List Box} {b : Nat} {cs : List AV} (hb : b < bs.length) (h0 : cs ≠ []) (c : Nat) : boxCells (bs.set b (.row cs)) c = if c = b then some cs else boxCells bs c := by
 simp only [boxCells, List.getElem?_set]
 by_cases e : b = c
 ·subst e; simp only [if_true, hb, row_cs, if_neg h0]
 ·rw [if_neg e, if_neg (fun x => e x.symm)]
theorem RS.reCells (h : RS E G s a w) {b : Nat} {cs cs' : List AV} (hb : boxCells s.bs b = some cs) {w' : World} {vs' : Array Value} {T : TypeId} (hc' : w'.heap[G.σ b]? = some (.cells vs' T (0, 0))) (hsz : cs'.length ≤ vs'.size) (hne : cs' ≠ [])
  (hos : w'.os = w.os) (htp : w'.tape = w.tape) (hout : w'.output = w.output) (hsize : w.heap.size ≤ w'.heap.size) (hother : ∀ B, B < w.heap.size -> B ≠ G.σ b -> w'.heap[B]? = w.heap[B]?)
  (hv : ∀ (j : Nat) (hj : j < cs'.length) v, vs'[j]? = some v -> v.oneCell' = true ∧ RV G.M G.σ s.bs.length cs'[j] v) : RS E G ⟨s.env, s.bs.set b (.row cs'), s.lo⟩ a w' := by
 have hblt := h.blt hb; have hbl := boxCells_lt hb; obtain ⟨vs, T0, hc, hvl⟩ := h.box b cs hb; obtain ⟨hM, hmine⟩ := h.bmem b cs hb; have hset : ∀ c, boxCells (s.bs.set b (.row cs')) c = if c = b then some cs' else boxCells s.bs c := boxCells_setRow hbl hne; have hlen : (s.bs.set b (.row cs')).length = s.bs.length := by simp
 have hcl : ∀ p B, G.cl p = some B -> B ≠ G.σ b := fun p B hB e => h.clbox p B hB b cs hb e.symm
 have hval : ∀ p y, (⟨s.env, s.bs.set b (.row cs'), s.lo⟩ : St).at p = some y -> (s.at p = some y ∧ valAt G.σ a w' p = valAt G.σ a w p) ∨ ∃ j, ∃ hj : j < cs'.length, p = .bx b j ∧ y = cs'[j] ∧ vs'[j]? = some (valAt G.σ a w' p) := fun p y hp => by
  cases p with
  | sl t => exact .inl ⟨hp, rfl⟩
  | bx c j =>
   simp only [St.at, hset] at hp
   by_cases e : c = b
   ·subst e; rw [if_pos rfl] at hp; simp only [Option.bind_some] at hp; obtain ⟨hj, hy⟩ := List.getElem?_eq_some_iff.1 hp; refine .inr ⟨j, hj, rfl, hy.symm, ?_⟩; simp only [valAt, World.cell?, hc']; have : j < vs'.size := by omega
    simp [this]
   ·rw [if_neg e] at hp; refine .inl ⟨hp, ?_⟩
    cases hbc : boxCells s.bs c with
    | none => rw [hbc] at hp; cases hp
    | some ds =>
     simp only [valAt]; rw [cell_heap (hother _ (h.blt hbc) (fun e2 => e (h.inj c b ds cs hbc hb e2)))]
 have hbox : ∀ c ds, boxCells (s.bs.set b (.row cs')) c = some ds -> (c = b ∧ ds = cs') ∨ (c ≠ b ∧ boxCells s.bs c = some ds) := fun c ds hcd => by
  rw [hset] at hcd; split at hcd
  ·rename_i e; cases hcd; exact .inl ⟨e, rfl⟩
  ·rename_i e; exact .inr ⟨e, hcd⟩
 have hcs : ∀ c ds, boxCells (s.bs.set b (.row cs')) c = some ds -> ∃ es, boxCells s.bs c = some es := fun c ds hcd => by
  rcases hbox c ds hcd with ⟨rfl, _⟩ | ⟨_, h1⟩
  ·exact ⟨cs, hb⟩
  ·exact ⟨ds, h1⟩
 refine ⟨⟨hos.trans h.fr.os, htp.trans h.fr.tape, hout.trans h.fr.output, Nat.le_trans h.fr.size hsize, h.fr.le, fun B hB hn => ?_, h.fr.mem⟩, fun B o u hu => ?_, h.nt, fun p y hp => ?_, fun c j y hp => ?_, fun c ds hcd => ?_, fun c ds hcd => ?_, fun c c' ds ds' hcd hcd' e => ?_, fun p z l hp => ?_, h.clinj, fun p B hB c ds hcd => ?_, fun p B hB => ?_, h.lo, by rw [hlen]; exact h.len, h.sig, h.sp.step (Hp.le_refl _) (fun _ _ => rfl) (fun c x hx => ?_) (fun B o ho hk => ?_) (fun _ _ _ _ p k => ⟨p, k⟩) (fun _ k => k)⟩
 ·have hne2 : B ≠ G.σ b := fun e => by
   subst e; rcases hmine with hm | hm
   ·exact hn hm
   ·omega
  rw [hother B (Nat.lt_of_lt_of_le hB h.fr.size) hne2]; exact h.fr.heap B hB hn
 ·have h1 := h.ok _ _ _ hu; have hne2 : B ≠ G.σ b := fun e => by rw [e, hM] at hu; cases hu
  simp only [Hp.of] at h1 ⊢; rw [cell_heap (hother B (Hp.lt h.ok hu) hne2)]; exact h1
 ·rw [hlen]; rcases hval p y hp with ⟨h1, h2⟩ | ⟨j, hj, rfl, rfl, h3⟩
  ·rw [h2]; exact h.val p y h1
  ·have := (hv j hj _ h3).2; rw [this.deown_of]; exact this
 ·rcases hval _ y hp with ⟨h1, h2⟩ | ⟨j', hj, e, rfl, h3⟩
  ·rw [h2]; exact h.one c j y h1
  ·cases e; exact (hv _ hj _ h3).1
 ·rcases hbox c ds hcd with ⟨rfl, rfl⟩ | ⟨h1, h2⟩
  ·exact ⟨vs', T, hc', hsz⟩
  ·obtain ⟨us, T', h4, h5⟩ := h.box c ds h2; exact ⟨us, T', by rw [hother _ (h.blt h2) (fun e2 => h1 (h.inj c b ds cs h2 hb e2))]; exact h4, h5⟩
 ·obtain ⟨es, h1⟩ := hcs c ds hcd; exact h.bmem c es h1
 ·obtain ⟨es, h1⟩ := hcs c ds hcd; obtain ⟨es', h1'⟩ := hcs c' ds' hcd'; exact h.inj c c' es es' h1 h1' e
 ·rcases hval p _ hp with ⟨h1, h2⟩ | ⟨j, hj, rfl, e, h3⟩
  ·obtain ⟨ad, k, q1, q2, q3⟩ := h.own p z l h1; refine ⟨ad, k, by rw [h2]; exact q1, q2, ?_⟩
   rcases q3 with q3 | ⟨B, hB, q4, q5⟩
   ·exact .inl q3
   ·obtain ⟨us, T', q6, q7⟩ := q5.cells; exact .inr ⟨B, hB, q4, q5.lt, ⟨us, T', by rw [hother B (h.cllt p B hB).1 (hcl p B hB)]; exact q6, q7⟩, q5.free, q5.mine⟩
  ·have := (hv j hj _ h3).2.deown_of; rw [← e] at this; simp [AV.deown] at this
 ·obtain ⟨es, h1⟩ := hcs c ds hcd; exact h.clbox p B hB c es h1
 ·obtain ⟨h1, h2⟩ := h.cllt p B hB; exact ⟨Nat.lt_of_lt_of_le h1 hsize, h2⟩
 ·by_cases e : b = c
  ·subst e; simp [boxLoop, hbl, Box.lb?] at hx
  ·simp only [boxLoop, List.getElem?_set, if_neg e] at hx; exact hx
 ·rw [hother B (Array.getElem?_eq_some_iff.1 ho).1 (fun e => by subst e; rw [hc] at ho; cases ho; cases hk)]
  exact ho
end
theorem cells_one {α : Type} {f : α -> AV} (hf : ∀ x, (f x).cells = [f x]) (l : List α) : cellsOf (l.map f) = l.map f := by
 induction l with
 | nil => rfl
 | cons x l ih => rw [List.map_cons, cellsOf, ih, hf]; rfl
theorem rowO_cells {α : Type} {f : α -> AV} (hf : ∀ x, (f x).cells = [f x]) {bs : List Box} {b k i : Nat} {l : List α} {x : α} (hb : bs[b]? = some (rowF f 1 k l)) (hx : l[i]? = some x) : boxCells bs b = some (l.map f ++ List.replicate (k - l.length) AV.top) := by
 have hrow : bs[b]? = some (.row (l.map f ++ List.replicate (k - l.length) AV.top)) := by
  rw [hb]; simp only [rowF, cells_one hf, Nat.mul_one]
 refine rowAt_cells (rowAt_row hrow) fun e => ?_; have := congrArg List.length e; rw [List.length_append, List.length_map, List.length_nil] at this; have hi := (List.getElem?_eq_some_iff.1 hx).1; omega
theorem ElN.one {α : Type} {f : α -> AV} (hf : ∀ x, (f x).cells = [f x] ∧ (f x).deown = f x) {e : List (Nat × AV)} {bs : List Box} {lo b k i : Nat} {l : List α} {x : α} {K : AV -> Prop} (hb : bs[b]? = some (rowF f 1 k l)) (hx : l[i]? = some x) (h : K (f x)) : ElN false 1 ⟨e, bs, lo⟩ (.elp b i 1 0) K := by
 refine ⟨?_⟩; have hi := (List.getElem?_eq_some_iff.1 hx).1; simp only [St.rd, rowO_cells (fun x => (hf x).1) hb hx, Nat.mul_one, Nat.add_zero]; rw [List.drop_append_of_le_length (by rw [List.length_map]; omega), ← List.map_drop, List.drop_eq_getElem_cons hi, (List.getElem?_eq_some_iff.1 hx).2]
 simp only [List.map_cons, List.cons_append, loadK, (hf x).2]; exact h
theorem EsN.one {α : Type} {f : α -> AV} (hf : ∀ x, (f x).cells = [f x] ∧ cellOk (f x) = true) {e : List (Nat × AV)} {bs : List Box} {lo b k i : Nat} {l : List α} {x y : α} {K : St -> Prop} (hb : bs[b]? = some (rowF f 1 k l)) (hx : l[i]? = some x) (h : K ⟨e, bs.set b (rowF f 1 k (l.set i y)), lo⟩) : EsN 1 ⟨e, bs, lo⟩ b i 1 0 (f y) K := by
 refine ⟨?_⟩; have hi := (List.getElem?_eq_some_iff.1 hx).1; simp only [storeEK, rowO_cells (fun x => (hf x).1) hb hx, Nat.mul_one, Nat.add_zero]; refine ⟨⟨(hf y).2, by rw [(hf y).1]; rfl, by omega, by rw [List.length_append, List.length_map]; omega⟩, ?_⟩
 have he : setAt (l.map f ++ List.replicate (k - l.length) AV.top) i (f y).cells = (l.set i y).map f ++ List.replicate (k - (l.set i y).length) AV.top := by
  simp only [(hf y).1, setAt, List.length_set, List.map_set]; rw [List.set_append, if_pos (by rw [List.length_map]; exact hi)]
 rw [he]; have e2 : rowF f 1 k (l.set i y) = .row ((l.set i y).map f ++ List.replicate (k - (l.set i y).length) AV.top) := by simp only [rowF, cells_one (fun x => (hf x).1), Nat.mul_one]
 rw [← e2]; exact h
theorem RS.thaw {α : Type} {f : α -> AV} {z : Nat} (hp : Plain f z) {E : Entry} {G : Gh} {s : St} {a : Act} {w : World} (hs : RS E G s a w) {b k0 : Nat} {l : List α} (hb : s.bs[b]? = some (rowF f z k0 l)) :
  ∃ G', RS E G' ⟨s.env, s.bs.set b .dead, s.lo⟩ a w ∧ G'.σ = G.σ ∧ ∀ (m k : Nat) (v : Value), m ≤ l.length -> RV G.M G.σ s.bs.length (.bsl b m k) v -> FV G'.M (.sl .no ((l.take m).map f)) v := by
 have hz : ∀ y ∈ l.map f, y.cells.length = z := fun y hy => by obtain ⟨x, _, rfl⟩ := List.mem_map.1 hy; exact hp.sz x
 by_cases hne : cellsOf (l.map f) ++ List.replicate ((k0 - l.length) * z) AV.top = []
 ·have hl : l = [] := by
   have := congrArg List.length hne; rw [List.length_append, hp.len, List.length_nil] at this; have h0 := hp.pos
   cases l with
   | nil => rfl
   | cons x l => simp only [List.length_cons, Nat.succ_mul] at this; omega
  subst hl
  have h1 := hs.reb (bs' := s.bs.set b .dead) (σ' := G.σ) id (by simp) (fun _ _ => rfl) (fun c x hc => boxLoop_kill hc) (fun c cs' hc => by
   rw [boxCells_setDead] at hc; split at hc
   ·cases hc
   ·exact ⟨cs', hc, rfl, Nat.le_refl _, fun j x hx => .inr ⟨hx, .inl rfl⟩⟩) (fun b b' _ _ _ _ e => e)
  refine ⟨_, h1, rfl, fun m k v hm hv => ?_⟩; simp only [List.length_nil, Nat.le_zero] at hm; subst hm; obtain ⟨ad, rfl, _, _, _, _⟩ := hv.inv_bsl; exact FV.mk_sl (l := []) (B := 0) (off := 0) (sz := z) (by simp) (Nat.zero_le _) (Nat.zero_le _) (by simp) (fun h => absurd rfl h) (fun i hi => by cases hi)
 ·have hbc : boxCells s.bs b = some (cellsOf (l.map f) ++ List.replicate ((k0 - l.length) * z) .top) := rowAt_cells (rowAt_row hb) hne
  obtain ⟨G', h1, h2, h3⟩ := hs.dead hbc (fun x hx => by
   rcases List.mem_append.1 hx with hx | hx
   ·exact (hp.mem hx).2
   ·rw [(List.mem_replicate.1 hx).2]; rfl)
  refine ⟨G', h1, h2, fun m k v hm hv => ?_⟩; obtain ⟨ad, rfl, _, hmk, hml, had⟩ := hv.inv_bsl; have he := elems_slice (Elems.ofCells hz h3) 0 m (by simpa using hm)
  simp only [Nat.zero_mul, Nat.add_zero, List.drop_zero, ← List.map_take] at he; have hlen : ((l.take m).map f).length = m := by simp; omega
  have := FV.mk_sl (M := G'.M) (o := .no) (l := (l.take m).map f) (a := ad) (k := k) (B := G.σ b) (off := 0) (sz := z) (by simp) (by omega) (by rw [hlen];first|exact hml|exact glim_le hml) (by simp) (fun h0 => had (fun e => by
   subst e; have : m = 0 := by omega
   subst this; simp at h0)) he
  rw [hlen] at this; exact this
theorem Weak.frozeBx {α : Type} {f : α -> AV} {z : Nat} (hp : Plain f z) (s : St) (c i : Nat) {cs : List AV} {b m k k0 : Nat} {l : List α} (h0 : s.bs[c]? = some (.cells cs)) (hi : cs[i]? = some (.bsl b m k)) (hb : s.bs[b]? = some (rowF f z k0 l)) (hm : m ≤ l.length) : Weak s ⟨s.env, (s.bs.set b .dead).set c (.cells (cs.set i (.sl .no ((l.take m).map f)))), s.lo⟩ := fun E G a w hs => by
 have hcb : c ≠ b := fun e => by subst e; rw [h0] at hb; cases hb
 have hbc : boxCells s.bs c = some cs := by simp only [boxCells, h0]; rfl
 have hbc' : boxCells (s.bs.set b .dead) c = some cs := by rw [boxCells_setDead, if_neg hcb]; exact hbc
 have hat : s.at (.bx c i) = some (.bsl b m k) := by simp only [St.at, hbc, Option.bind_some]; exact hi
 have hv0 := hs.val _ _ hat; have hde : (AV.bsl b m k).deown = .bsl b m k := rfl; rw [hde] at hv0; obtain ⟨G', h1, hσ, hth⟩ := hs.thaw hp hb; have hfv := hth m k _ hm hv0; have hat' : (⟨s.env, s.bs.set b .dead, s.lo⟩ : St).at (.bx c i) = some (.bsl b m k) := by simp only [St.at, hbc', Option.bind_some]; exact hi
 have h2 := h1.upd (q := .bx c i) (x := .sl .no ((l.take m).map f)) hat' (by
  show RV G'.M G'.σ _ _ (valAt G'.σ a w (.bx c i)); have hva : valAt G'.σ a w (.bx c i) = valAt G.σ a w (.bx c i) := by simp only [valAt, hσ]
  rw [hva]; exact .flat hfv)
 refine ⟨G', ?_⟩; have e : (⟨s.env, s.bs.set b .dead, s.lo⟩ : St).upd (.bx c i) (.sl .no ((l.take m).map f)) = ⟨s.env, (s.bs.set b .dead).set c (.cells (cs.set i (.sl .no ((l.take m).map f)))), s.lo⟩ := by simp only [St.upd, hbc', St.setBox]
 rw [← e]; exact h2
theorem RetP.frozeBx {α : Type} {f : α -> AV} {z : Nat} (hp : Plain f z) {s : St} (c i : Nat) {cs : List AV} {b m k k0 : Nat} {l : List α} {rs : List RRes} {Q : AV -> List Box -> Prop} (h0 : s.bs[c]? = some (.cells cs)) (hi : cs[i]? = some (.bsl b m k)) (hb : s.bs[b]? = some (rowF f z k0 l)) (hm : m ≤ l.length) (h : RetP ⟨s.env, (s.bs.set b .dead).set c (.cells (cs.set i (.sl .no ((l.take m).map f)))), s.lo⟩ rs Q) : RetP s rs Q := by
 obtain ⟨s', h3, h4⟩ := h.out; exact ⟨s', (Weak.frozeBx hp s c i h0 hi hb hm).trans h3, h4⟩
end Go.AM
namespace Go.CK
open Go.RowKit Go.AM
abbrev intA (n : Int) : AV := .int .i64 n
abbrev slA {α : Type} (f : α -> AV) (l : List α) : AV := .sl .no (l.map f)
def CF (M : Hp) (cs : List AV) (c : List Value) : Prop := c.length = cs.length ∧ ∀ j (h : j < cs.length) v, c[j]? = some v -> FV M cs[j] v
theorem CF.nil {M : Hp} : CF M [] [] := ⟨rfl, fun j h => by cases h⟩
theorem CF.cons {M : Hp} {x : AV} {cs : List AV} {v : Value} {c : List Value} (h : FV M x v) (k : CF M cs c) : CF M (x :: cs) (v :: c) :=
 ⟨by simp [k.1], fun j hj u hu => by
  cases j with
  | zero => simp only [List.getElem?_cons_zero, Option.some.injEq] at hu; subst hu; exact h
  | succ j => exact k.2 j (by simpa using hj) u (by simpa using hu)⟩
theorem Sl.fv {α : Type} {R : Hp -> List Value -> α -> Prop} {f : α -> AV} {M : Hp} {sz : Nat} {a : Option Addr} {l : List α} {k : Nat} (h : Sl M sz (R M) a l) (hk : l.length ≤ k) (hR : ∀ x ∈ l, ∀ c, R M c x -> CF M (f x).cells c ∧ ∀ u ∈ c, u.oneCell' = true) : FV M (.sl .no (l.map f)) (.slice a l.length k) := by
 have hlen : (l.map f).length = l.length := by simp
 rw [← hlen]
 by_cases h0 : 0 < l.length
 ·obtain ⟨b, o, ha⟩ := h.addr h0; refine FV.mk_sl (B := b) (off := o) (sz := sz) (fun z e => by cases e) (by rw [hlen]; exact hk) (by rw [hlen]; exact h.le) (fun e => by cases e) (fun _ => ha) (fun i hi => ?_)
  rw [hlen] at hi; obtain ⟨b', o', cs, h1, h2, h3, h4⟩ := h.at_ i hi; rw [ha] at h1; simp only [Option.some.injEq, Addr.mk.injEq, and_true] at h1; obtain ⟨rfl, rfl⟩ := h1; obtain ⟨⟨h5, h6⟩, h7⟩ := hR _ (List.getElem_mem hi) cs h4; rw [List.getElem_map]; refine ⟨by rw [← h5, h2], fun j hj => ?_⟩
  have hj2 : j < cs.length := by rw [h5]; exact hj
  have hj3 : cs[j]? = some cs[j] := List.getElem?_eq_getElem hj2; exact ⟨cs[j], h3 j _ hj3, h7 _ (List.getElem_mem hj2), h6 j hj _ hj3⟩
 ·have : l = [] := List.length_eq_zero_iff.1 (by omega)
  subst this; exact FV.mk_sl (B := 0) (off := 0) (sz := 0) (fun z e => by cases e) (by simp) (by simp) (fun e => by cases e) (fun e => absurd rfl e) (fun i hi => by cases hi)
theorem RSl.cf {α : Type} {R : Hp -> List Value -> α -> Prop} {f : α -> AV} {M : Hp} {sz : Nat} {c : List Value} {l : List α} (h : RSl sz R M c l) (hR : ∀ x ∈ l, ∀ c, R M c x -> CF M (f x).cells c ∧ ∀ u ∈ c, u.oneCell' = true) : CF M (slA f l).cells c ∧ ∀ u ∈ c, u.oneCell' = true := by
 obtain ⟨a, k, rfl, h1, h2⟩ := h; exact ⟨.cons (h2.fv h1 hR) .nil, by simp [Value.oneCell']⟩
mutual
def Tm.av : Tm -> AV
 | .mk k n s l => .agg [.int .i64 k, .int .i64 n, .str s, .sl .no (Tm.avs l)]
def Tm.avs : List Tm -> List AV
 | [] => []
 | t :: l => Tm.av t :: Tm.avs l
end
theorem Tm.avs_map : ∀ l : List Tm, Tm.avs l = l.map Tm.av
 | [] => rfl
 | t :: l => by rw [Tm.avs, Tm.avs_map l]; rfl
def Tm.avw (t : Tm) : AV := .agg [.int .i64 t.kind, .int .i64 t.num, .str t.name, .sl .no (t.args.map Tm.av)]
theorem Tm.av_w (t : Tm) : t.av = t.avw := by
 obtain ⟨k, n, s, l⟩ := t; rw [Tm.av, Tm.avs_map]; rfl
theorem Tm.av_cells (t : Tm) : t.av.cells.length = 4 := by rw [Tm.av_w]; rfl
theorem RTm.cf {M : Hp} {c : List Value} {t : Tm} (h : RTm M c t) : CF M t.av.cells c ∧ ∀ u ∈ c, u.oneCell' = true := by
 refine ⟨?_, h.one⟩
 induction t using Tm.ind_all generalizing c with
 | h k n s l ih =>
  obtain ⟨a, cap, rfl, ik, iN, is, ic, hsl⟩ := h.inv; rw [Tm.av, Tm.avs_map]; exact .cons (.int _ _) (.cons (.int _ _) (.cons (.str _ is) (.cons (hsl.fv ic fun x hx c hc => ⟨ih x hx hc, hc.one⟩) .nil)))
end Go.CK
namespace Go.AM
def AV.good (x : AV) : Prop := ∃ M v, FV M x v
end Go.AM
namespace Go.CK
open Go.RowKit Go.AM
theorem good_str {s : ByteArray} (h : (AV.str s).good) : s.size ≤ 9223372036854775807 := by
 obtain ⟨M, v, h⟩ := h
 cases h with
 | str _ h => exact h
theorem good_agg {cs : List AV} (h : (AV.agg cs).good) : ∀ c ∈ cs, c.good := by
 obtain ⟨M, v, h⟩ := h
 cases h with
 | agg _ vs hl h1 hv =>
  intro c hc; obtain ⟨j, hj, rfl⟩ := List.getElem_of_mem hc; exact ⟨M, vs[j], hv j hj _ (List.getElem?_eq_getElem (by omega))⟩
theorem good_sl {o : Cap} {l : List AV} (h : (AV.sl o l).good) : l.length ≤ 9223372036854775807 ∧ ∀ y ∈ l, y.good := by
 obtain ⟨M, v, h⟩ := h; obtain ⟨a, k, B, off, sz, _, _, _, hl, _, _, he⟩ := h.inv_sl; refine ⟨hl, fun y hy => ?_⟩; obtain ⟨i, hi, rfl⟩ := List.getElem_of_mem hy; obtain ⟨_, hc⟩ := he i hi; generalize l[i] = y at hc
 by_cases ha : ∃ cs, y = .agg cs
 ·obtain ⟨cs, rfl⟩ := ha
  have hx : ∀ j, ∃ v : Value, ∀ (h : j < cs.length), v.oneCell' = true ∧ FV M cs[j] v := fun j => by
   by_cases hj : j < cs.length
   ·obtain ⟨v, _, h2, h3⟩ := hc j hj; exact ⟨v, fun _ => ⟨h2, h3⟩⟩
   ·exact ⟨undef, fun h => absurd h hj⟩
  refine ⟨M, .agg (List.ofFn fun j : Fin cs.length => (hx j).choose).toArray, .agg cs _ (by simp) (fun v hv => ?_) (fun j hj v hjv => ?_)⟩
  ·obtain ⟨j, rfl⟩ := List.mem_ofFn.1 hv; exact ((hx j).choose_spec j.2).1
  ·rw [List.getElem?_ofFn, dif_pos hj] at hjv; cases hjv; exact ((hx j).choose_spec hj).2
 ·have h1 : y.cells = [y] := by
   cases y <;> first | rfl | exact absurd ⟨_, rfl⟩ ha
  obtain ⟨v, _, _, h3⟩ := hc 0 (by rw [h1]; simp)
  have : y.cells[0]'(by rw [h1]; simp) = y := by simp [h1]
  rw [this] at h3; exact ⟨M, v, h3⟩
theorem good_sla {α : Type} {f : α -> AV} {l : List α} (h : (AV.sl .no (l.map f)).good) : l.length ≤ 9223372036854775807 ∧ ∀ y ∈ l, (f y).good := by
 obtain ⟨h1, h2⟩ := good_sl h; exact ⟨by simpa using h1, fun y hy => h2 _ (List.mem_map.2 ⟨y, hy, rfl⟩)⟩
theorem good_tm {t : Tm} (h : t.avw.good) : t.name.size ≤ 9223372036854775807 ∧ t.args.length ≤ 9223372036854775807 ∧ ∀ x ∈ t.args, x.avw.good := by
 have hs := good_sla (good_agg h (.sl .no (t.args.map Tm.av)) (by simp))
 exact ⟨good_str (good_agg h (.str t.name) (by simp)), hs.1, fun x hx => by rw [← Tm.av_w]; exact hs.2 x hx⟩
theorem Fun.assume {P : Program} {f : FuncId} {vals : List AV} {r : AV} (hf : vals.all AV.flat = true) (h : (∀ x ∈ vals, x.good) -> Fun P f vals r) : Fun P f vals r := fun bs E G a0 w args lo h1 h2 h3 => by
 refine h (fun x hx => ?_) bs E G a0 w args lo h1 h2 h3; obtain ⟨j, hj, rfl⟩ := List.getElem_of_mem hx; have hjv : args[j]? = some (args[j]'(by omega)) := List.getElem?_eq_getElem (by omega)
 exact ⟨G.M, _, (h3 j hj _ hjv).toFV (List.all_eq_true.1 hf _ (List.getElem_mem hj))⟩
theorem IdxN.tmK {l : List Tm} {n : Nat} {K : AV -> Prop} {x : Tm} (h : l[n]? = some x) (k : K x.avw) : IdxN 4 (l.map Tm.av) (n : Int) K := .known (by simpa using h) (by omega) Tm.av_cells (by rw [Tm.av_w]; exact k)
theorem IdxN.tm {l : List Tm} {n : Nat} {K : AV -> Prop} (h1 : n < l.length) (k : ∀ x, l[n]? = some x -> K x.avw) : IdxN 4 (l.map Tm.av) (n : Int) K := .mapN h1 Tm.av_cells fun x hx => by rw [Tm.av_w]; exact k x hx
theorem Szs.tm {l : List Tm} : Szs 4 (l.map Tm.av) := .map Tm.av_cells
end Go.CK
namespace Go.AM
open Go.CK Go.RowKit
def Vw (bs : List Box) (x y : AV) : Prop := ∀ (E : Entry) (G : Gh) (a : Act) (w : World) (lo : Nat), RS E G ⟨[], bs, lo⟩ a w -> ∀ v, RV G.M G.σ bs.length x v -> RV (Hp.of w) G.σ 0 y v
theorem Vw.row {α : Type} {f : α -> AV} {z : Nat} (hp : Plain f z) {bs : List Box} {b m k : Nat} {l : List α} (hb : bs[b]? = some (rowF f z k l)) (hm : m = l.length) : Vw bs (.bsl b m k) (.sl .no (l.map f)) := fun E G a w lo hs v hv => by
 refine .flat ?_; subst hm; obtain ⟨ad, rfl, hbl, hmk, hml, had⟩ := hv.inv_bsl; have hz : ∀ y ∈ l.map f, y.cells.length = z := fun y hy => by obtain ⟨x, _, rfl⟩ := List.mem_map.1 hy; exact hp.sz x
 have hlm : (l.map f).length = l.length := by simp
 by_cases hk : k = 0
 ·subst hk; have hl : l = [] := List.eq_nil_of_length_eq_zero (by omega)
  subst hl; exact FV.mk_sl (l := []) (B := 0) (off := 0) (sz := z) (by simp) (Nat.le_refl _) (Nat.zero_le _) (by simp) (fun h => absurd rfl h) (fun i hi => by cases hi)
 ·have hne : cellsOf (l.map f) ++ List.replicate ((k - l.length) * z) .top ≠ [] := fun e => by
   have := congrArg List.length e; rw [List.length_append, hp.len, List.length_replicate, ← Nat.add_mul, List.length_nil] at this; have h2 : 0 < (l.length + (k - l.length)) * z := Nat.mul_pos (by omega) hp.pos
   omega
  have hbc : boxCells bs b = some (cellsOf (l.map f) ++ List.replicate ((k - l.length) * z) .top) := rowAt_cells (rowAt_row hb) hne; rw [had hk]
  have hel : Elems (Hp.of w) (G.σ b) 0 z (l.map f) := Elems.ofCells (p := List.replicate ((k - l.length) * z) .top) hz fun j hj => by
   obtain ⟨u, h1, h2, h3⟩ := hs.bval (s := ⟨[], bs, lo⟩) hbc j hj; refine ⟨u, by rw [Nat.zero_add]; exact h1, h2, ?_⟩
   have hc : (cellsOf (l.map f) ++ List.replicate ((k - l.length) * z) AV.top)[j].deown = (cellsOf (l.map f) ++ List.replicate ((k - l.length) * z) AV.top)[j] ∧ (cellsOf (l.map f) ++ List.replicate ((k - l.length) * z) AV.top)[j].flat1 = true := by
    have := List.getElem_mem hj; rcases List.mem_append.1 this with hx | hx
    ·exact hp.mem hx
    ·rw [(List.mem_replicate.1 hx).2]; exact ⟨rfl, rfl⟩
   rw [hc.1] at h3; exact (h3.flat1 hc.2).mono hs.ok
  have := FV.mk_sl (M := Hp.of w) (o := .no) (l := l.map f) (a := some ⟨G.σ b, 0, none⟩) (k := k) (B := G.σ b) (off := 0) (sz := z) (by simp) (by rw [hlm]; exact hmk) (by rw [hlm];first|exact hml|exact glim_le hml) (by simp) (fun _ => rfl) hel
  rw [hlm] at this; exact this
inductive Vws (bs : List Box) : List AV -> List AV -> Prop
 | nil : Vws bs [] []
 | cons {x y : AV} {xs ys : List AV} (h : Vw bs x y) (k : Vws bs xs ys) : Vws bs (x :: xs) (y :: ys)
theorem Sem.assume {P : Program} {f : FuncId} {vals : List AV} {bs : List Box} {Q : AV -> List Box -> Prop} (h : (∀ x ∈ vals, x.flat = true -> x.good) -> (∀ cs, AV.ept cs ∈ vals -> ∀ c ∈ cs, c.good) -> Sem P f vals bs Q) : Sem P f vals bs Q := fun E G a0 w args lo h1 h2 h3 => by
 refine h (fun x hx hf => ?_) (fun cs hx c hc => ?_) E G a0 w args lo h1 h2 h3
 ·obtain ⟨j, hj, rfl⟩ := List.getElem_of_mem hx; exact ⟨G.M, _, (h3 j hj _ (List.getElem?_eq_getElem (by omega))).toFV hf⟩
 ·obtain ⟨j, hj, e⟩ := List.getElem_of_mem hx; have hv := h3 j hj _ (List.getElem?_eq_getElem (by omega))
  rw [e] at hv; obtain ⟨B, off, _, hcs⟩ := hv.inv_ept; obtain ⟨i, hi, rfl⟩ := List.getElem_of_mem hc; obtain ⟨v, _, _, h6⟩ := hcs i hi; exact ⟨G.M, v, h6⟩
end Go.AM
namespace Go.AM
open Go.CK Go.RowKit
variable {A B K : Prop} {b : Bool} {p : Prop}
theorem cY (k : A) (h : b = true := by with_reducible rfl) : CondN b A B := .yes h k
theorem cN (k : B) (h : b = false := by with_reducible rfl) : CondN b A B := .no h k
theorem cI [Decidable p] (k : A) (h : p := by omega) : CondN (decide p) A B := .is h k
theorem cJ [Decidable p] (k : B) (h : ¬ p := by omega) : CondN (decide p) A B := .isnt h k
theorem cYa (k : A) (h : b = true := by assumption) : CondN b A B := .yes h k
theorem cNa (k : B) (h : b = false := by assumption) : CondN b A B := .no h k
theorem cJd [Decidable p] (k : B) (h : ¬ p := by decide) : CondN (decide p) A B := .isnt h k
theorem wI {n : Int} {K : Int -> Prop} (k : K n) (h : -9223372036854775808 ≤ n ∧ n ≤ 9223372036854775807 := by omega) : WrapN .i64 n K := .i64 h k
theorem nS (k : K) (h : p := by first | omega | assumption | (show mapOk _ = true; rfl) | (simp; done) | (simp; omega) | (simp [lim,glim]; done) | (simp [lim,glim]; omega) | ((repeat' (first | assumption | exact Szs.nil | exact Szs.tm | refine Szs.app ?_ ?_ | refine Szs.cons rfl ?_ | exact Szs.map (fun _ => rfl) | exact Szs.rep rfl | refine Szs.take ?_ _ | refine Szs.drop ?_ _ | refine Szs.set ?_ rfl _)); done)) : NeedN p K := ⟨h, k⟩
theorem iA {l : List Tm} {n : Nat} {K : AV -> Prop} {x : Tm} (k : K x.avw) (h : l[n]? = some x := by assumption) : IdxN 4 (l.map Tm.av) (n : Int) K := Go.CK.IdxN.tmK h k
theorem iC {l : List Tm} {n : Nat} {K : AV -> Prop} (k : ∀ x, l[n]? = some x -> K x.avw) (h1 : n < l.length := by omega) : IdxN 4 (l.map Tm.av) (n : Int) K := Go.CK.IdxN.tm h1 k
section
variable {α : Type} {f : α -> AV} {sz : Nat} {l : List α} {K : AV -> Prop} {x : α}
theorem iE {n : Nat} (k : K (f x)) (h : l[n]? = some x := by assumption) (hs : ∀ x, (f x).cells.length = sz := by intro _; rfl) : IdxN sz (l.map f) (n : Int) K := .knownN h hs k
end
theorem hB {P : Program} {f : FuncId} (k : K) (h : hasBody P f = true := by kernel_rfl) : HasN P f K := ⟨h, k⟩
section
variable {vs : List AV}
theorem pE {bs : List Box} (k : K) : PreN vs bs bs K := ⟨.inl ⟨[], by simp⟩, k⟩
theorem pS {bs bs' : List Box} (k : K) (h : stb bs bs' vs := by (repeat' (first | exact True.intro | exact rfl | refine And.intro ?_ ?_))) : PreN vs bs bs' K := ⟨.inr h, k⟩
theorem pT {bs bs' : List Box} (k : K) (h : ∃ t, bs' = bs ++ t := by exact ⟨_, rfl⟩) : PreN vs bs bs' K := ⟨.inl h, k⟩
end
theorem mA {bs : List Box} {b : Nat} {K : List (Int × AV) -> Prop} {Kq : List (Int × AV × Nat) -> Nat -> Prop} {l : List (Int × AV)} (k : K l) (h : bs[b]? = some (.mp l) := by first | rfl | assumption) : MpAt bs b K Kq := .of h k
theorem mAq {bs : List Box} {b : Nat} {K : List (Int × AV) -> Prop} {Kq : List (Int × AV × Nat) -> Nat -> Prop} {l : List (Int × AV × Nat)} {c : Nat} (k : Kq l c) (h : bs[b]? = some (.mq l c) := by first | rfl | assumption) : MpAt bs b K Kq := .q h k
theorem vE {x y : AV} (k : K) (h : x = y := by with_reducible rfl) : WkN x y K := .eq h k
theorem vI {i : IntKind} {x y : Int} (k : K) (h : x = y := by omega) : WkN (.int i x) (.int i y) K := .int h k
theorem vB {x y : Bool} (k : K) (h : x = y := by assumption) : WkN (.bool x) (.bool y) K := .bool h k
theorem vD {z : Nat} {l m : List AV} (e : l = m) (k : K) (h : Szs z l := by (repeat' (first | assumption | exact Szs.nil | exact Szs.tm | refine Szs.app ?_ ?_ | refine Szs.cons rfl ?_ | exact Szs.map (fun _ => rfl) | exact Szs.rep rfl | refine Szs.take ?_ _ | refine Szs.drop ?_ _ | refine Szs.set ?_ rfl _)); done) : WkN (.sl .full l) (.sl (.own z) m) K := .claim h e k
theorem xB (k : K) (h : p := by with_reducible rfl) : BxN p K := ⟨h, k⟩
theorem gC {b : Bool} {A B : Prop} (h : CondN b A B) : CondN b A B := h
theorem gD {p : Prop} [Decidable p] {A B : Prop} (h : CondN (decide p) A B) : CondN (decide p) A B := h
theorem gN {p K : Prop} (h : NeedN p K) : NeedN p K := h
theorem gW {i : IntKind} {n : Int} {K : Int -> Prop} (h : WrapN i n K) : WrapN i n K := h
theorem gL {l : List AV} {K : Int -> Prop} (h : LenN l K) : LenN l K := h
theorem gI {sz : Nat} {l : List AV} {n : Int} {K : AV -> Prop} (h : IdxN sz l n K) : IdxN sz l n K := h
theorem gT {l : List Tm} {n : Int} {K : AV -> Prop} (h : IdxN 4 (l.map Tm.av) n K) : IdxN 4 (l.map Tm.av) n K := h
theorem gM {α : Type} {f : α -> AV} {sz : Nat} {l : List α} {n : Int} {K : AV -> Prop} (h : IdxN sz (l.map f) n K) : IdxN sz (l.map f) n K := h
theorem gH {P : Program} {f : FuncId} {K : Prop} (h : HasN P f K) : HasN P f K := h
theorem gP {z : Nat} {s : St} {x y : AV} {K : AV -> St -> Prop} (h : AppN z s x y K) : AppN z s x y K := h
theorem gMp {bs : List Box} {b : Nat} {K : List (Int × AV) -> Prop} {Kq : List (Int × AV × Nat) -> Nat -> Prop} (h : MpAt bs b K Kq) : MpAt bs b K Kq := h
theorem gE {g : Bool} {n : Nat} {s : St} {p : AV} {K : AV -> Prop} (h : ElN g n s p K) : ElN g n s p K := h
theorem gS {n : Nat} {s : St} {b i z off : Nat} {v : AV} {K : St -> Prop} (h : EsN n s b i z off v K) : EsN n s b i z off v K := h
theorem gPr {vs : List AV} {bs bs' : List Box} {K : Prop} (h : PreN vs bs bs' K) : PreN vs bs bs' K := h
theorem gMs {l : List (Int × AV)} {n : Int} {ok : Bool} {z : AV} {K : AV -> Prop} (h : MapN l n ok z K) : MapN l n ok z K := h
theorem gF {P : Program} {f : FuncId} {vals raw : List AV} {bs : List Box} {K : AV -> List Box -> Prop} (h : CallN P f vals raw bs K) : CallN P f vals raw bs K := h
theorem gG {P : Program} {f : FuncId} {vals : List AV} {K : AV -> Prop} (h : CallP P f vals K) : CallP P f vals K := h
theorem gV {x y : AV} {K : Prop} (h : WkN x y K) : WkN x y K := h
theorem gK {z : Nat} {l m : List AV} {K : Prop} (h : WkN (.sl .full l) (.sl (.own z) m) K) : WkN (.sl .full l) (.sl (.own z) m) K := h
theorem gX {p K : Prop} (h : BxN p K) : BxN p K := h
theorem CallN.to {P : Program} {f : FuncId} {vals raw : List AV} {bs bs2 : List Box} {v : AV} {K : AV -> List Box -> Prop} (h : Sem P f raw bs fun r bs' => r = v ∧ bs' = bs2) (hK : K v bs2) : CallN P f vals raw bs K := .raw h fun r bs' ⟨e1, e2⟩ => by subst e1 e2; exact hK
def natA (n : Nat) : AV := .int .i64 (n : Int)
theorem plainN : Plain natA 1 := ⟨Nat.zero_lt_one, fun _ => rfl, fun x c h => by simp [natA, AV.cells] at h; subst h; rfl, fun x c h => by simp [natA, AV.cells] at h; subst h; rfl⟩
theorem eLn {e : List (Nat × AV)} {bs : List Box} {lo b k i : Nat} {l : List Nat} {x : Nat} {K : AV -> Prop} (h : K (.int .i64 (x : Int))) (hb : bs[b]? = some (rowF natA 1 k l) := by first | rfl | assumption) (hx : l[i]? = some x := by assumption) : ElN false 1 ⟨e, bs, lo⟩ (.elp b i 1 0) K := .one (f := natA) (fun _ => ⟨rfl, rfl⟩) hb hx h
theorem eSn {e : List (Nat × AV)} {bs : List Box} {lo b k i : Nat} {l : List Nat} {x y : Nat} {K : St -> Prop} (h : K ⟨e, bs.set b (rowF natA 1 k (l.set i y)), lo⟩) (hb : bs[b]? = some (rowF natA 1 k l) := by first | rfl | assumption) (hx : l[i]? = some x := by assumption) : EsN 1 ⟨e, bs, lo⟩ b i 1 0 (.int .i64 (y : Int)) K := .one (f := natA) (fun _ => ⟨rfl, rfl⟩) hb hx h
theorem aOn {e : List (Nat × AV)} {bs : List Box} {lo : Nat} {b m k : Nat} {l : List Nat} {x : Nat} {o : Cap} {K : AV -> St -> Prop} (h : ∀ k', (l ++ [x]).length ≤ k' -> K (.bsl bs.length (l ++ [x]).length k') ⟨e, bs.set b .dead ++ [rowF natA 1 k' (l ++ [x])], lo⟩) (hb : bs[b]? = some (rowF natA 1 k l) := by first | rfl | assumption) (hm : m = l.length := by first | rfl | assumption) (hk : m ≤ k := by omega) (hlim : m + 1 ≤ 4294967296 := by first | omega | assumption) : AppN 1 ⟨e, bs, lo⟩ (.bsl b m k) (.sl o [.int .i64 (x : Int)]) K := .one plainN hb hm hk hlim h
def mpE {β : Type} (enc : β -> AV) (l : List (Int × β)) : List (Int × AV) := l.map fun e => (e.1, enc e.2)
def lk {β : Type} : List (Int × β) -> Int -> Option β
 | [], _ => none
 | (k, x) :: l, n => if n = k then some x else lk l n
def pt {β : Type} : List (Int × β) -> Int -> β -> List (Int × β)
 | [], n, y => [(n, y)]
 | (k, x) :: l, n, y => if n = k then (k, y) :: l else (k, x) :: pt l n y
theorem mget_mpE {β : Type} (enc : β -> AV) : ∀ (l : List (Int × β)) (n : Int), mget (mpE enc l) n = (lk l n).map enc
 | [], n => rfl
 | (k, x) :: l, n => by
  have := mget_mpE enc l n; simp only [mpE] at this; simp only [mpE, List.map_cons, mget, lk]; split
  ·rfl
  ·exact this
theorem mput_mpE {β : Type} (enc : β -> AV) : ∀ (l : List (Int × β)) (n : Int) (y : β), mput (mpE enc l) n (enc y) = mpE enc (pt l n y)
 | [], n, y => rfl
 | (k, x) :: l, n, y => by
  have := mput_mpE enc l n y; simp only [mpE] at this; simp only [mpE, List.map_cons, mput, pt]; split
  ·rfl
  ·simp only [List.map_cons, this]
theorem lk_pt {β : Type} : ∀ (l : List (Int × β)) (n : Int) (y : β) (m : Int), lk (pt l n y) m = if m = n then some y else lk l m
 | [], n, y, m => by simp only [pt, lk]
 | (k, x) :: l, n, y, m => by
  simp only [pt]
  by_cases h : n = k
  ·subst h; rw [if_pos rfl]; simp only [lk]; split <;> rfl
  ·rw [if_neg h]; simp only [lk, lk_pt l n y m]
   by_cases h1 : m = k
   ·subst h1; rw [if_pos rfl, if_pos rfl, if_neg (fun e => h e.symm)]
   ·rw [if_neg h1, if_neg h1]
theorem mE {β : Type} {enc : β -> AV} {l : List (Int × β)} {n : Int} {ok : Bool} {z : AV} {K : AV -> Prop} (h1 : ∀ v, lk l n = some v -> K (okR ok (enc v) true)) (h2 : lk l n = none -> K (okR ok z false)) (hv : ∀ v, mapOk (enc v) = true := by intro _; rfl) : MapN (mpE enc l) n ok z K := ⟨by
 rw [mget_mpE]
 cases h : lk l n with
 | none => exact h2 h
 | some v => exact ⟨hv v, h1 v h⟩⟩
theorem mEs {β : Type} {enc : β -> AV} {l : List (Int × β)} {n : Int} {ok : Bool} {z : AV} {K : AV -> Prop} {v : β} (k : K (okR ok (enc v) true)) (h : lk l n = some v := by assumption) (hv : mapOk (enc v) = true := by rfl) : MapN (mpE enc l) n ok z K := ⟨by rw [mget_mpE, h]; exact ⟨hv, k⟩⟩
theorem mEn {β : Type} {enc : β -> AV} {l : List (Int × β)} {n : Int} {ok : Bool} {z : AV} {K : AV -> Prop} (k : K (okR ok z false)) (h : lk l n = none := by assumption) : MapN (mpE enc l) n ok z K := ⟨by rw [mget_mpE, h]; exact k⟩
theorem eN {β : Type} {enc : β -> AV} {e : List (Nat × AV)} {bs : List Box} {lo b : Nat} {n : Int} {l : List (Int × β)} {zx : AV} {K : AV -> St -> Prop} (h : K (.tup [zx, .int .i64 (mpE enc l).length]) ⟨e, bs.set b (.mp (mpE enc l ++ [(n, zx)])), lo⟩) (hb : bs[b]? = some (.mp (mpE enc l)) := by first | rfl | assumption) (hn : lk l n = none := by assumption) (hz : mapOk zx = true := by rfl) : EntN zx ⟨e, bs, lo⟩ (.mpt b) (.int .i64 n) K := ⟨by
 simp only [entMK, hb]; exact ⟨⟨by rw [mget_mpE, hn]; rfl, hz⟩, h⟩⟩
theorem sN {e : List (Nat × AV)} {bs : List Box} {lo b : Nat} {n : Int} {l : List (Int × AV)} {x v : AV} {K : St -> Prop} (h : K ⟨e, bs.set b (.mp (l ++ [(n, v)])), lo⟩) (hb : bs[b]? = some (.mp (l ++ [(n, x)])) := by first | rfl | assumption) (hv : mapOk v = true := by rfl) : StoN ⟨e, bs, lo⟩ (.mpt b) (.int .i64 (l.length : Int)) v K := ⟨by
 simp only [stoMK, hb, Int.toNat_natCast, List.getElem?_concat_length]; refine ⟨⟨by omega, hv⟩, ?_⟩
 rw [List.set_append_right _ _ (Nat.le_refl _), Nat.sub_self]; exact h⟩
theorem pt_new {β : Type} : ∀ {l : List (Int × β)} {n : Int}, lk l n = none -> ∀ y, pt l n y = l ++ [(n, y)]
 | [], _, _, _ => rfl
 | (k, x) :: l, n, h, y => by
  simp only [lk] at h; split at h
  ·cases h
  ·rename_i hk; simp only [pt, if_neg hk, pt_new h y, List.cons_append]
theorem mpE_new {β : Type} {enc : β -> AV} {l : List (Int × β)} {n : Int} (h : lk l n = none) (y : β) : mpE enc l ++ [(n, enc y)] = mpE enc (pt l n y) := by
 rw [pt_new h]; simp [mpE]
theorem gEn {zx : AV} {s : St} {m k : AV} {K : AV -> St -> Prop} (h : EntN zx s m k K) : EntN zx s m k K := h
theorem gSt {s : St} {m j v : AV} {K : St -> Prop} (h : StoN s m j v K) : StoN s m j v K := h
theorem endz {s t : St} (h : fEnv true t.env fun e => fBs t.bs fun b => wkE 100 [] s.env e ∧ eqB s.bs b True := by (conv => whnf); (refine And.intro ?_ ?_ <;> conv => whnf); (all_goals repeat' ((first | (refine gV ?_; first | refine vE ?_ | refine vI ?_ | refine vB ?_ | (refine gK ?_; refine vC ?_) | refine vN ?_) | (refine gX ?_; refine xB ?_) | exact True.intro) <;> conv => whnf))) (hl : s.lo = t.lo := by rfl) : EndN s t := EndN.at_ h hl
end Go.AM
namespace Go.AM
open Go.CK Go.RowKit
theorem Weak.toRowAt (s : St) (q : Pl) (h0 : s.at q = some (.sl .full [])) (h1 : (⟨s.env, s.bs ++ [.row []], s.lo⟩ : St).at q = some (.sl .full [])) : Weak s ((⟨s.env, s.bs ++ [.row []], s.lo⟩ : St).upd q (.bsl s.bs.length 0 0)) := fun E G a w hs => by
 have h2 := hs.rowNil; have hv := h2.val _ _ h1; simp only [AV.deown] at hv; refine ⟨G, h2.upd (q := q) h1 ?_⟩; obtain ⟨ad, kk, B, off, sz', e1, _, _, _, e2, _⟩ := hv.inv_sl; have := e2 rfl; subst this; rw [e1]; exact .bsl _ _ _ _ (by simp) (Nat.le_refl _) (Nat.zero_le _) (fun h => absurd rfl h)
theorem EndN.toRowAt {s t : St} (q : Pl) (h0 : s.at q = some (.sl .full [])) (h1 : (⟨s.env, s.bs ++ [.row []], s.lo⟩ : St).at q = some (.sl .full [])) (h : EndN ((⟨s.env, s.bs ++ [.row []], s.lo⟩ : St).upd q (.bsl s.bs.length 0 0)) t) : EndN s t := ⟨(Weak.toRowAt s q h0 h1).trans h.out⟩
end Go.AM
