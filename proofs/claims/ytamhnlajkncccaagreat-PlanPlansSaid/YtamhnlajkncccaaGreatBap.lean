/-
  Texts of this claim joined (wip/gen/bundle.py), those declarations only that are needed: AmRw Av AmVw. By an AI agent.
-/
import Derived.Test.YtamhnlajkncccaaGreatBao
import Derived.Test.YtamhnlajkncccaaGreatBaa
namespace Go.AM
open Go.CK Go.RowKit

/-- a row: the elements of l, room for k -/
def rowF {α : Type} (f : α → AV) (z k : Nat) (l : List α) : Box := .row (cellsOf (l.map f) ++ List.replicate ((k - l.length) * z) .top)
/-- elements of z cells, none of which owns anything -/
structure Plain {α : Type} (f : α → AV) (z : Nat) : Prop where
  pos : 0 < z
  sz : ∀ x, (f x).cells.length = z
  de : ∀ x, ∀ c ∈ (f x).cells, c.deown = c
  flat : ∀ x, ∀ c ∈ (f x).cells, c.flat1 = true
theorem mem_cellsOf : ∀ {l : List AV} {c : AV}, c ∈ cellsOf l → ∃ x ∈ l, c ∈ x.cells
  | [], _, h => by cases h
  | x :: l, c, h => by
    rcases List.mem_append.1 h with h | h
    · exact ⟨x, by simp, h⟩
    · obtain ⟨y, h1, h2⟩ := mem_cellsOf h
      exact ⟨y, by simp [h1], h2⟩
section
variable {α : Type} {f : α → AV} {z : Nat}
theorem Plain.len (h : Plain f z) (l : List α) : (cellsOf (l.map f)).length = l.length * z := by
  rw [cellsOf_length (z := z) fun y hy => by obtain ⟨x, _, rfl⟩ := List.mem_map.1 hy; exact h.sz x, List.length_map]
theorem Plain.mem (h : Plain f z) {l : List α} {c : AV} (hc : c ∈ cellsOf (l.map f)) : c.deown = c ∧ c.flat1 = true := by
  obtain ⟨y, h1, h2⟩ := mem_cellsOf hc
  obtain ⟨x, _, rfl⟩ := List.mem_map.1 h1
  exact ⟨h.de x c h2, h.flat x c h2⟩
theorem Plain.take (h : Plain f z) (l : List α) (p : List AV) : (cellsOf (l.map f) ++ p).take (l.length * z) = cellsOf (l.map f) := by
  rw [← h.len l]; simp

theorem rowAt_row {bs : List Box} {b : Nat} {cs : List AV} (h : bs[b]? = some (.row cs)) : rowAt bs b = some cs := by
  unfold rowAt; rw [h]
theorem srcK_row {bs : List Box} {b m k : Nat} {cs : List AV} {K : Nat → Nat → List AV → Option Nat → Prop} (h : bs[b]? = some (.row cs)) (k' : K m k cs (some b)) : srcK bs (.bsl b m k) K := by
  simp only [srcK, rowAt_row h]; exact k'
/-- elements of a list put behind a row -/
theorem AppN.row (hp : Plain f z) {e : List (Nat × AV)} {bs : List Box} {lo : Nat} {b m k : Nat} {l l' : List α} {o : Cap} {K : AV → St → Prop} (hb : bs[b]? = some (rowF f z k l)) (hm : m = l.length) (hk : m ≤ k) (hlim : m + l'.length ≤ 4294967296)
    (h : ∀ k', (l ++ l').length ≤ k' → K (.bsl bs.length (l ++ l').length k') ⟨e, bs.set b .dead ++ [rowF f z k' (l ++ l')], lo⟩) : AppN z ⟨e, bs, lo⟩ (.bsl b m k) (.sl o (l'.map f)) K := by
  subst hm
  refine ⟨srcK_row hb ?_⟩
  refine ⟨fun y hy => by obtain ⟨x, _, rfl⟩ := List.mem_map.1 hy; exact hp.sz x, ?_⟩
  rw [List.length_map]
  refine ⟨⟨hp.pos, ?_, hlim, fun x hx => ?_⟩, fun k' hk' => ?_⟩
  · rw [List.length_append, hp.len, List.length_replicate, ← Nat.add_mul]; exact Nat.mul_le_mul_right _ (by omega)
  · rw [hp.take] at hx; exact (hp.mem hx).1
  · rw [hp.take, ← List.append_assoc, ← cellsOf_append, ← List.map_append]
    have := h k' (by simpa using hk')
    simp only [List.length_append] at this
    unfold rowF at this
    simp only [List.length_append] at this
    exact this
theorem AppN.one (hp : Plain f z) {e : List (Nat × AV)} {bs : List Box} {lo : Nat} {b m k : Nat} {l : List α} {x : α} {o : Cap} {K : AV → St → Prop} (hb : bs[b]? = some (rowF f z k l)) (hm : m = l.length) (hk : m ≤ k) (hlim : m + 1 ≤ 4294967296)
    (h : ∀ k', (l ++ [x]).length ≤ k' → K (.bsl bs.length (l ++ [x]).length k') ⟨e, bs.set b .dead ++ [rowF f z k' (l ++ [x])], lo⟩) : AppN z ⟨e, bs, lo⟩ (.bsl b m k) (.sl o [f x]) K :=
  AppN.row (l' := [x]) hp hb hm hk hlim h
/-- room is made -/
theorem ZerN.nil (hp : Plain f z) {e : List (Nat × AV)} {bs : List Box} {lo : Nat} {ik : IntKind} {n : Int} {K : AV → St → Prop} (hn : 0 ≤ n ∧ n ≤ 4294967296) (h : ∀ k', n.toNat ≤ k' → K (.bsl bs.length n.toNat k') ⟨e, bs ++ [rowF f z k' []], lo⟩) : ZerN z ⟨e, bs, lo⟩ (.sl .full []) (.int ik n) K := by
  refine ⟨?_⟩
  unfold appZ
  simp only [srcK]
  refine ⟨⟨hp.pos, by simp, ⟨hn.1, by omega⟩, fun x hx => by simp at hx⟩, fun k' hk' => ?_⟩
  have := h k' (by omega)
  simpa [rowF, cellsOf, killO] using this

/-- a row is made -/
theorem MkN.row (hp : Plain f z) (x : α) {e : List (Nat × AV)} {bs : List Box} {lo : Nat} {ik jk : IntKind} {n m : Int} {K : AV → St → Prop} (hn : 0 ≤ n ∧ n ≤ m ∧ m ≤ 4294967296) (h : K (.bsl bs.length n.toNat m.toNat) ⟨e, bs ++ [rowF f z m.toNat (List.replicate n.toNat x)], lo⟩) : MkN z (f x) ⟨e, bs, lo⟩ (.int ik n) (.int jk m) K := by
  refine ⟨⟨⟨hp.pos, hn⟩, ?_⟩⟩
  simpa only [rowF, List.map_replicate, List.length_replicate] using h

theorem RS.rowNil {E : Entry} {G : Gh} {s : St} {a : Act} {w : World} (h : RS E G s a w) : RS E G ⟨s.env, s.bs ++ [.row []], s.lo⟩ a w := by
  have := h.reb (bs' := s.bs ++ [.row []]) (σ' := G.σ) id (by simp) (fun _ _ => rfl) (fun b x hb => boxLoop_append rfl hb) (fun b cs' hc => by
    rw [boxCells_append] at hc
    split at hc
    · cases hc
    · exact ⟨cs', hc, rfl, Nat.le_refl _, fun j x hx => .inr ⟨hx, .inl rfl⟩⟩) (fun b b' _ _ _ _ e => e)
  exact this
/-- no elements: a row without any -/
theorem Weak.toRow (s : St) (t : Nat) (h0 : envGet s.env t = some (.sl .full [])) : Weak s ⟨envPut s.env t (.bsl s.bs.length 0 0), s.bs ++ [.row []], s.lo⟩ := fun E G a w hs => by
  have h1 := hs.rowNil
  have hat : (⟨s.env, s.bs ++ [.row []], s.lo⟩ : St).at (.sl t) = some (.sl .full []) := h0
  have hv := h1.val _ _ hat
  simp only [AV.deown] at hv
  refine ⟨G, h1.upd (q := .sl t) hat ?_⟩
  obtain ⟨ad, kk, B, off, sz', e1, _, _, _, e2, _⟩ := hv.inv_sl
  have := e2 rfl
  subst this
  rw [e1]
  exact .bsl _ _ _ _ (by simp) (Nat.le_refl _) (Nat.zero_le _) (fun h => absurd rfl h)
theorem RetP.toRow {s : St} {rs : List RRes} {Q : AV → List Box → Prop} (k : Nat) (h0 : envGet s.env k = some (.sl .full [])) (h : RetP ⟨envPut s.env k (.bsl s.bs.length 0 0), s.bs ++ [.row []], s.lo⟩ rs Q) : RetP s rs Q := by
  obtain ⟨s', h3, h4⟩ := h.out
  exact ⟨s', (Weak.toRow s k h0).trans h3, h4⟩
theorem EndN.toRow {s t : St} (k : Nat) (h0 : envGet s.env k = some (.sl .full [])) (h : EndN ⟨envPut s.env k (.bsl s.bs.length 0 0), s.bs ++ [.row []], s.lo⟩ t) : EndN s t := ⟨(Weak.toRow s k h0).trans h.out⟩

theorem Elems.ofCells {M : Hp} {B : Nat} {L : List AV} {p : List AV} (hz : ∀ y ∈ L, y.cells.length = z) (h : Cells M B 0 (cellsOf L ++ p)) : Elems M B 0 z L := fun i hi => by
  have hl := cellsOf_length hz
  have hc := hz _ (List.getElem_mem hi)
  refine ⟨hc, fun j hj => ?_⟩
  have hij : i * z + j < (cellsOf L).length := by
    rw [hl]
    have := Nat.mul_le_mul_right z hi
    rw [Nat.succ_mul] at this
    omega
  obtain ⟨v, h1, h2, h3⟩ := h (i * z + j) (by rw [List.length_append]; omega)
  refine ⟨v, ?_, h2, ?_⟩
  · rw [Nat.zero_add] at h1 ⊢; exact h1
  · rw [List.getElem_append_left hij] at h3
    have hg := cellsOf_get hz i hi j (by omega)
    rw [List.getElem?_eq_getElem hij, List.getElem?_eq_getElem hj] at hg
    rw [← Option.some.inj hg]; exact h3
/-- a row that is written no more is a list -/
theorem Weak.froze (hp : Plain f z) (s : St) (t : Nat) {b m k : Nat} {l : List α} (h0 : envGet s.env t = some (.bsl b m k)) (hb : s.bs[b]? = some (rowF f z k l)) (hm : m = l.length) : Weak s ⟨envPut s.env t (.sl .no (l.map f)), s.bs.set b .dead, s.lo⟩ := fun E G a w hs => by
  subst hm
  have hz : ∀ y ∈ l.map f, y.cells.length = z := fun y hy => by obtain ⟨x, _, rfl⟩ := List.mem_map.1 hy; exact hp.sz x
  have hat : s.at (.sl t) = some (.bsl b l.length k) := h0
  have hv0 := hs.val _ _ hat
  obtain ⟨ad, hv, hbl, hmk, hml, had⟩ := hv0.inv_bsl
  by_cases hk : k = 0
  · subst hk
    have hl : l = [] := List.eq_nil_of_length_eq_zero (by omega)
    subst hl
    have h1 := hs.reb (bs' := s.bs.set b .dead) (σ' := G.σ) id (by simp) (fun _ _ => rfl) (fun c x hc => boxLoop_kill hc) (fun c cs' hc => by
      rw [boxCells_setDead] at hc
      split at hc
      · cases hc
      · exact ⟨cs', hc, rfl, Nat.le_refl _, fun j x hx => .inr ⟨hx, .inl rfl⟩⟩) (fun b b' _ _ _ _ e => e)
    refine ⟨_, h1.upd (q := .sl t) (x := .sl .no ([].map f)) hat ?_⟩
    show RV G.M G.σ _ _ (valAt G.σ a w (.sl t))
    rw [hv]
    exact .flat (FV.mk_sl (l := []) (B := 0) (off := 0) (sz := z) (by simp) (Nat.le_refl _) (Nat.zero_le _) (by simp) (fun h => absurd rfl h) (fun i hi => by cases hi))
  · have hne : cellsOf (l.map f) ++ List.replicate ((k - l.length) * z) .top ≠ [] := fun e => by
      have := congrArg List.length e
      rw [List.length_append, hp.len, List.length_replicate, ← Nat.add_mul, List.length_nil] at this
      have h2 : 0 < (l.length + (k - l.length)) * z := Nat.mul_pos (by omega) hp.pos
      omega
    have hbc : boxCells s.bs b = some (cellsOf (l.map f) ++ List.replicate ((k - l.length) * z) .top) := rowAt_cells (rowAt_row hb) hne
    obtain ⟨G', h1, h2, h3⟩ := hs.dead hbc (fun x hx => by
      rcases List.mem_append.1 hx with hx | hx
      · exact (hp.mem hx).2
      · rw [(List.mem_replicate.1 hx).2]; rfl)
    refine ⟨G', h1.upd (q := .sl t) (x := .sl .no (l.map f)) (y := .bsl b l.length k) h0 ?_⟩
    show RV G'.M G'.σ _ _ (valAt G'.σ a w (.sl t))
    have hva : valAt G'.σ a w (.sl t) = .slice ad l.length k := hv
    rw [hva, had hk]
    have := FV.mk_sl (M := G'.M) (o := .no) (l := l.map f) (a := some ⟨G.σ b, 0, none⟩) (k := k) (B := G.σ b) (off := 0) (sz := z) (by simp) (by simpa using hmk) (by first|(simpa using hml)|(have:=glim_le hml;simpa using this)) (by simp) (fun _ => rfl) (Elems.ofCells hz h3)
    rw [List.length_map] at this
    exact .flat this
theorem RetP.froze (hp : Plain f z) {s : St} {t : Nat} {b m k : Nat} {l : List α} {Q : AV → List Box → Prop} (h0 : envGet s.env t = some (.bsl b m k)) (hb : s.bs[b]? = some (rowF f z k l)) (hm : m = l.length) (h : RetP ⟨envPut s.env t (.sl .no (l.map f)), s.bs.set b .dead, s.lo⟩ [.slot t] Q) : RetP s [.slot t] Q := by
  obtain ⟨s', h3, h4⟩ := h.out
  exact ⟨s', (Weak.froze hp s t h0 hb hm).trans h3, h4⟩
end
section
variable {E : Entry} {G : Gh} {s : St} {a : Act} {w : World}
end
theorem Plain.rowOk {α : Type} {f : α → AV} {z : Nat} (hp : Plain f z) (l : List α) (q n : Nat) : ∀ x ∈ cellsOf (l.map f) ++ List.replicate q .top, x.deown = x ∧ x.lt n = true := fun x hx => by
  rcases List.mem_append.1 hx with hx | hx
  · obtain ⟨h1, h2⟩ := hp.mem hx
    refine ⟨h1, ?_⟩
    cases x <;> first | (cases h2; done) | rfl
  · rw [(List.mem_replicate.1 hx).2]; exact ⟨rfl, rfl⟩
theorem FV.flat1 {M : Hp} {x : AV} {v : Value} (h : FV M x v) (h1 : v.oneCell' = true) : x.flat1 = true := by
  cases h with
  | sl o l a k B off sz ho hk hl hf ha hz hm hv =>
    cases o with
    | own z => exact absurd rfl (ho z)
    | _ => rfl
  | agg cs vs hl h2 hv => cases h1
  | _ => rfl
theorem flat1_lt {x : AV} (h : x.flat1 = true) (n : Nat) : x.lt0 n = true ∧ x.lt1 n = true ∧ x.lt n = true := by
  cases x <;> first | (cases h; done) | exact ⟨rfl, rfl, rfl⟩ | skip
  rename_i o l
  exact ⟨h, h, rfl⟩
theorem FV.lt {M : Hp} {x : AV} {v : Value} (h : FV M x v) (n : Nat) : x.lt n = true := by
  cases h with
  | agg cs vs hl h1 hv =>
    simp only [AV.lt, List.all_eq_true]
    intro c hc
    obtain ⟨j, hj, rfl⟩ := List.mem_iff_getElem.1 hc
    have hj' : j < vs.length := by omega
    exact (flat1_lt ((hv j hj _ (List.getElem?_eq_getElem hj')).flat1 (h1 _ (List.getElem_mem hj'))) n).2.1
  | _ => rfl
theorem RetP.slot {s : St} {t : Nat} {Q : AV → List Box → Prop} (h : Q (s.get t) s.bs) : RetP s [.slot t] Q := ⟨s, Weak.refl s, .inl h⟩
/-- whole numbers of int, as elements -/
theorem plainI : Plain (AV.int .i64) 1 := ⟨Nat.zero_lt_one, fun _ => rfl, fun x c h => by simp [AV.cells] at h; subst h; rfl, fun x c h => by simp [AV.cells] at h; subst h; rfl⟩

def msOf (v : AV) (xs : List Int) : List (Int × AV) := xs.foldl (fun l n => mput l n v) []
theorem mget_put (v : AV) : ∀ (l : List (Int × AV)) (n m : Int), mget (mput l n v) m = if m = n then some v else mget l m
  | [], n, m => by simp only [mput, mget]
  | (k, x) :: l, n, m => by
    simp only [mput]
    by_cases h : n = k
    · subst h
      simp only [if_true, mget]
      by_cases h2 : m = n <;> simp [h2]
    · simp only [if_neg h, mget]
      by_cases h2 : m = k
      · subst h2
        rw [if_pos rfl, if_neg (fun e => h e.symm), if_pos rfl]
      · rw [if_neg h2, if_neg h2, mget_put v l n m]
theorem mget_ms (v : AV) (xs : List Int) (n : Int) : mget (msOf v xs) n = if n ∈ xs then some v else none := by
  have : ∀ (xs : List Int) (l : List (Int × AV)), mget (xs.foldl (fun l n => mput l n v) l) n = if n ∈ xs then some v else mget l n := fun xs => by
    induction xs with
    | nil => intro l; simp
    | cons x xs ih =>
      intro l
      rw [List.foldl_cons, ih, mget_put]
      by_cases h1 : n ∈ xs
      · simp [h1]
      · by_cases h2 : n = x
        · simp [h2]
        · simp [h1, h2]
  rw [msOf, this]
  simp [mget]
theorem msOf_put (v : AV) (xs : List Int) (n : Int) : mput (msOf v xs) n v = msOf v (xs ++ [n]) := by simp [msOf]
theorem MapN.set {v : AV} {xs : List Int} {n : Int} {ok : Bool} {z : AV} {K : AV → Prop} (hv : mapOk v = true) (h1 : n ∈ xs → K (okR ok v true)) (h2 : n ∉ xs → K (okR ok z false)) : MapN (msOf v xs) n ok z K := by
  refine ⟨?_⟩
  rw [mget_ms]
  by_cases h : n ∈ xs
  · simp only [if_pos h]; exact ⟨hv, h1 h⟩
  · simp only [if_neg h]; exact h2 h

theorem cells_one {α : Type} {f : α → AV} (hf : ∀ x, (f x).cells = [f x]) (l : List α) : cellsOf (l.map f) = l.map f := by
  induction l with
  | nil => rfl
  | cons x l ih => rw [List.map_cons, cellsOf, ih, hf]; rfl
theorem rowO_cells {α : Type} {f : α → AV} (hf : ∀ x, (f x).cells = [f x]) {bs : List Box} {b k i : Nat} {l : List α} {x : α} (hb : bs[b]? = some (rowF f 1 k l)) (hx : l[i]? = some x) : boxCells bs b = some (l.map f ++ List.replicate (k - l.length) AV.top) := by
  have hrow : bs[b]? = some (.row (l.map f ++ List.replicate (k - l.length) AV.top)) := by
    rw [hb]
    simp only [rowF, cells_one hf, Nat.mul_one]
  refine rowAt_cells (rowAt_row hrow) fun e => ?_
  have := congrArg List.length e
  rw [List.length_append, List.length_map, List.length_nil] at this
  have hi := (List.getElem?_eq_some_iff.1 hx).1
  omega
/-- an element of one cell is read -/
theorem ElN.one {α : Type} {f : α → AV} (hf : ∀ x, (f x).cells = [f x] ∧ (f x).deown = f x) {e : List (Nat × AV)} {bs : List Box} {lo b k i : Nat} {l : List α} {x : α} {K : AV → Prop} (hb : bs[b]? = some (rowF f 1 k l)) (hx : l[i]? = some x) (h : K (f x)) : ElN false 1 ⟨e, bs, lo⟩ (.elp b i 1 0) K := by
  refine ⟨?_⟩
  have hi := (List.getElem?_eq_some_iff.1 hx).1
  simp only [St.rd, rowO_cells (fun x => (hf x).1) hb hx, Nat.mul_one, Nat.add_zero]
  rw [List.drop_append_of_le_length (by rw [List.length_map]; omega), ← List.map_drop, List.drop_eq_getElem_cons hi, (List.getElem?_eq_some_iff.1 hx).2]
  simp only [List.map_cons, List.cons_append, loadK, (hf x).2]
  exact h
/-- an element of one cell is written -/
theorem EsN.one {α : Type} {f : α → AV} (hf : ∀ x, (f x).cells = [f x] ∧ cellOk (f x) = true) {e : List (Nat × AV)} {bs : List Box} {lo b k i : Nat} {l : List α} {x y : α} {K : St → Prop} (hb : bs[b]? = some (rowF f 1 k l)) (hx : l[i]? = some x) (h : K ⟨e, bs.set b (rowF f 1 k (l.set i y)), lo⟩) : EsN 1 ⟨e, bs, lo⟩ b i 1 0 (f y) K := by
  refine ⟨?_⟩
  have hi := (List.getElem?_eq_some_iff.1 hx).1
  simp only [storeEK, rowO_cells (fun x => (hf x).1) hb hx, Nat.mul_one, Nat.add_zero]
  refine ⟨⟨(hf y).2, by rw [(hf y).1]; rfl, by omega, by rw [List.length_append, List.length_map]; omega⟩, ?_⟩
  have he : setAt (l.map f ++ List.replicate (k - l.length) AV.top) i (f y).cells = (l.set i y).map f ++ List.replicate (k - (l.set i y).length) AV.top := by
    simp only [(hf y).1, setAt, List.length_set, List.map_set]
    rw [List.set_append, if_pos (by rw [List.length_map]; exact hi)]
  rw [he]
  have e2 : rowF f 1 k (l.set i y) = .row ((l.set i y).map f ++ List.replicate (k - (l.set i y).length) AV.top) := by simp only [rowF, cells_one (fun x => (hf x).1), Nat.mul_one]
  rw [← e2]; exact h
theorem plainB : Plain AV.bool 1 := ⟨Nat.zero_lt_one, fun _ => rfl, fun x c h => by simp [AV.cells] at h; subst h; rfl, fun x c h => by simp [AV.cells] at h; subst h; rfl⟩
/-- what a row that is written no more leaves: its first m elements, as a list -/
theorem RS.thaw {α : Type} {f : α → AV} {z : Nat} (hp : Plain f z) {E : Entry} {G : Gh} {s : St} {a : Act} {w : World} (hs : RS E G s a w) {b k0 : Nat} {l : List α} (hb : s.bs[b]? = some (rowF f z k0 l)) :
    ∃ G', RS E G' ⟨s.env, s.bs.set b .dead, s.lo⟩ a w ∧ G'.σ = G.σ ∧ ∀ (m k : Nat) (v : Value), m ≤ l.length → RV G.M G.σ s.bs.length (.bsl b m k) v → FV G'.M (.sl .no ((l.take m).map f)) v := by
  have hz : ∀ y ∈ l.map f, y.cells.length = z := fun y hy => by obtain ⟨x, _, rfl⟩ := List.mem_map.1 hy; exact hp.sz x
  by_cases hne : cellsOf (l.map f) ++ List.replicate ((k0 - l.length) * z) AV.top = []
  · have hl : l = [] := by
      have := congrArg List.length hne
      rw [List.length_append, hp.len, List.length_nil] at this
      have h0 := hp.pos
      cases l with
      | nil => rfl
      | cons x l => simp only [List.length_cons, Nat.succ_mul] at this; omega
    subst hl
    have h1 := hs.reb (bs' := s.bs.set b .dead) (σ' := G.σ) id (by simp) (fun _ _ => rfl) (fun c x hc => boxLoop_kill hc) (fun c cs' hc => by
      rw [boxCells_setDead] at hc
      split at hc
      · cases hc
      · exact ⟨cs', hc, rfl, Nat.le_refl _, fun j x hx => .inr ⟨hx, .inl rfl⟩⟩) (fun b b' _ _ _ _ e => e)
    refine ⟨_, h1, rfl, fun m k v hm hv => ?_⟩
    simp only [List.length_nil, Nat.le_zero] at hm
    subst hm
    obtain ⟨ad, rfl, _, _, _, _⟩ := hv.inv_bsl
    exact FV.mk_sl (l := []) (B := 0) (off := 0) (sz := z) (by simp) (Nat.zero_le _) (Nat.zero_le _) (by simp) (fun h => absurd rfl h) (fun i hi => by cases hi)
  · have hbc : boxCells s.bs b = some (cellsOf (l.map f) ++ List.replicate ((k0 - l.length) * z) .top) := rowAt_cells (rowAt_row hb) hne
    obtain ⟨G', h1, h2, h3⟩ := hs.dead hbc (fun x hx => by
      rcases List.mem_append.1 hx with hx | hx
      · exact (hp.mem hx).2
      · rw [(List.mem_replicate.1 hx).2]; rfl)
    refine ⟨G', h1, h2, fun m k v hm hv => ?_⟩
    obtain ⟨ad, rfl, _, hmk, hml, had⟩ := hv.inv_bsl
    have he := elems_slice (Elems.ofCells hz h3) 0 m (by simpa using hm)
    simp only [Nat.zero_mul, Nat.add_zero, List.drop_zero, ← List.map_take] at he
    have hlen : ((l.take m).map f).length = m := by simp; omega
    have := FV.mk_sl (M := G'.M) (o := .no) (l := (l.take m).map f) (a := ad) (k := k) (B := G.σ b) (off := 0) (sz := z) (by simp) (by omega) (by rw [hlen];first|exact hml|exact glim_le hml) (by simp) (fun h0 => had (fun e => by
      subst e
      have : m = 0 := by omega
      subst this
      simp at h0)) he
    rw [hlen] at this
    exact this
/-- .. the struct stands in box c -/
theorem Weak.frozeBx {α : Type} {f : α → AV} {z : Nat} (hp : Plain f z) (s : St) (c i : Nat) {cs : List AV} {b m k k0 : Nat} {l : List α} (h0 : s.bs[c]? = some (.cells cs)) (hi : cs[i]? = some (.bsl b m k)) (hb : s.bs[b]? = some (rowF f z k0 l)) (hm : m ≤ l.length) : Weak s ⟨s.env, (s.bs.set b .dead).set c (.cells (cs.set i (.sl .no ((l.take m).map f)))), s.lo⟩ := fun E G a w hs => by
  have hcb : c ≠ b := fun e => by subst e; rw [h0] at hb; cases hb
  have hbc : boxCells s.bs c = some cs := by simp only [boxCells, h0]; rfl
  have hbc' : boxCells (s.bs.set b .dead) c = some cs := by rw [boxCells_setDead, if_neg hcb]; exact hbc
  have hat : s.at (.bx c i) = some (.bsl b m k) := by simp only [St.at, hbc, Option.bind_some]; exact hi
  have hv0 := hs.val _ _ hat
  have hde : (AV.bsl b m k).deown = .bsl b m k := rfl
  rw [hde] at hv0
  obtain ⟨G', h1, hσ, hth⟩ := hs.thaw hp hb
  have hfv := hth m k _ hm hv0
  have hat' : (⟨s.env, s.bs.set b .dead, s.lo⟩ : St).at (.bx c i) = some (.bsl b m k) := by simp only [St.at, hbc', Option.bind_some]; exact hi
  have h2 := h1.upd (q := .bx c i) (x := .sl .no ((l.take m).map f)) hat' (by
    show RV G'.M G'.σ _ _ (valAt G'.σ a w (.bx c i))
    have hva : valAt G'.σ a w (.bx c i) = valAt G.σ a w (.bx c i) := by simp only [valAt, hσ]
    rw [hva]
    exact .flat hfv)
  refine ⟨G', ?_⟩
  have e : (⟨s.env, s.bs.set b .dead, s.lo⟩ : St).upd (.bx c i) (.sl .no ((l.take m).map f)) = ⟨s.env, (s.bs.set b .dead).set c (.cells (cs.set i (.sl .no ((l.take m).map f)))), s.lo⟩ := by simp only [St.upd, hbc', St.setBox]
  rw [← e]; exact h2
theorem RetP.frozeBx {α : Type} {f : α → AV} {z : Nat} (hp : Plain f z) {s : St} (c i : Nat) {cs : List AV} {b m k k0 : Nat} {l : List α} {rs : List RRes} {Q : AV → List Box → Prop} (h0 : s.bs[c]? = some (.cells cs)) (hi : cs[i]? = some (.bsl b m k)) (hb : s.bs[b]? = some (rowF f z k0 l)) (hm : m ≤ l.length) (h : RetP ⟨s.env, (s.bs.set b .dead).set c (.cells (cs.set i (.sl .no ((l.take m).map f)))), s.lo⟩ rs Q) : RetP s rs Q := by
  obtain ⟨s', h3, h4⟩ := h.out
  exact ⟨s', (Weak.frozeBx hp s c i h0 hi hb hm).trans h3, h4⟩
/-- is a slice nil: what comes of it is the same -/
theorem NilN.no {l : List AV} {K : Bool → Prop} (h : ∀ b, (b = true → l = []) → K b) : NilN l K := ⟨fun hl => h false (fun e => by cases e), fun hl b => h b fun _ => hl⟩
end Go.AM

namespace Go.CK
open Go.RowKit Go.AM

abbrev intA (n : Int) : AV := .int .i64 n
abbrev boolA (b : Bool) : AV := .bool b
abbrev strA (s : ByteArray) : AV := .str s
abbrev slA {α : Type} (f : α → AV) (l : List α) : AV := .sl .no (l.map f)
/-- the cells c read as cs -/
def CF (M : Hp) (cs : List AV) (c : List Value) : Prop := c.length = cs.length ∧ ∀ j (h : j < cs.length) v, c[j]? = some v → FV M cs[j] v
theorem CF.nil {M : Hp} : CF M [] [] := ⟨rfl, fun j h => by cases h⟩
theorem CF.cons {M : Hp} {x : AV} {cs : List AV} {v : Value} {c : List Value} (h : FV M x v) (k : CF M cs c) : CF M (x :: cs) (v :: c) :=
  ⟨by simp [k.1], fun j hj u hu => by
    cases j with
    | zero => simp only [List.getElem?_cons_zero, Option.some.injEq] at hu; subst hu; exact h
    | succ j => exact k.2 j (by simpa using hj) u (by simpa using hu)⟩
theorem CF.app {M : Hp} {cs ds : List AV} {c d : List Value} (h : CF M cs c) (k : CF M ds d) : CF M (cs ++ ds) (c ++ d) := by
  refine ⟨by simp [h.1, k.1], fun j hj u hu => ?_⟩
  by_cases e : j < cs.length
  · rw [List.getElem?_append_left (by rw [h.1]; exact e)] at hu
    rw [List.getElem_append_left e]
    exact h.2 j e u hu
  · rw [List.getElem?_append_right (by rw [h.1]; omega)] at hu
    rw [List.getElem_append_right (by omega)]
    have := k.2 (j - cs.length) (by simp at hj; omega) u (by rw [h.1] at hu; exact hu)
    exact this
theorem CF.agg {M : Hp} {cs : List AV} {c : List Value} (h : CF M cs c) (h1 : ∀ u ∈ c, u.oneCell' = true) : FV M (.agg cs) (.agg c.toArray) := .agg cs c h.1 h1 h.2
/-- what is said of cells is said of values: one that takes one cell, or several -/
theorem Sl.fv {α : Type} {R : Hp → List Value → α → Prop} {f : α → AV} {M : Hp} {sz : Nat} {a : Option Addr} {l : List α} {k : Nat} (h : Sl M sz (R M) a l) (hk : l.length ≤ k) (hR : ∀ x ∈ l, ∀ c, R M c x → CF M (f x).cells c ∧ ∀ u ∈ c, u.oneCell' = true) : FV M (.sl .no (l.map f)) (.slice a l.length k) := by
  have hlen : (l.map f).length = l.length := by simp
  rw [← hlen]
  by_cases h0 : 0 < l.length
  · obtain ⟨b, o, ha⟩ := h.addr h0
    refine FV.mk_sl (B := b) (off := o) (sz := sz) (fun z e => by cases e) (by rw [hlen]; exact hk) (by rw [hlen]; exact h.le) (fun e => by cases e) (fun _ => ha) (fun i hi => ?_)
    rw [hlen] at hi
    obtain ⟨b', o', cs, h1, h2, h3, h4⟩ := h.at_ i hi
    rw [ha] at h1
    simp only [Option.some.injEq, Addr.mk.injEq, and_true] at h1
    obtain ⟨rfl, rfl⟩ := h1
    obtain ⟨⟨h5, h6⟩, h7⟩ := hR _ (List.getElem_mem hi) cs h4
    rw [List.getElem_map]
    refine ⟨by rw [← h5, h2], fun j hj => ?_⟩
    have hj2 : j < cs.length := by rw [h5]; exact hj
    have hj3 : cs[j]? = some cs[j] := List.getElem?_eq_getElem hj2
    exact ⟨cs[j], h3 j _ hj3, h7 _ (List.getElem_mem hj2), h6 j hj _ hj3⟩
  · have : l = [] := List.length_eq_zero_iff.1 (by omega)
    subst this
    exact FV.mk_sl (B := 0) (off := 0) (sz := 0) (fun z e => by cases e) (by simp) (by simp) (fun e => by cases e) (fun e => absurd rfl e) (fun i hi => by cases hi)
theorem RInt.cf {M : Hp} {c : List Value} {n : Int} (h : RInt M c n) : CF M (intA n).cells c ∧ ∀ u ∈ c, u.oneCell' = true := by
  obtain ⟨rfl, _⟩ := h
  exact ⟨.cons (.int _ _) .nil, by simp [Value.oneCell']⟩
theorem RBool.cf {M : Hp} {c : List Value} {n : Bool} (h : RBool M c n) : CF M (boolA n).cells c ∧ ∀ u ∈ c, u.oneCell' = true := by
  cases h
  exact ⟨.cons (.bool _) .nil, by simp [Value.oneCell']⟩
theorem RStr.cf {M : Hp} {c : List Value} {n : ByteArray} (h : RStr M c n) : CF M (strA n).cells c ∧ ∀ u ∈ c, u.oneCell' = true := by
  obtain ⟨rfl, hs⟩ := h
  exact ⟨.cons (.str _ hs) .nil, by simp [Value.oneCell']⟩
theorem RSl.cf {α : Type} {R : Hp → List Value → α → Prop} {f : α → AV} {M : Hp} {sz : Nat} {c : List Value} {l : List α} (h : RSl sz R M c l) (hR : ∀ x ∈ l, ∀ c, R M c x → CF M (f x).cells c ∧ ∀ u ∈ c, u.oneCell' = true) : CF M (slA f l).cells c ∧ ∀ u ∈ c, u.oneCell' = true := by
  obtain ⟨a, k, rfl, h1, h2⟩ := h
  exact ⟨.cons (h2.fv h1 hR) .nil, by simp [Value.oneCell']⟩

mutual
/-- a term -/
def Tm.av : Tm → AV
  | .mk k n s l => .agg [.int .i64 k, .int .i64 n, .str s, .sl .no (Tm.avs l)]
def Tm.avs : List Tm → List AV
  | [] => []
  | t :: l => Tm.av t :: Tm.avs l
end
theorem Tm.avs_map : ∀ l : List Tm, Tm.avs l = l.map Tm.av
  | [] => rfl
  | t :: l => by rw [Tm.avs, Tm.avs_map l]; rfl
/-- a term, written out -/
def Tm.avw (t : Tm) : AV := .agg [.int .i64 t.kind, .int .i64 t.num, .str t.name, .sl .no (t.args.map Tm.av)]
theorem Tm.av_w (t : Tm) : t.av = t.avw := by
  obtain ⟨k, n, s, l⟩ := t
  rw [Tm.av, Tm.avs_map]; rfl
theorem Tm.av_cells (t : Tm) : t.av.cells.length = 4 := by rw [Tm.av_w]; rfl
theorem RTm.cf {M : Hp} {c : List Value} {t : Tm} (h : RTm M c t) : CF M t.av.cells c ∧ ∀ u ∈ c, u.oneCell' = true := by
  refine ⟨?_, h.one⟩
  induction t using Tm.ind_all generalizing c with
  | h k n s l ih =>
    obtain ⟨a, cap, rfl, ik, iN, is, ic, hsl⟩ := h.inv
    rw [Tm.av, Tm.avs_map]
    exact .cons (.int _ _) (.cons (.int _ _) (.cons (.str _ is) (.cons (hsl.fv ic fun x hx c hc => ⟨ih x hx hc, hc.one⟩) .nil)))
theorem RTm.fv {M : Hp} {c : List Value} {t : Tm} (h : RTm M c t) : FV M t.av (.agg c.toArray) := by
  have := h.cf
  rw [Tm.av_w] at this ⊢
  exact this.1.agg this.2

end Go.CK
namespace Go.AM
def AV.good (x : AV) : Prop := ∃ M v, FV M x v
end Go.AM
namespace Go.CK
open Go.RowKit Go.AM
theorem good_str {s : ByteArray} (h : (AV.str s).good) : s.size ≤ 140737488355328 := by
  obtain ⟨M, v, h⟩ := h
  cases h with
  | str _ h => exact h
theorem good_agg {cs : List AV} (h : (AV.agg cs).good) : ∀ c ∈ cs, c.good := by
  obtain ⟨M, v, h⟩ := h
  cases h with
  | agg _ vs hl h1 hv =>
    intro c hc
    obtain ⟨j, hj, rfl⟩ := List.getElem_of_mem hc
    exact ⟨M, vs[j], hv j hj _ (List.getElem?_eq_getElem (by omega))⟩
theorem good_sl {o : Cap} {l : List AV} (h : (AV.sl o l).good) : l.length ≤ 140737488355328 ∧ ∀ y ∈ l, y.good := by
  obtain ⟨M, v, h⟩ := h
  obtain ⟨a, k, B, off, sz, _, _, _, hl, _, _, he⟩ := h.inv_sl
  refine ⟨hl, fun y hy => ?_⟩
  obtain ⟨i, hi, rfl⟩ := List.getElem_of_mem hy
  obtain ⟨_, hc⟩ := he i hi
  generalize l[i] = y at hc
  by_cases ha : ∃ cs, y = .agg cs
  · obtain ⟨cs, rfl⟩ := ha
    have hx : ∀ j, ∃ v : Value, ∀ (h : j < cs.length), v.oneCell' = true ∧ FV M cs[j] v := fun j => by
      by_cases hj : j < cs.length
      · obtain ⟨v, _, h2, h3⟩ := hc j hj
        exact ⟨v, fun _ => ⟨h2, h3⟩⟩
      · exact ⟨undef, fun h => absurd h hj⟩
    refine ⟨M, .agg (List.ofFn fun j : Fin cs.length => (hx j).choose).toArray, .agg cs _ (by simp) (fun v hv => ?_) (fun j hj v hjv => ?_)⟩
    · obtain ⟨j, rfl⟩ := List.mem_ofFn.1 hv
      exact ((hx j).choose_spec j.2).1
    · rw [List.getElem?_ofFn, dif_pos hj] at hjv
      cases hjv
      exact ((hx j).choose_spec hj).2
  · have h1 : y.cells = [y] := by
      cases y <;> first | rfl | exact absurd ⟨_, rfl⟩ ha
    obtain ⟨v, _, _, h3⟩ := hc 0 (by rw [h1]; simp)
    have : y.cells[0]'(by rw [h1]; simp) = y := by simp [h1]
    rw [this] at h3
    exact ⟨M, v, h3⟩
theorem good_sla {α : Type} {f : α → AV} {l : List α} (h : (AV.sl .no (l.map f)).good) : l.length ≤ 140737488355328 ∧ ∀ y ∈ l, (f y).good := by
  obtain ⟨h1, h2⟩ := good_sl h
  exact ⟨by simpa using h1, fun y hy => h2 _ (List.mem_map.2 ⟨y, hy, rfl⟩)⟩
theorem good_tm {t : Tm} (h : t.avw.good) : t.name.size ≤ 140737488355328 ∧ t.args.length ≤ 140737488355328 ∧ ∀ x ∈ t.args, x.avw.good := by
  have hs := good_sla (good_agg h (.sl .no (t.args.map Tm.av)) (by simp))
  exact ⟨good_str (good_agg h (.str t.name) (by simp)), hs.1, fun x hx => by rw [← Tm.av_w]; exact hs.2 x hx⟩
theorem good_tmv {t : Tm} (h : t.av.good) : t.avw.good := by rw [← Tm.av_w]; exact h
/-- what is handed in is there -/
theorem Fun.assume {P : Program} {f : FuncId} {vals : List AV} {r : AV} (hf : vals.all AV.flat = true) (h : (∀ x ∈ vals, x.good) → Fun P f vals r) : Fun P f vals r := fun bs E G a0 w args lo h1 h2 h3 => by
  refine h (fun x hx => ?_) bs E G a0 w args lo h1 h2 h3
  obtain ⟨j, hj, rfl⟩ := List.getElem_of_mem hx
  have hjv : args[j]? = some (args[j]'(by omega)) := List.getElem?_eq_getElem (by omega)
  exact ⟨G.M, _, (h3 j hj _ hjv).toFV (List.all_eq_true.1 hf _ (List.getElem_mem hj))⟩

theorem IdxN.tmK {l : List Tm} {n : Nat} {K : AV → Prop} {x : Tm} (h : l[n]? = some x) (k : K x.avw) : IdxN 4 (l.map Tm.av) (n : Int) K := .known (by simpa using h) (by omega) Tm.av_cells (by rw [Tm.av_w]; exact k)
theorem IdxN.tm {l : List Tm} {n : Nat} {K : AV → Prop} (h1 : n < l.length) (k : ∀ x, l[n]? = some x → K x.avw) : IdxN 4 (l.map Tm.av) (n : Int) K := .mapN h1 Tm.av_cells fun x hx => by rw [Tm.av_w]; exact k x hx
theorem Szs.tm {l : List Tm} : Szs 4 (l.map Tm.av) := .map Tm.av_cells

def At.av (x : At) : AV := .agg [.str x.name, .sl .no (x.args.map Tm.av)]
theorem RAt.cf {M : Hp} {c : List Value} {x : At} (h : RAt M c x) : CF M x.av.cells c ∧ ∀ u ∈ c, u.oneCell' = true := by
  refine ⟨?_, h.one⟩
  obtain ⟨a1, k1, rfl, q0, q1, q2⟩ := h
  exact (.cons (.str x.name q0) (.cons (q2.fv q1 (fun _ _ _ hc => RTm.cf hc)) .nil))
theorem At.good {x : At} (h : x.av.good) : x.name.size ≤ 140737488355328 ∧ (x.args.length ≤ 140737488355328 ∧ ∀ y ∈ x.args, y.avw.good) := ⟨good_str (good_agg h (.str x.name) (by simp)), ⟨(good_sla (good_agg h (.sl .no (x.args.map Tm.av)) (by simp))).1, fun y hy => good_tmv ((good_sla (good_agg h (.sl .no (x.args.map Tm.av)) (by simp))).2 y hy)⟩⟩
theorem RAt.fv {M : Hp} {c : List Value} {x : At} (h : RAt M c x) : FV M x.av (.agg c.toArray) := h.cf.1.agg h.cf.2

def Gl.av (x : Gl) : AV := .agg [.int .i64 x.op, .str x.name, .sl .no (x.args.map Tm.av)]
theorem RGl.cf {M : Hp} {c : List Value} {x : Gl} (h : RGl M c x) : CF M x.av.cells c ∧ ∀ u ∈ c, u.oneCell' = true := by
  refine ⟨?_, h.one⟩
  obtain ⟨a1, k1, rfl, _, q1, q2, q3⟩ := h
  exact (.cons (.int .i64 x.op) (.cons (.str x.name q1) (.cons (q3.fv q2 (fun _ _ _ hc => RTm.cf hc)) .nil)))
theorem Gl.good {x : Gl} (h : x.av.good) : x.name.size ≤ 140737488355328 ∧ (x.args.length ≤ 140737488355328 ∧ ∀ y ∈ x.args, y.avw.good) := ⟨good_str (good_agg h (.str x.name) (by simp)), ⟨(good_sla (good_agg h (.sl .no (x.args.map Tm.av)) (by simp))).1, fun y hy => good_tmv ((good_sla (good_agg h (.sl .no (x.args.map Tm.av)) (by simp))).2 y hy)⟩⟩
theorem RGl.fv {M : Hp} {c : List Value} {x : Gl} (h : RGl M c x) : FV M x.av (.agg c.toArray) := h.cf.1.agg h.cf.2

def Dc.av (x : Dc) : AV := .agg [.str x.name, .int .i64 x.arity]
theorem RDc.cf {M : Hp} {c : List Value} {x : Dc} (h : RDc M c x) : CF M x.av.cells c ∧ ∀ u ∈ c, u.oneCell' = true := by
  refine ⟨?_, h.one⟩
  obtain ⟨rfl, q0, _⟩ := h
  exact (.cons (.str x.name q0) (.cons (.int .i64 x.arity) .nil))
theorem Dc.good {x : Dc} (h : x.av.good) : x.name.size ≤ 140737488355328 := good_str (good_agg h (.str x.name) (by simp))
theorem RDc.fv {M : Hp} {c : List Value} {x : Dc} (h : RDc M c x) : FV M x.av (.agg c.toArray) := h.cf.1.agg h.cf.2

def Rl.av (x : Rl) : AV := .agg [.str x.name, .sl .no (x.keep.map At.av), .sl .no (x.remove.map At.av), .sl .no (x.guard.map Gl.av), .sl .no (x.body.map Gl.av), .int .i64 x.vars]
theorem RRl.cf {M : Hp} {c : List Value} {x : Rl} (h : RRl M c x) : CF M x.av.cells c ∧ ∀ u ∈ c, u.oneCell' = true := by
  refine ⟨?_, h.one⟩
  obtain ⟨a1, k1, a2, k2, a3, k3, a4, k4, rfl, q0, q1, q2, q3, q4, q5, q6, q7, q8, _⟩ := h
  exact (.cons (.str x.name q0) (.cons (q2.fv q1 (fun _ _ _ hc => RAt.cf hc)) (.cons (q4.fv q3 (fun _ _ _ hc => RAt.cf hc)) (.cons (q6.fv q5 (fun _ _ _ hc => RGl.cf hc)) (.cons (q8.fv q7 (fun _ _ _ hc => RGl.cf hc)) (.cons (.int .i64 x.vars) .nil))))))
theorem Rl.good {x : Rl} (h : x.av.good) : x.name.size ≤ 140737488355328 ∧ (x.keep.length ≤ 140737488355328 ∧ ∀ y ∈ x.keep, (At.av y).good) ∧ (x.remove.length ≤ 140737488355328 ∧ ∀ y ∈ x.remove, (At.av y).good) ∧ (x.guard.length ≤ 140737488355328 ∧ ∀ y ∈ x.guard, (Gl.av y).good) ∧ (x.body.length ≤ 140737488355328 ∧ ∀ y ∈ x.body, (Gl.av y).good) := ⟨good_str (good_agg h (.str x.name) (by simp)), good_sla (good_agg h (.sl .no (x.keep.map At.av)) (by simp)), good_sla (good_agg h (.sl .no (x.remove.map At.av)) (by simp)), good_sla (good_agg h (.sl .no (x.guard.map Gl.av)) (by simp)), good_sla (good_agg h (.sl .no (x.body.map Gl.av)) (by simp))⟩
theorem RRl.fv {M : Hp} {c : List Value} {x : Rl} (h : RRl M c x) : FV M x.av (.agg c.toArray) := h.cf.1.agg h.cf.2

def Pg.av (x : Pg) : AV := .agg [.sl .no (x.decls.map Dc.av), .sl .no (x.rules.map Rl.av)]
theorem RPg.cf {M : Hp} {c : List Value} {x : Pg} (h : RPg M c x) : CF M x.av.cells c ∧ ∀ u ∈ c, u.oneCell' = true := by
  refine ⟨?_, h.one⟩
  obtain ⟨a1, k1, a2, k2, rfl, q0, q1, q2, q3⟩ := h
  exact (.cons (q1.fv q0 (fun _ _ _ hc => RDc.cf hc)) (.cons (q3.fv q2 (fun _ _ _ hc => RRl.cf hc)) .nil))
theorem Pg.good {x : Pg} (h : x.av.good) : (x.decls.length ≤ 140737488355328 ∧ ∀ y ∈ x.decls, (Dc.av y).good) ∧ (x.rules.length ≤ 140737488355328 ∧ ∀ y ∈ x.rules, (Rl.av y).good) := ⟨good_sla (good_agg h (.sl .no (x.decls.map Dc.av)) (by simp)), good_sla (good_agg h (.sl .no (x.rules.map Rl.av)) (by simp))⟩
theorem RPg.fv {M : Hp} {c : List Value} {x : Pg} (h : RPg M c x) : FV M x.av (.agg c.toArray) := h.cf.1.agg h.cf.2

def Oc.av (x : Oc) : AV := .agg [.int .i64 x.rule, .int .i64 x.head, .bool x.kept]
theorem ROc.cf {M : Hp} {c : List Value} {x : Oc} (h : ROc M c x) : CF M x.av.cells c ∧ ∀ u ∈ c, u.oneCell' = true := by
  refine ⟨?_, h.one⟩
  obtain ⟨rfl, _, _⟩ := h
  exact (.cons (.int .i64 x.rule) (.cons (.int .i64 x.head) (.cons (.bool x.kept) .nil)))
theorem ROc.fv {M : Hp} {c : List Value} {x : Oc} (h : ROc M c x) : FV M x.av (.agg c.toArray) := h.cf.1.agg h.cf.2

def Bd.av (x : Bd) : AV := .agg [.int .i64 x.var, .int .i64 x.term.kind, .int .i64 x.term.num, .str x.term.name, .sl .no (x.term.args.map Tm.av)]
theorem RBd.cf {M : Hp} {c : List Value} {x : Bd} (h : RBd M c x) : CF M x.av.cells c ∧ ∀ u ∈ c, u.oneCell' = true := by
  refine ⟨?_, h.one⟩
  obtain ⟨c1, rfl, _, q1⟩ := h
  have w0 := Tm.av_w x.term
  have t := (CF.app (CF.cons (FV.int .i64 x.var) CF.nil) (RTm.cf q1).1)
  rw [w0] at t
  exact t
theorem RBd.fv {M : Hp} {c : List Value} {x : Bd} (h : RBd M c x) : FV M x.av (.agg c.toArray) := h.cf.1.agg h.cf.2

def It.av (x : It) : AV := .agg [.int .i64 x.id, .str x.atom.name, .sl .no (x.atom.args.map Tm.av)]
theorem RIt.cf {M : Hp} {c : List Value} {x : It} (h : RIt M c x) : CF M x.av.cells c ∧ ∀ u ∈ c, u.oneCell' = true := by
  refine ⟨?_, h.one⟩
  obtain ⟨c1, rfl, _, q1⟩ := h
  have t := (CF.app (CF.cons (FV.int .i64 x.id) CF.nil) (RAt.cf q1).1)
  exact t
theorem RIt.fv {M : Hp} {c : List Value} {x : It} (h : RIt M c x) : FV M x.av (.agg c.toArray) := h.cf.1.agg h.cf.2

def Ft.av (x : Ft) : AV := .agg [.int .i64 x.id, .str x.atom.name, .sl .no (x.atom.args.map Tm.av), .sl .no (x.just.map intA)]
theorem RFt.cf {M : Hp} {c : List Value} {x : Ft} (h : RFt M c x) : CF M x.av.cells c ∧ ∀ u ∈ c, u.oneCell' = true := by
  refine ⟨?_, h.one⟩
  obtain ⟨c1, a2, k2, rfl, _, q1, q2, q3⟩ := h
  have t := (CF.app (CF.app (CF.cons (FV.int .i64 x.id) CF.nil) (RAt.cf q1).1) (CF.cons (q3.fv q2 (fun _ _ _ hc => RInt.cf hc)) CF.nil))
  exact t
theorem Ft.good {x : Ft} (h : x.av.good) : x.just.length ≤ 140737488355328 := (good_sla (good_agg h (.sl .no (x.just.map intA)) (by simp))).1
theorem RFt.fv {M : Hp} {c : List Value} {x : Ft} (h : RFt M c x) : FV M x.av (.agg c.toArray) := h.cf.1.agg h.cf.2

def Fr.av (x : Fr) : AV := .agg [.int .i64 x.rule, .sl .no (x.ids.map intA)]
theorem RFr.cf {M : Hp} {c : List Value} {x : Fr} (h : RFr M c x) : CF M x.av.cells c ∧ ∀ u ∈ c, u.oneCell' = true := by
  refine ⟨?_, h.one⟩
  obtain ⟨a1, k1, rfl, _, q1, q2⟩ := h
  exact (.cons (.int .i64 x.rule) (.cons (q2.fv q1 (fun _ _ _ hc => RInt.cf hc)) .nil))
theorem Fr.good {x : Fr} (h : x.av.good) : x.ids.length ≤ 140737488355328 := (good_sla (good_agg h (.sl .no (x.ids.map intA)) (by simp))).1
theorem RFr.fv {M : Hp} {c : List Value} {x : Fr} (h : RFr M c x) : FV M x.av (.agg c.toArray) := h.cf.1.agg h.cf.2

def Fm.av (x : Fm) : AV := .agg [.int .i64 x.goal.op, .str x.goal.name, .sl .no (x.goal.args.map Tm.av), .int .i64 x.id, .int .i64 x.occ]
theorem RFm.cf {M : Hp} {c : List Value} {x : Fm} (h : RFm M c x) : CF M x.av.cells c ∧ ∀ u ∈ c, u.oneCell' = true := by
  refine ⟨?_, h.one⟩
  obtain ⟨c1, rfl, q0, _, _⟩ := h
  have t := (CF.app (RGl.cf q0).1 (CF.cons (FV.int .i64 x.id) (CF.cons (FV.int .i64 x.occ) CF.nil)))
  exact t
theorem RFm.fv {M : Hp} {c : List Value} {x : Fm} (h : RFm M c x) : FV M x.av (.agg c.toArray) := h.cf.1.agg h.cf.2

def Ev.av (x : Ev) : AV := .agg [.int .i64 x.kind, .int .i64 x.id, .int .i64 x.occ, .int .i64 x.rule, .sl .no (x.ids.map intA)]
theorem REv.cf {M : Hp} {c : List Value} {x : Ev} (h : REv M c x) : CF M x.av.cells c ∧ ∀ u ∈ c, u.oneCell' = true := by
  refine ⟨?_, h.one⟩
  obtain ⟨a1, k1, rfl, _, _, _, _, q4, q5⟩ := h
  exact (.cons (.int .i64 x.kind) (.cons (.int .i64 x.id) (.cons (.int .i64 x.occ) (.cons (.int .i64 x.rule) (.cons (q5.fv q4 (fun _ _ _ hc => RInt.cf hc)) .nil)))))
theorem Ev.good {x : Ev} (h : x.av.good) : x.ids.length ≤ 140737488355328 := (good_sla (good_agg h (.sl .no (x.ids.map intA)) (by simp))).1
theorem REv.fv {M : Hp} {c : List Value} {x : Ev} (h : REv M c x) : FV M x.av (.agg c.toArray) := h.cf.1.agg h.cf.2

def Pl.av (x : Pl) : AV := .agg [.int .i64 x.occ.rule, .int .i64 x.occ.head, .bool x.occ.kept, .sl .no (x.order.map intA), .sl .no (x.known.map (slA intA)), .sl .no (x.tests.map (slA intA))]
theorem RPl.cf {M : Hp} {c : List Value} {x : Pl} (h : RPl M c x) : CF M x.av.cells c ∧ ∀ u ∈ c, u.oneCell' = true := by
  refine ⟨?_, h.one⟩
  obtain ⟨c1, a2, k2, a3, k3, a4, k4, rfl, q0, q1, q2, q3, q4, q5, q6⟩ := h
  have t := (CF.app (ROc.cf q0).1 (CF.cons (q2.fv q1 (fun _ _ _ hc => RInt.cf hc)) (CF.cons (q4.fv q3 (fun _ _ _ hc => RSl.cf hc (fun _ _ _ hc => RInt.cf hc))) (CF.cons (q6.fv q5 (fun _ _ _ hc => RSl.cf hc (fun _ _ _ hc => RInt.cf hc))) CF.nil))))
  exact t
theorem Pl.good {x : Pl} (h : x.av.good) : x.order.length ≤ 140737488355328 ∧ (x.known.length ≤ 140737488355328 ∧ ∀ y ∈ x.known, (slA intA y).good) ∧ (x.tests.length ≤ 140737488355328 ∧ ∀ y ∈ x.tests, (slA intA y).good) := ⟨(good_sla (good_agg h (.sl .no (x.order.map intA)) (by simp))).1, good_sla (good_agg h (.sl .no (x.known.map (slA intA))) (by simp)), good_sla (good_agg h (.sl .no (x.tests.map (slA intA))) (by simp))⟩
theorem RPl.fv {M : Hp} {c : List Value} {x : Pl} (h : RPl M c x) : FV M x.av (.agg c.toArray) := h.cf.1.agg h.cf.2

def Ac.av (x : Ac) : AV := .agg [.str x.name, .int .i64 x.arity, .sl .no (x.positions.map intA)]
theorem RAc.cf {M : Hp} {c : List Value} {x : Ac} (h : RAc M c x) : CF M x.av.cells c ∧ ∀ u ∈ c, u.oneCell' = true := by
  refine ⟨?_, h.one⟩
  obtain ⟨a1, k1, rfl, q0, _, q2, q3⟩ := h
  exact (.cons (.str x.name q0) (.cons (.int .i64 x.arity) (.cons (q3.fv q2 (fun _ _ _ hc => RInt.cf hc)) .nil)))
theorem Ac.good {x : Ac} (h : x.av.good) : x.name.size ≤ 140737488355328 ∧ x.positions.length ≤ 140737488355328 := ⟨good_str (good_agg h (.str x.name) (by simp)), (good_sla (good_agg h (.sl .no (x.positions.map intA)) (by simp))).1⟩
theorem RAc.fv {M : Hp} {c : List Value} {x : Ac} (h : RAc M c x) : FV M x.av (.agg c.toArray) := h.cf.1.agg h.cf.2

def Ky.av (x : Ky) : AV := .agg [.str x.name, .int .i64 x.arity, .sl .no (x.positions.map intA)]
theorem RKy.cf {M : Hp} {c : List Value} {x : Ky} (h : RKy M c x) : CF M x.av.cells c ∧ ∀ u ∈ c, u.oneCell' = true := by
  refine ⟨?_, h.one⟩
  obtain ⟨a1, k1, rfl, q0, _, q2, q3⟩ := h
  exact (.cons (.str x.name q0) (.cons (.int .i64 x.arity) (.cons (q3.fv q2 (fun _ _ _ hc => RInt.cf hc)) .nil)))
theorem Ky.good {x : Ky} (h : x.av.good) : x.name.size ≤ 140737488355328 ∧ x.positions.length ≤ 140737488355328 := ⟨good_str (good_agg h (.str x.name) (by simp)), (good_sla (good_agg h (.sl .no (x.positions.map intA)) (by simp))).1⟩
theorem RKy.fv {M : Hp} {c : List Value} {x : Ky} (h : RKy M c x) : FV M x.av (.agg c.toArray) := h.cf.1.agg h.cf.2

def Ak.av (x : Ak) : AV := .agg [.int .i64 x.rule, .int .i64 x.head, .sl .no (x.done.map intA)]
theorem RAk.cf {M : Hp} {c : List Value} {x : Ak} (h : RAk M c x) : CF M x.av.cells c ∧ ∀ u ∈ c, u.oneCell' = true := by
  refine ⟨?_, h.one⟩
  obtain ⟨a1, k1, rfl, _, _, q2, q3⟩ := h
  exact (.cons (.int .i64 x.rule) (.cons (.int .i64 x.head) (.cons (q3.fv q2 (fun _ _ _ hc => RInt.cf hc)) .nil)))
theorem Ak.good {x : Ak} (h : x.av.good) : x.done.length ≤ 140737488355328 := (good_sla (good_agg h (.sl .no (x.done.map intA)) (by simp))).1
theorem RAk.fv {M : Hp} {c : List Value} {x : Ak} (h : RAk M c x) : FV M x.av (.agg c.toArray) := h.cf.1.agg h.cf.2

def Ct.av (x : Ct) : AV := .agg [.sl .no (x.rules.map intA), .int .i64 x.tried, .int .i64 x.goals, .int .i64 x.steps]
theorem RCt.cf {M : Hp} {c : List Value} {x : Ct} (h : RCt M c x) : CF M x.av.cells c ∧ ∀ u ∈ c, u.oneCell' = true := by
  refine ⟨?_, h.one⟩
  obtain ⟨a1, k1, rfl, q0, q1, _, _, _⟩ := h
  exact (.cons (q1.fv q0 (fun _ _ _ hc => RInt.cf hc)) (.cons (.int .i64 x.tried) (.cons (.int .i64 x.goals) (.cons (.int .i64 x.steps) .nil))))
theorem Ct.good {x : Ct} (h : x.av.good) : x.rules.length ≤ 140737488355328 := (good_sla (good_agg h (.sl .no (x.rules.map intA)) (by simp))).1
theorem RCt.fv {M : Hp} {c : List Value} {x : Ct} (h : RCt M c x) : FV M x.av (.agg c.toArray) := h.cf.1.agg h.cf.2

end Go.CK

set_option linter.unusedSimpArgs false
set_option linter.unusedVariables false
namespace Go.AM
open Go.CK Go.RowKit

def scalar : AV → Bool
  | .bool _ => true
  | .int _ _ => true
  | .str _ => true
  | _ => false
/-- what reads as x reads as y too, as long as nothing is written -/
def Vw (bs : List Box) (x y : AV) : Prop := ∀ (E : Entry) (G : Gh) (a : Act) (w : World) (lo : Nat), RS E G ⟨[], bs, lo⟩ a w → ∀ v, RV G.M G.σ bs.length x v → RV (Hp.of w) G.σ 0 y v
theorem Vw.same {bs : List Box} {x : AV} (h : x.flat = true) : Vw bs x x := fun _ _ _ _ _ hs _ hv => .flat ((hv.toFV h).mono hs.ok)
theorem Vw.func {bs : List Box} {f : Fn} : Vw bs (.fn f [] []) (.fn f [] []) := fun _ _ _ _ _ hs _ hv => by
  obtain ⟨us, vs, rfl, h1, h2, _, _⟩ := hv.inv_fn
  exact .fn f [] [] us vs h1 h2 (fun j h => by cases h) (fun j h => by cases h)
theorem Vw.row {α : Type} {f : α → AV} {z : Nat} (hp : Plain f z) {bs : List Box} {b m k : Nat} {l : List α} (hb : bs[b]? = some (rowF f z k l)) (hm : m = l.length) : Vw bs (.bsl b m k) (.sl .no (l.map f)) := fun E G a w lo hs v hv => by
  refine .flat ?_
  subst hm
  obtain ⟨ad, rfl, hbl, hmk, hml, had⟩ := hv.inv_bsl
  have hz : ∀ y ∈ l.map f, y.cells.length = z := fun y hy => by obtain ⟨x, _, rfl⟩ := List.mem_map.1 hy; exact hp.sz x
  have hlm : (l.map f).length = l.length := by simp
  by_cases hk : k = 0
  · subst hk
    have hl : l = [] := List.eq_nil_of_length_eq_zero (by omega)
    subst hl
    exact FV.mk_sl (l := []) (B := 0) (off := 0) (sz := z) (by simp) (Nat.le_refl _) (Nat.zero_le _) (by simp) (fun h => absurd rfl h) (fun i hi => by cases hi)
  · have hne : cellsOf (l.map f) ++ List.replicate ((k - l.length) * z) .top ≠ [] := fun e => by
      have := congrArg List.length e
      rw [List.length_append, hp.len, List.length_replicate, ← Nat.add_mul, List.length_nil] at this
      have h2 : 0 < (l.length + (k - l.length)) * z := Nat.mul_pos (by omega) hp.pos
      omega
    have hbc : boxCells bs b = some (cellsOf (l.map f) ++ List.replicate ((k - l.length) * z) .top) := rowAt_cells (rowAt_row hb) hne
    rw [had hk]
    have hel : Elems (Hp.of w) (G.σ b) 0 z (l.map f) := Elems.ofCells (p := List.replicate ((k - l.length) * z) .top) hz fun j hj => by
      obtain ⟨u, h1, h2, h3⟩ := hs.bval (s := ⟨[], bs, lo⟩) hbc j hj
      refine ⟨u, by rw [Nat.zero_add]; exact h1, h2, ?_⟩
      have hc : (cellsOf (l.map f) ++ List.replicate ((k - l.length) * z) AV.top)[j].deown = (cellsOf (l.map f) ++ List.replicate ((k - l.length) * z) AV.top)[j] ∧ (cellsOf (l.map f) ++ List.replicate ((k - l.length) * z) AV.top)[j].flat1 = true := by
        have := List.getElem_mem hj
        rcases List.mem_append.1 this with hx | hx
        · exact hp.mem hx
        · rw [(List.mem_replicate.1 hx).2]; exact ⟨rfl, rfl⟩
      rw [hc.1] at h3
      exact (h3.flat1 hc.2).mono hs.ok
    have := FV.mk_sl (M := Hp.of w) (o := .no) (l := l.map f) (a := some ⟨G.σ b, 0, none⟩) (k := k) (B := G.σ b) (off := 0) (sz := z) (by simp) (by rw [hlm]; exact hmk) (by rw [hlm];first|exact hml|exact glim_le hml) (by simp) (fun _ => rfl) hel
    rw [hlm] at this
    exact this
inductive Vws (bs : List Box) : List AV → List AV → Prop
  | nil : Vws bs [] []
  | cons {x y : AV} {xs ys : List AV} (h : Vw bs x y) (k : Vws bs xs ys) : Vws bs (x :: xs) (y :: ys)
theorem Vws.len {bs : List Box} {xs ys : List AV} (h : Vws bs xs ys) : ys.length = xs.length := by
  induction h with
  | nil => rfl
  | cons _ _ ih => simp [ih]
theorem Vws.get {bs : List Box} {xs ys : List AV} (h : Vws bs xs ys) : ∀ j (hj : j < xs.length) (hj' : j < ys.length), Vw bs xs[j] ys[j] := by
  induction h with
  | nil => intro j hj; cases hj
  | cons h _ ih =>
    intro j hj hj'
    cases j with
    | zero => exact h
    | succ j => exact ih j (by simpa using hj) (by simpa using hj')
theorem Fun.view {P : Program} {f : FuncId} {vals vals' : List AV} {r : AV} {bs : List Box} (h : Fun P f vals' r) (hr : scalar r = true) (hv : Vws bs vals vals') : Sem P f vals bs fun r' bs' => r' = r ∧ bs' = bs := by
  intro E G a0 w args lo hpre hl hval
  have h0 : RS ⟨fun _ => False, Hp.of w, w, 0, 0, G.σ⟩ ⟨Hp.of w, G.σ, fun _ => none⟩ ⟨[], [], 0⟩ ⟨#[], []⟩ w := by
    have hat : ∀ p x, (⟨[], [], 0⟩ : St).at p = some x → False := fun p x hp => by
      cases p with
      | sl t => simp [St.at, envGet] at hp
      | bx b j => simp [St.at, boxCells] at hp
    have hbx : ∀ b cs, boxCells ([] : List Box) b = some cs → False := fun b cs hb => by simp [boxCells] at hb
    exact ⟨Fr.refl _ _ _, Hp.le_refl _, rfl, fun p x hp => (hat p x hp).elim, fun b j x hp => (hat _ x hp).elim, fun b cs hb => (hbx b cs hb).elim, fun b cs hb => (hbx b cs hb).elim, fun b b' cs cs' hb _ _ => (hbx b cs hb).elim, fun p z l hp => (hat p _ hp).elim, (fun p q B hp => by cases hp), (fun p B hp => by cases hp), (fun p B hp => by cases hp), rfl, Nat.le_refl _, (fun b hb => by cases hb), Sp.none _ _ _ _ _ _⟩
  refine (h [] _ _ _ w args 0 h0 (by rw [hl, hv.len]) (fun j hj v hjv => ?_)).mono ?_
  · have hj2 : j < vals.length := by rw [← hv.len]; exact hj
    exact hv.get j hj2 hj E G a0 w lo hpre v (hval j hj2 v hjv)
  · rintro e w' ⟨v, r', bs', G', rfl, ⟨rfl, _⟩, h'⟩
    refine ⟨v, r', bs, ⟨G.M, G.σ, fun p => match p with | .sl _ => none | .bx b j => G.cl (.bx b j)⟩, rfl, ⟨rfl, rfl⟩, ?_⟩
    have hno : ∀ B, ¬ FPof ⟨Hp.of w, G.σ, fun _ => none⟩ [] B := fun B hB => by
      rcases hB with ⟨b, cs, hb, _⟩ | ⟨b, j, hb⟩ | ⟨b, x, hb, _⟩
      · simp [boxCells] at hb
      · cases hb
      · exact boxLoop_nil hb
    have hfr : Fr (FPof ⟨Hp.of w, G.σ, fun _ => none⟩ []) (Hp.of w) w G'.M w' := h'.fr
    have hat0 : (⟨[(0, r')], bs', ([] : List Box).length⟩ : St).at (.sl 0) = some r' := rfl
    have hatc : ∀ p x, (⟨[(0, r')], bs, bs.length⟩ : St).at p = some x → (p = .sl 0 ∧ x = r') ∨ (∃ b j, p = .bx b j ∧ (⟨[], bs, lo⟩ : St).at (.bx b j) = some x) := fun p x hp => by
      cases p with
      | sl t =>
        simp only [St.at, envGet] at hp
        split at hp
        · rename_i hb
          have := Nat.eq_of_beq_eq_true hb
          subst this
          cases hp
          exact .inl ⟨rfl, rfl⟩
        · cases hp
      | bx b j => exact .inr ⟨b, j, rfl, hp⟩
    have hbv : ∀ b j x, (⟨[], bs, lo⟩ : St).at (.bx b j) = some x → valAt G.σ ⟨#[v], []⟩ w' (.bx b j) = valAt G.σ a0 w (.bx b j) := fun b j x hx => by
      simp only [St.at] at hx
      cases hb : boxCells bs b with
      | none => rw [hb] at hx; cases hx
      | some cs => simp only [valAt]; rw [cell_heap (hfr.heap _ (hpre.blt hb) (hno _))]
    have hrv : RV G.M G.σ bs.length r'.deown v := by
      have h1 := h'.val _ _ hat0
      cases r' with
      | bool b => exact .flat (by have := h1.inv_bool; rw [show v = .bool b from this]; exact .bool b)
      | int k n => exact .flat (by have := h1.inv_int; rw [show v = .int k n from this]; exact .int k n)
      | str s => exact .flat (by have := h1.inv_str; rw [show v = .string s from this.1]; exact .str s this.2)
      | _ => cases hr
    refine ⟨⟨hfr.os, hfr.tape, hfr.output, hfr.size, Hp.le_refl _, fun B hB _ => hfr.heap B hB (hno B), fun B hB _ _ => rfl⟩, Hp.le_trans hpre.ok (Hp.le_trans hfr.le h'.ok), rfl, fun p x hp => ?_, fun b j x hp => ?_, fun b cs hb => ?_, fun b cs hb => ?_, hpre.inj, fun p z l hp => ?_, fun p q B hp hq' => ?_, fun p B hB b cs hb => ?_, fun p B hB => ?_, rfl, Nat.le_refl _, fun _ _ => rfl, ?_⟩
    · rcases hatc p x hp with ⟨rfl, rfl⟩ | ⟨b, j, rfl, hx⟩
      · exact hrv
      · show RV G.M G.σ bs.length x.deown _
        rw [hbv b j x hx]
        exact hpre.val _ _ hx
    · rcases hatc _ x hp with ⟨e, _⟩ | ⟨b', j', e, hx⟩
      · cases e
      · cases e
        show (valAt G.σ _ w' _).oneCell' = true
        rw [hbv b j x hx]; exact hpre.one _ _ _ hx
    · obtain ⟨vs, T, h1, h2⟩ := hpre.box b cs hb
      exact ⟨vs, T, (hfr.heap _ (hpre.blt hb) (hno _)).trans h1, h2⟩
    · obtain ⟨h1, _⟩ := hpre.bmem b cs hb
      exact ⟨h1, .inl (.inl ⟨b, cs, hb, rfl⟩)⟩
    · rcases hatc p _ hp with ⟨rfl, hx⟩ | ⟨b, j, rfl, hx⟩
      · subst hx; cases hr
      · obtain ⟨ad, k, h1, h2, h3⟩ := hpre.own _ _ _ hx
        refine ⟨ad, k, (hbv b j _ hx).trans h1, h2, ?_⟩
        rcases h3 with h3 | ⟨B, hB, h4, h5⟩
        · exact .inl h3
        · have hlt := (hpre.cllt _ B hB).1
          obtain ⟨vs, T, h6, h7⟩ := h5.cells
          exact .inr ⟨B, hB, h4, h5.lt, ⟨vs, T, (hfr.heap B hlt (hno B)).trans h6, h7⟩, h5.free, .inl (.inr (.inl ⟨b, j, hB⟩))⟩
    · cases p with
      | sl t => cases hp
      | bx b j =>
        cases q with
        | sl u => cases hq'
        | bx b' j' => exact hpre.clinj _ _ B hp hq'
    · cases p with
      | sl t => cases hB
      | bx b' j' => exact hpre.clbox _ B hB b cs hb
    · cases p with
      | sl t => cases hB
      | bx b' j' => exact ⟨Nat.lt_of_lt_of_le (hpre.cllt _ B hB).1 hfr.size, .inl (.inr (.inl ⟨b', j', hB⟩))⟩
    · refine ⟨fun B o hs => ?_, fun b x hb => ?_, hpre.sp.inj, [], rfl, .nil⟩
      · rcases hs with ⟨b, x, hb, e, ho⟩ | ⟨hmem, _⟩
        · obtain ⟨h1, h2, _⟩ := hpre.sp.ob B o (.inl ⟨b, x, hb, e, ho⟩)
          have hlt := (Array.getElem?_eq_some_iff.1 h1).1
          refine ⟨(hfr.heap B hlt (hno B)).trans h1, fun p hp => ?_, .inl (.inr (.inr ⟨b, x, hb, e⟩))⟩
          cases p with
          | sl t => cases hp
          | bx b' j' => exact h2 _ hp
        · cases hmem
      · exact hpre.sp.base b x hb
theorem CallN.view {P : Program} {f : FuncId} {vals raw vals' : List AV} {r : AV} {bs : List Box} {K : AV → List Box → Prop} (h : Fun P f vals' r) (hr : scalar r = true) (hv : Vws bs raw vals') (hK : K r bs) : CallN P f vals raw bs K :=
  .raw (h.view hr hv) fun r' bs' ⟨e1, e2⟩ => by subst e1 e2; exact hK
/-- what is handed in is there -/
theorem Sem.assume {P : Program} {f : FuncId} {vals : List AV} {bs : List Box} {Q : AV → List Box → Prop} (h : (∀ x ∈ vals, x.flat = true → x.good) → (∀ cs, AV.ept cs ∈ vals → ∀ c ∈ cs, c.good) → Sem P f vals bs Q) : Sem P f vals bs Q := fun E G a0 w args lo h1 h2 h3 => by
  refine h (fun x hx hf => ?_) (fun cs hx c hc => ?_) E G a0 w args lo h1 h2 h3
  · obtain ⟨j, hj, rfl⟩ := List.getElem_of_mem hx
    exact ⟨G.M, _, (h3 j hj _ (List.getElem?_eq_getElem (by omega))).toFV hf⟩
  · obtain ⟨j, hj, e⟩ := List.getElem_of_mem hx
    have hv := h3 j hj _ (List.getElem?_eq_getElem (by omega))
    rw [e] at hv
    obtain ⟨B, off, _, hcs⟩ := hv.inv_ept
    obtain ⟨i, hi, rfl⟩ := List.getElem_of_mem hc
    obtain ⟨v, _, _, h6⟩ := hcs i hi
    exact ⟨G.M, v, h6⟩
/-- elements put behind nothing: a row -/
theorem AppN.nilRow {α : Type} {f : α → AV} {z : Nat} (hp : Plain f z) {e : List (Nat × AV)} {bs : List Box} {lo : Nat} {l' : List α} {o : Cap} {K : AV → St → Prop} (hlim : l'.length ≤ 4294967296)
    (h : ∀ k', l'.length ≤ k' → K (.bsl bs.length l'.length k') ⟨e, bs ++ [rowF f z k' l'], lo⟩) : AppN z ⟨e, bs, lo⟩ (.sl .full []) (.sl o (l'.map f)) K := by
  refine ⟨?_⟩
  unfold appB
  simp only [srcK, elsK]
  refine ⟨fun y hy => by obtain ⟨x, _, rfl⟩ := List.mem_map.1 hy; exact hp.sz x, ?_⟩
  rw [List.length_map]
  refine ⟨⟨hp.pos, by simp, by omega, fun x hx => by simp at hx⟩, fun k' hk' => ?_⟩
  have := h k' (by omega)
  simp only [rowF, killO, Nat.zero_add, List.take_nil, List.nil_append] at this ⊢
  exact this
theorem setLast2 {α : Type} (own : List α) (x y c : α) : ((own ++ [x]) ++ [c]).set own.length y = (own ++ [y]) ++ [c] := by simp
/-- the cells of a row hold no box -/
theorem row_all {α : Type} {f : α → AV} {z : Nat} (hp : Plain f z) (l : List α) (q n : Nat) : (cellsOf (l.map f) ++ List.replicate q AV.top).all (fun x => x.lt n) = true := List.all_eq_true.2 fun x hx => (hp.rowOk l q n x hx).2
theorem row_allI (l : List Int) (q n : Nat) : (cellsOf (l.map (AV.int .i64)) ++ List.replicate q AV.top).all (fun x => x.lt n) = true := row_all plainI l q n
theorem row_allB (l : List Bool) (q n : Nat) : (cellsOf (l.map AV.bool) ++ List.replicate q AV.top).all (fun x => x.lt n) = true := row_all plainB l q n
theorem bLtRow {n : Nat} {cs : List AV} {r : List Box} (h : cs.all (fun x => x.lt n) = true) (k : boxesLt n r = true) : boxesLt n (.row cs :: r) = true := by simp only [boxesLt, h, k, Bool.and_self]
theorem bLtCells {n : Nat} {cs : List AV} {r : List Box} (h : cs.all (fun x => x.lt n) = true) (k : boxesLt n r = true) : boxesLt n (.cells cs :: r) = true := by simp only [boxesLt, h, k, Bool.and_self]
end Go.AM

