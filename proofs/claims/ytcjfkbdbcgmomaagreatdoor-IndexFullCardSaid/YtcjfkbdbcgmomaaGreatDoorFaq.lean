/-
  Texts of this claim joined (wip/gen/bundle.py), those declarations only that are needed: AmRw Term Data Av AmVw AmTa Cmp TrmA TrmB TrmC Vars VarsB RcUni RcAsk RcPla RcLkp AmDf. By an AI agent.
-/
import Derived.Test.YtcjfkbdbcgmomaaGreatDoorFap
import Derived.Test.YtcjfkbdbcgmomaaGreatDoorFaa
import Derived.Test.YtcjfkbdbcgmomaaGreatDoorProg
import Derived.RangeFuncLeaves
set_option linter.unusedSimpArgs false
set_option linter.unusedVariables false
namespace Go.AM
open Go.CK Go.RowKit
def rowF {α : Type} (f : α -> AV) (z k : Nat) (l : List α) : Box := .row (cellsOf (l.map f) ++ List.replicate ((k - l.length) * z) .top)
structure Plain {α : Type} (f : α -> AV) (z : Nat) : Prop where
 pos : 0 < z
 sz : ∀ x, (f x).cells.length = z
 de : ∀ x, ∀ c ∈ (f x).cells, c.deown = c
 flat : ∀ x, ∀ c ∈ (f x).cells, c.flat1 = true
theorem mem_cellsOf : ∀ {l : List AV} {c : AV}, c ∈ cellsOf l -> ∃ x ∈ l, c ∈ x.cells
 | [], _, h => by cases h
 | x :: l, c, h => by
  rcases List.mem_append.1 h with h | h
  ·exact ⟨x, by simp, h⟩
  ·obtain ⟨y, h1, h2⟩ := mem_cellsOf h; exact ⟨y, by simp [h1], h2⟩
section
variable {α : Type} {f : α -> AV} {z : Nat}
theorem Plain.len (h : Plain f z) (l : List α) : (cellsOf (l.map f)).length = l.length * z := by
 rw [cellsOf_length (z := z) fun y hy => by obtain ⟨x, _, rfl⟩ := List.mem_map.1 hy; exact h.sz x, List.length_map]
theorem Plain.mem (h : Plain f z) {l : List α} {c : AV} (hc : c ∈ cellsOf (l.map f)) : c.deown = c ∧ c.flat1 = true := by
 obtain ⟨y, h1, h2⟩ := mem_cellsOf hc; obtain ⟨x, _, rfl⟩ := List.mem_map.1 h1; exact ⟨h.de x c h2, h.flat x c h2⟩
theorem Plain.take (h : Plain f z) (l : List α) (p : List AV) : (cellsOf (l.map f) ++ p).take (l.length * z) = cellsOf (l.map f) := by
 rw [← h.len l]; simp
theorem rowAt_row {bs : List Box} {b : Nat} {cs : List AV} (h : bs[b]? = some (.row cs)) : rowAt bs b = some cs := by
 unfold rowAt; rw [h]
theorem srcK_row {bs : List Box} {b m k : Nat} {cs : List AV} {K : Nat -> Nat -> List AV -> Option Nat -> Prop} (h : bs[b]? = some (.row cs)) (k' : K m k cs (some b)) : srcK bs (.bsl b m k) K := by
 simp only [srcK, rowAt_row h]; exact k'
theorem AppN.row (hp : Plain f z) {e : List (Nat × AV)} {bs : List Box} {lo : Nat} {b m k : Nat} {l l' : List α} {o : Cap} {K : AV -> St -> Prop} (hb : bs[b]? = some (rowF f z k l)) (hm : m = l.length) (hk : m ≤ k) (hlim : m + l'.length ≤ 4294967296)
  (h : ∀ k', (l ++ l').length ≤ k' -> K (.bsl bs.length (l ++ l').length k') ⟨e, bs.set b .dead ++ [rowF f z k' (l ++ l')], lo⟩) : AppN z ⟨e, bs, lo⟩ (.bsl b m k) (.sl o (l'.map f)) K := by
 subst hm; refine ⟨srcK_row hb ?_⟩; refine ⟨fun y hy => by obtain ⟨x, _, rfl⟩ := List.mem_map.1 hy; exact hp.sz x, ?_⟩
 rw [List.length_map]; refine ⟨⟨hp.pos, ?_, hlim, fun x hx => ?_⟩, fun k' hk' => ?_⟩
 ·rw [List.length_append, hp.len, List.length_replicate, ← Nat.add_mul]; exact Nat.mul_le_mul_right _ (by omega)
 ·rw [hp.take] at hx; exact (hp.mem hx).1
 ·rw [hp.take, ← List.append_assoc, ← cellsOf_append, ← List.map_append]; have := h k' (by simpa using hk')
  simp only [List.length_append] at this; unfold rowF at this; simp only [List.length_append] at this; exact this
theorem MkN.row (hp : Plain f z) (x : α) {e : List (Nat × AV)} {bs : List Box} {lo : Nat} {ik jk : IntKind} {n m : Int} {K : AV -> St -> Prop} (hn : 0 ≤ n ∧ n ≤ m ∧ m ≤ 4294967296) (h : K (.bsl bs.length n.toNat m.toNat) ⟨e, bs ++ [rowF f z m.toNat (List.replicate n.toNat x)], lo⟩) : MkN z (f x) ⟨e, bs, lo⟩ (.int ik n) (.int jk m) K := by
 refine ⟨⟨⟨hp.pos, hn⟩, ?_⟩⟩; simpa only [rowF, List.map_replicate, List.length_replicate] using h
theorem RS.rowNil {E : Entry} {G : Gh} {s : St} {a : Act} {w : World} (h : RS E G s a w) : RS E G ⟨s.env, s.bs ++ [.row []], s.lo⟩ a w := by
 have := h.reb (bs' := s.bs ++ [.row []]) (σ' := G.σ) id (by simp) (fun _ _ => rfl) (fun b x hb => boxLoop_append rfl hb) (fun b cs' hc => by
  rw [boxCells_append] at hc; split at hc
  ·cases hc
  ·exact ⟨cs', hc, rfl, Nat.le_refl _, fun j x hx => .inr ⟨hx, .inl rfl⟩⟩) (fun b b' _ _ _ _ e => e)
 exact this
theorem Weak.toRow (s : St) (t : Nat) (h0 : envGet s.env t = some (.sl .full [])) : Weak s ⟨envPut s.env t (.bsl s.bs.length 0 0), s.bs ++ [.row []], s.lo⟩ := fun E G a w hs => by
 have h1 := hs.rowNil; have hat : (⟨s.env, s.bs ++ [.row []], s.lo⟩ : St).at (.sl t) = some (.sl .full []) := h0; have hv := h1.val _ _ hat; simp only [AV.deown] at hv; refine ⟨G, h1.upd (q := .sl t) hat ?_⟩; obtain ⟨ad, kk, B, off, sz', e1, _, _, _, e2, _⟩ := hv.inv_sl; have := e2 rfl; subst this; rw [e1]; exact .bsl _ _ _ _ (by simp) (Nat.le_refl _) (Nat.zero_le _) (fun h => absurd rfl h)
theorem RetP.toRow {s : St} {rs : List RRes} {Q : AV -> List Box -> Prop} (k : Nat) (h0 : envGet s.env k = some (.sl .full [])) (h : RetP ⟨envPut s.env k (.bsl s.bs.length 0 0), s.bs ++ [.row []], s.lo⟩ rs Q) : RetP s rs Q := by
 obtain ⟨s', h3, h4⟩ := h.out; exact ⟨s', (Weak.toRow s k h0).trans h3, h4⟩
theorem Elems.ofCells {M : Hp} {B : Nat} {L : List AV} {p : List AV} (hz : ∀ y ∈ L, y.cells.length = z) (h : Cells M B 0 (cellsOf L ++ p)) : Elems M B 0 z L := fun i hi => by
 have hl := cellsOf_length hz; have hc := hz _ (List.getElem_mem hi); refine ⟨hc, fun j hj => ?_⟩
 have hij : i * z + j < (cellsOf L).length := by
  rw [hl]; have := Nat.mul_le_mul_right z hi; rw [Nat.succ_mul] at this; omega
 obtain ⟨v, h1, h2, h3⟩ := h (i * z + j) (by rw [List.length_append]; omega)
 refine ⟨v, ?_, h2, ?_⟩
 ·rw [Nat.zero_add] at h1 ⊢; exact h1
 ·rw [List.getElem_append_left hij] at h3; have hg := cellsOf_get hz i hi j (by omega)
  rw [List.getElem?_eq_getElem hij, List.getElem?_eq_getElem hj] at hg; rw [← Option.some.inj hg]; exact h3
end
section
variable {E : Entry} {G : Gh} {s : St} {a : Act} {w : World}
end
theorem RetP.slot {s : St} {t : Nat} {Q : AV -> List Box -> Prop} (h : Q (s.get t) s.bs) : RetP s [.slot t] Q := ⟨s, Weak.refl s, .inl h⟩
theorem plainI : Plain (AV.int .i64) 1 := ⟨Nat.zero_lt_one, fun _ => rfl, fun x c h => by simp [AV.cells] at h; subst h; rfl, fun x c h => by simp [AV.cells] at h; subst h; rfl⟩
theorem cells_one {α : Type} {f : α -> AV} (hf : ∀ x, (f x).cells = [f x]) (l : List α) : cellsOf (l.map f) = l.map f := by
 induction l with
 | nil => rfl
 | cons x l ih => rw [List.map_cons, cellsOf, ih, hf]; rfl
theorem rowO_cells {α : Type} {f : α -> AV} (hf : ∀ x, (f x).cells = [f x]) {bs : List Box} {b k i : Nat} {l : List α} {x : α} (hb : bs[b]? = some (rowF f 1 k l)) (hx : l[i]? = some x) : boxCells bs b = some (l.map f ++ List.replicate (k - l.length) AV.top) := by
 have hrow : bs[b]? = some (.row (l.map f ++ List.replicate (k - l.length) AV.top)) := by
  rw [hb]; simp only [rowF, cells_one hf, Nat.mul_one]
 refine rowAt_cells (rowAt_row hrow) fun e => ?_; have := congrArg List.length e; rw [List.length_append, List.length_map, List.length_nil] at this; have hi := (List.getElem?_eq_some_iff.1 hx).1; omega
theorem ElN.one {α : Type} {f : α -> AV} (hf : ∀ x, (f x).cells = [f x] ∧ (f x).deown = f x) {e : List (Nat × AV)} {bs : List Box} {lo b k i : Nat} {l : List α} {x : α} {K : AV -> Prop} (hb : bs[b]? = some (rowF f 1 k l)) (hx : l[i]? = some x) (h : K (f x)) : ElN false 1 ⟨e, bs, lo⟩ (.elp b i 1 0) K := by
 refine ⟨?_⟩; have hi := (List.getElem?_eq_some_iff.1 hx).1; simp only [St.rd, rowO_cells (fun x => (hf x).1) hb hx, Nat.mul_one, Nat.add_zero]; rw [List.drop_append_of_le_length (by rw [List.length_map]; omega), ← List.map_drop, List.drop_eq_getElem_cons hi, (List.getElem?_eq_some_iff.1 hx).2]
 simp only [List.map_cons, List.cons_append, loadK, (hf x).2]; exact h
theorem RS.thaw {α : Type} {f : α -> AV} {z : Nat} (hp : Plain f z) {E : Entry} {G : Gh} {s : St} {a : Act} {w : World} (hs : RS E G s a w) {b k0 : Nat} {l : List α} (hb : s.bs[b]? = some (rowF f z k0 l)) :
  ∃ G', RS E G' ⟨s.env, s.bs.set b .dead, s.lo⟩ a w ∧ G'.σ = G.σ ∧ ∀ (m k : Nat) (v : Value), m ≤ l.length -> RV G.M G.σ s.bs.length (.bsl b m k) v -> FV G'.M (.sl .no ((l.take m).map f)) v := by
 have hz : ∀ y ∈ l.map f, y.cells.length = z := fun y hy => by obtain ⟨x, _, rfl⟩ := List.mem_map.1 hy; exact hp.sz x
 by_cases hne : cellsOf (l.map f) ++ List.replicate ((k0 - l.length) * z) AV.top = []
 ·have hl : l = [] := by
   have := congrArg List.length hne; rw [List.length_append, hp.len, List.length_nil] at this; have h0 := hp.pos
   cases l with
   | nil => rfl
   | cons x l => simp only [List.length_cons, Nat.succ_mul] at this; omega
  subst hl
  have h1 := hs.reb (bs' := s.bs.set b .dead) (σ' := G.σ) id (by simp) (fun _ _ => rfl) (fun c x hc => boxLoop_kill hc) (fun c cs' hc => by
   rw [boxCells_setDead] at hc; split at hc
   ·cases hc
   ·exact ⟨cs', hc, rfl, Nat.le_refl _, fun j x hx => .inr ⟨hx, .inl rfl⟩⟩) (fun b b' _ _ _ _ e => e)
  refine ⟨_, h1, rfl, fun m k v hm hv => ?_⟩; simp only [List.length_nil, Nat.le_zero] at hm; subst hm; obtain ⟨ad, rfl, _, _, _, _⟩ := hv.inv_bsl; exact FV.mk_sl (l := []) (B := 0) (off := 0) (sz := z) (by simp) (Nat.zero_le _) (Nat.zero_le _) (by simp) (fun h => absurd rfl h) (fun i hi => by cases hi)
 ·have hbc : boxCells s.bs b = some (cellsOf (l.map f) ++ List.replicate ((k0 - l.length) * z) .top) := rowAt_cells (rowAt_row hb) hne
  obtain ⟨G', h1, h2, h3⟩ := hs.dead hbc (fun x hx => by
   rcases List.mem_append.1 hx with hx | hx
   ·exact (hp.mem hx).2
   ·rw [(List.mem_replicate.1 hx).2]; rfl)
  refine ⟨G', h1, h2, fun m k v hm hv => ?_⟩; obtain ⟨ad, rfl, _, hmk, hml, had⟩ := hv.inv_bsl; have he := elems_slice (Elems.ofCells hz h3) 0 m (by simpa using hm)
  simp only [Nat.zero_mul, Nat.add_zero, List.drop_zero, ← List.map_take] at he; have hlen : ((l.take m).map f).length = m := by simp; omega
  have := FV.mk_sl (M := G'.M) (o := .no) (l := (l.take m).map f) (a := ad) (k := k) (B := G.σ b) (off := 0) (sz := z) (by simp) (by omega) (by rw [hlen]; exact hml) (by simp) (fun h0 => had (fun e => by
   subst e; have : m = 0 := by omega
   subst this; simp at h0)) he
  rw [hlen] at this; exact this
theorem Weak.frozeBx {α : Type} {f : α -> AV} {z : Nat} (hp : Plain f z) (s : St) (c i : Nat) {cs : List AV} {b m k k0 : Nat} {l : List α} (h0 : s.bs[c]? = some (.cells cs)) (hi : cs[i]? = some (.bsl b m k)) (hb : s.bs[b]? = some (rowF f z k0 l)) (hm : m ≤ l.length) : Weak s ⟨s.env, (s.bs.set b .dead).set c (.cells (cs.set i (.sl .no ((l.take m).map f)))), s.lo⟩ := fun E G a w hs => by
 have hcb : c ≠ b := fun e => by subst e; rw [h0] at hb; cases hb
 have hbc : boxCells s.bs c = some cs := by simp only [boxCells, h0]; rfl
 have hbc' : boxCells (s.bs.set b .dead) c = some cs := by rw [boxCells_setDead, if_neg hcb]; exact hbc
 have hat : s.at (.bx c i) = some (.bsl b m k) := by simp only [St.at, hbc, Option.bind_some]; exact hi
 have hv0 := hs.val _ _ hat; have hde : (AV.bsl b m k).deown = .bsl b m k := rfl; rw [hde] at hv0; obtain ⟨G', h1, hσ, hth⟩ := hs.thaw hp hb; have hfv := hth m k _ hm hv0; have hat' : (⟨s.env, s.bs.set b .dead, s.lo⟩ : St).at (.bx c i) = some (.bsl b m k) := by simp only [St.at, hbc', Option.bind_some]; exact hi
 have h2 := h1.upd (q := .bx c i) (x := .sl .no ((l.take m).map f)) hat' (by
  show RV G'.M G'.σ _ _ (valAt G'.σ a w (.bx c i)); have hva : valAt G'.σ a w (.bx c i) = valAt G.σ a w (.bx c i) := by simp only [valAt, hσ]
  rw [hva]; exact .flat hfv)
 refine ⟨G', ?_⟩; have e : (⟨s.env, s.bs.set b .dead, s.lo⟩ : St).upd (.bx c i) (.sl .no ((l.take m).map f)) = ⟨s.env, (s.bs.set b .dead).set c (.cells (cs.set i (.sl .no ((l.take m).map f)))), s.lo⟩ := by simp only [St.upd, hbc', St.setBox]
 rw [← e]; exact h2
theorem RetP.frozeBx {α : Type} {f : α -> AV} {z : Nat} (hp : Plain f z) {s : St} (c i : Nat) {cs : List AV} {b m k k0 : Nat} {l : List α} {rs : List RRes} {Q : AV -> List Box -> Prop} (h0 : s.bs[c]? = some (.cells cs)) (hi : cs[i]? = some (.bsl b m k)) (hb : s.bs[b]? = some (rowF f z k0 l)) (hm : m ≤ l.length) (h : RetP ⟨s.env, (s.bs.set b .dead).set c (.cells (cs.set i (.sl .no ((l.take m).map f)))), s.lo⟩ rs Q) : RetP s rs Q := by
 obtain ⟨s', h3, h4⟩ := h.out; exact ⟨s', (Weak.frozeBx hp s c i h0 hi hb hm).trans h3, h4⟩
theorem NilN.no {l : List AV} {K : Bool -> Prop} (h : ∀ b, (b = true -> l = []) -> K b) : NilN l K := ⟨fun hl => h false (fun e => by cases e), fun hl b => h b fun _ => hl⟩
end Go.AM
namespace Go.CK
open Go.RowKit
inductive Tm where
 | mk (kind num : Int) (name : ByteArray) (args : List Tm)
namespace Tm
def kind : Tm -> Int | .mk k _ _ _ => k
def num : Tm -> Int | .mk _ n _ _ => n
def name : Tm -> ByteArray | .mk _ _ s _ => s
def args : Tm -> List Tm | .mk _ _ _ l => l
mutual
def beq : Tm -> Tm -> Bool
 | .mk k n s l, .mk k' n' s' l' => decide (k = k') && (decide (n = n') && (decide (s = s') && beqs l l'))
def beqs : List Tm -> List Tm -> Bool
 | [], [] => true
 | a :: l, b :: m => beq a b && beqs l m
 | _, _ => false
end
mutual
theorem beq_iff : ∀ a b : Tm, beq a b = true ↔ a = b
 | .mk k n s l, .mk k' n' s' l' => by
  simp only [beq, Bool.and_eq_true, decide_eq_true_eq, beqs_iff l l', Tm.mk.injEq]
theorem beqs_iff : ∀ l m : List Tm, beqs l m = true ↔ l = m
 | [], [] => by simp [beqs]
 | [], _ :: _ => by simp [beqs]
 | _ :: _, [] => by simp [beqs]
 | a :: l, b :: m => by simp [beqs, beq_iff a b, beqs_iff l m]
end
instance : DecidableEq Tm := fun a b => decidable_of_iff (beq a b = true) (beq_iff a b)
end Tm
mutual
theorem Tm.ind_all {p : Tm -> Prop} (h : ∀ k n s l, (∀ t ∈ l, p t) -> p (.mk k n s l)) : ∀ t, p t
 | .mk k n s l => h k n s l (Tm.ind_list h l)
theorem Tm.ind_list {p : Tm -> Prop} (h : ∀ k n s l, (∀ t ∈ l, p t) -> p (.mk k n s l)) : ∀ l : List Tm, ∀ t ∈ l, p t
 | [], _, ht => by cases ht
 | a :: l, t, ht => by
  exact (List.mem_cons.1 ht).elim (fun e => e ▸ Tm.ind_all h a) (fun h1 => Tm.ind_list h l t h1)
end
end Go.CK
namespace Go.CK
open Go.RowKit
@[ext] structure At where
 name : ByteArray
 args : List Tm
deriving DecidableEq
@[ext] structure Gl where
 op : Int
 name : ByteArray
 args : List Tm
deriving DecidableEq
@[ext] structure Dc where
 name : ByteArray
 arity : Int
deriving DecidableEq
@[ext] structure Rl where
 name : ByteArray
 keep : List At
 remove : List At
 guard : List Gl
 body : List Gl
 vars : Int
deriving DecidableEq
@[ext] structure Pg where
 decls : List Dc
 rules : List Rl
deriving DecidableEq
@[ext] structure Oc where
 rule : Int
 head : Int
 kept : Bool
deriving DecidableEq
@[ext] structure Bd where
 var : Int
 term : Tm
deriving DecidableEq
@[ext] structure It where
 id : Int
 atom : At
deriving DecidableEq
@[ext] structure Ft where
 id : Int
 atom : At
 just : List Int
deriving DecidableEq
@[ext] structure Fr where
 rule : Int
 ids : List Int
deriving DecidableEq
@[ext] structure Fm where
 goal : Gl
 id : Int
 occ : Int
deriving DecidableEq
@[ext] structure Ev where
 kind : Int
 id : Int
 occ : Int
 rule : Int
 ids : List Int
deriving DecidableEq
@[ext] structure Pl where
 occ : Oc
 order : List Int
 known : List (List Int)
 tests : List (List Int)
deriving DecidableEq
@[ext] structure Ac where
 name : ByteArray
 arity : Int
 positions : List Int
deriving DecidableEq
@[ext] structure Ky where
 name : ByteArray
 arity : Int
 positions : List Int
deriving DecidableEq
@[ext] structure Ak where
 rule : Int
 head : Int
 done : List Int
deriving DecidableEq
@[ext] structure Ct where
 rules : List Int
 tried : Int
 goals : Int
 steps : Int
deriving DecidableEq
end Go.CK
namespace Go.CK
open Go.RowKit Go.AM
abbrev intA (n : Int) : AV := .int .i64 n
abbrev slA {α : Type} (f : α -> AV) (l : List α) : AV := .sl .no (l.map f)
mutual
def Tm.av : Tm -> AV
 | .mk k n s l => .agg [.int .i64 k, .int .i64 n, .str s, .sl .no (Tm.avs l)]
def Tm.avs : List Tm -> List AV
 | [] => []
 | t :: l => Tm.av t :: Tm.avs l
end
theorem Tm.avs_map : ∀ l : List Tm, Tm.avs l = l.map Tm.av
 | [] => rfl
 | t :: l => by rw [Tm.avs, Tm.avs_map l]; rfl
def Tm.avw (t : Tm) : AV := .agg [.int .i64 t.kind, .int .i64 t.num, .str t.name, .sl .no (t.args.map Tm.av)]
theorem Tm.av_w (t : Tm) : t.av = t.avw := by
 obtain ⟨k, n, s, l⟩ := t; rw [Tm.av, Tm.avs_map]; rfl
theorem Tm.av_cells (t : Tm) : t.av.cells.length = 4 := by rw [Tm.av_w]; rfl
end Go.CK
namespace Go.AM
def AV.good (x : AV) : Prop := ∃ M v, FV M x v
end Go.AM
namespace Go.CK
open Go.RowKit Go.AM
theorem good_str {s : ByteArray} (h : (AV.str s).good) : s.size ≤ 4294967296 := by
 obtain ⟨M, v, h⟩ := h
 cases h with
 | str _ h => exact h
theorem good_agg {cs : List AV} (h : (AV.agg cs).good) : ∀ c ∈ cs, c.good := by
 obtain ⟨M, v, h⟩ := h
 cases h with
 | agg _ vs hl h1 hv =>
  intro c hc; obtain ⟨j, hj, rfl⟩ := List.getElem_of_mem hc; exact ⟨M, vs[j], hv j hj _ (List.getElem?_eq_getElem (by omega))⟩
theorem good_sl {o : Cap} {l : List AV} (h : (AV.sl o l).good) : l.length ≤ 4294967296 ∧ ∀ y ∈ l, y.good := by
 obtain ⟨M, v, h⟩ := h; obtain ⟨a, k, B, off, sz, _, _, _, hl, _, _, he⟩ := h.inv_sl; refine ⟨hl, fun y hy => ?_⟩; obtain ⟨i, hi, rfl⟩ := List.getElem_of_mem hy; obtain ⟨_, hc⟩ := he i hi; generalize l[i] = y at hc
 by_cases ha : ∃ cs, y = .agg cs
 ·obtain ⟨cs, rfl⟩ := ha
  have hx : ∀ j, ∃ v : Value, ∀ (h : j < cs.length), v.oneCell' = true ∧ FV M cs[j] v := fun j => by
   by_cases hj : j < cs.length
   ·obtain ⟨v, _, h2, h3⟩ := hc j hj; exact ⟨v, fun _ => ⟨h2, h3⟩⟩
   ·exact ⟨undef, fun h => absurd h hj⟩
  refine ⟨M, .agg (List.ofFn fun j : Fin cs.length => (hx j).choose).toArray, .agg cs _ (by simp) (fun v hv => ?_) (fun j hj v hjv => ?_)⟩
  ·obtain ⟨j, rfl⟩ := List.mem_ofFn.1 hv; exact ((hx j).choose_spec j.2).1
  ·rw [List.getElem?_ofFn, dif_pos hj] at hjv; cases hjv; exact ((hx j).choose_spec hj).2
 ·have h1 : y.cells = [y] := by
   cases y <;> first | rfl | exact absurd ⟨_, rfl⟩ ha
  obtain ⟨v, _, _, h3⟩ := hc 0 (by rw [h1]; simp)
  have : y.cells[0]'(by rw [h1]; simp) = y := by simp [h1]
  rw [this] at h3; exact ⟨M, v, h3⟩
theorem good_sla {α : Type} {f : α -> AV} {l : List α} (h : (AV.sl .no (l.map f)).good) : l.length ≤ 4294967296 ∧ ∀ y ∈ l, (f y).good := by
 obtain ⟨h1, h2⟩ := good_sl h; exact ⟨by simpa using h1, fun y hy => h2 _ (List.mem_map.2 ⟨y, hy, rfl⟩)⟩
theorem good_tm {t : Tm} (h : t.avw.good) : t.name.size ≤ 4294967296 ∧ t.args.length ≤ 4294967296 ∧ ∀ x ∈ t.args, x.avw.good := by
 have hs := good_sla (good_agg h (.sl .no (t.args.map Tm.av)) (by simp))
 exact ⟨good_str (good_agg h (.str t.name) (by simp)), hs.1, fun x hx => by rw [← Tm.av_w]; exact hs.2 x hx⟩
theorem Fun.assume {P : Program} {f : FuncId} {vals : List AV} {r : AV} (hf : vals.all AV.flat = true) (h : (∀ x ∈ vals, x.good) -> Fun P f vals r) : Fun P f vals r := fun bs E G a0 w args lo h1 h2 h3 => by
 refine h (fun x hx => ?_) bs E G a0 w args lo h1 h2 h3; obtain ⟨j, hj, rfl⟩ := List.getElem_of_mem hx; have hjv : args[j]? = some (args[j]'(by omega)) := List.getElem?_eq_getElem (by omega)
 exact ⟨G.M, _, (h3 j hj _ hjv).toFV (List.all_eq_true.1 hf _ (List.getElem_mem hj))⟩
theorem IdxN.tmK {l : List Tm} {n : Nat} {K : AV -> Prop} {x : Tm} (h : l[n]? = some x) (k : K x.avw) : IdxN 4 (l.map Tm.av) (n : Int) K := .known (by simpa using h) (by omega) Tm.av_cells (by rw [Tm.av_w]; exact k)
theorem IdxN.tmKI {l : List Tm} {n : Int} {K : AV -> Prop} {x : Tm} (h : l[n.toNat]? = some x) (h0 : 0 ≤ n) (k : K x.avw) : IdxN 4 (l.map Tm.av) n K := .known h h0 Tm.av_cells (by rw [Tm.av_w]; exact k)
theorem Szs.tm {l : List Tm} : Szs 4 (l.map Tm.av) := .map Tm.av_cells
def At.av (x : At) : AV := .agg [.str x.name, .sl .no (x.args.map Tm.av)]
def It.av (x : It) : AV := .agg [.int .i64 x.id, .str x.atom.name, .sl .no (x.atom.args.map Tm.av)]
def Ac.av (x : Ac) : AV := .agg [.str x.name, .int .i64 x.arity, .sl .no (x.positions.map intA)]
end Go.CK
namespace Go.AM
open Go.CK Go.RowKit
def Vw (bs : List Box) (x y : AV) : Prop := ∀ (E : Entry) (G : Gh) (a : Act) (w : World) (lo : Nat), RS E G ⟨[], bs, lo⟩ a w -> ∀ v, RV G.M G.σ bs.length x v -> RV (Hp.of w) G.σ 0 y v
theorem Vw.row {α : Type} {f : α -> AV} {z : Nat} (hp : Plain f z) {bs : List Box} {b m k : Nat} {l : List α} (hb : bs[b]? = some (rowF f z k l)) (hm : m = l.length) : Vw bs (.bsl b m k) (.sl .no (l.map f)) := fun E G a w lo hs v hv => by
 refine .flat ?_; subst hm; obtain ⟨ad, rfl, hbl, hmk, hml, had⟩ := hv.inv_bsl; have hz : ∀ y ∈ l.map f, y.cells.length = z := fun y hy => by obtain ⟨x, _, rfl⟩ := List.mem_map.1 hy; exact hp.sz x
 have hlm : (l.map f).length = l.length := by simp
 by_cases hk : k = 0
 ·subst hk; have hl : l = [] := List.eq_nil_of_length_eq_zero (by omega)
  subst hl; exact FV.mk_sl (l := []) (B := 0) (off := 0) (sz := z) (by simp) (Nat.le_refl _) (Nat.zero_le _) (by simp) (fun h => absurd rfl h) (fun i hi => by cases hi)
 ·have hne : cellsOf (l.map f) ++ List.replicate ((k - l.length) * z) .top ≠ [] := fun e => by
   have := congrArg List.length e; rw [List.length_append, hp.len, List.length_replicate, ← Nat.add_mul, List.length_nil] at this; have h2 : 0 < (l.length + (k - l.length)) * z := Nat.mul_pos (by omega) hp.pos
   omega
  have hbc : boxCells bs b = some (cellsOf (l.map f) ++ List.replicate ((k - l.length) * z) .top) := rowAt_cells (rowAt_row hb) hne; rw [had hk]
  have hel : Elems (Hp.of w) (G.σ b) 0 z (l.map f) := Elems.ofCells (p := List.replicate ((k - l.length) * z) .top) hz fun j hj => by
   obtain ⟨u, h1, h2, h3⟩ := hs.bval (s := ⟨[], bs, lo⟩) hbc j hj; refine ⟨u, by rw [Nat.zero_add]; exact h1, h2, ?_⟩
   have hc : (cellsOf (l.map f) ++ List.replicate ((k - l.length) * z) AV.top)[j].deown = (cellsOf (l.map f) ++ List.replicate ((k - l.length) * z) AV.top)[j] ∧ (cellsOf (l.map f) ++ List.replicate ((k - l.length) * z) AV.top)[j].flat1 = true := by
    have := List.getElem_mem hj; rcases List.mem_append.1 this with hx | hx
    ·exact hp.mem hx
    ·rw [(List.mem_replicate.1 hx).2]; exact ⟨rfl, rfl⟩
   rw [hc.1] at h3; exact (h3.flat1 hc.2).mono hs.ok
  have := FV.mk_sl (M := Hp.of w) (o := .no) (l := l.map f) (a := some ⟨G.σ b, 0, none⟩) (k := k) (B := G.σ b) (off := 0) (sz := z) (by simp) (by rw [hlm]; exact hmk) (by rw [hlm]; exact hml) (by simp) (fun _ => rfl) hel
  rw [hlm] at this; exact this
theorem Sem.assume {P : Program} {f : FuncId} {vals : List AV} {bs : List Box} {Q : AV -> List Box -> Prop} (h : (∀ x ∈ vals, x.flat = true -> x.good) -> (∀ cs, AV.ept cs ∈ vals -> ∀ c ∈ cs, c.good) -> Sem P f vals bs Q) : Sem P f vals bs Q := fun E G a0 w args lo h1 h2 h3 => by
 refine h (fun x hx hf => ?_) (fun cs hx c hc => ?_) E G a0 w args lo h1 h2 h3
 ·obtain ⟨j, hj, rfl⟩ := List.getElem_of_mem hx; exact ⟨G.M, _, (h3 j hj _ (List.getElem?_eq_getElem (by omega))).toFV hf⟩
 ·obtain ⟨j, hj, e⟩ := List.getElem_of_mem hx; have hv := h3 j hj _ (List.getElem?_eq_getElem (by omega))
  rw [e] at hv; obtain ⟨B, off, _, hcs⟩ := hv.inv_ept; obtain ⟨i, hi, rfl⟩ := List.getElem_of_mem hc; obtain ⟨v, _, _, h6⟩ := hcs i hi; exact ⟨G.M, v, h6⟩
theorem AppN.nilRow {α : Type} {f : α -> AV} {z : Nat} (hp : Plain f z) {e : List (Nat × AV)} {bs : List Box} {lo : Nat} {l' : List α} {o : Cap} {K : AV -> St -> Prop} (hlim : l'.length ≤ 4294967296)
  (h : ∀ k', l'.length ≤ k' -> K (.bsl bs.length l'.length k') ⟨e, bs ++ [rowF f z k' l'], lo⟩) : AppN z ⟨e, bs, lo⟩ (.sl .full []) (.sl o (l'.map f)) K := by
 refine ⟨?_⟩; unfold appB; simp only [srcK, elsK]; refine ⟨fun y hy => by obtain ⟨x, _, rfl⟩ := List.mem_map.1 hy; exact hp.sz x, ?_⟩
 rw [List.length_map]; refine ⟨⟨hp.pos, by simp, by omega, fun x hx => by simp at hx⟩, fun k' hk' => ?_⟩
 have := h k' (by omega)
 simp only [rowF, killO, Nat.zero_add, List.take_nil, List.nil_append] at this ⊢; exact this
end Go.AM
namespace Go.AM
open Go.CK Go.RowKit
variable {A B K : Prop} {b : Bool} {p : Prop}
theorem cY (k : A) (h : b = true := by with_reducible rfl) : CondN b A B := .yes h k
theorem cN (k : B) (h : b = false := by with_reducible rfl) : CondN b A B := .no h k
theorem cI [Decidable p] (k : A) (h : p := by omega) : CondN (decide p) A B := .is h k
theorem cJ [Decidable p] (k : B) (h : ¬ p := by omega) : CondN (decide p) A B := .isnt h k
theorem cYa (k : A) (h : b = true := by assumption) : CondN b A B := .yes h k
theorem cNa (k : B) (h : b = false := by assumption) : CondN b A B := .no h k
theorem cId [Decidable p] (k : A) (h : p := by decide) : CondN (decide p) A B := .is h k
theorem wI {n : Int} {K : Int -> Prop} (k : K n) (h : -9223372036854775808 ≤ n ∧ n ≤ 9223372036854775807 := by omega) : WrapN .i64 n K := .i64 h k
theorem nS (k : K) (h : p := by first | omega | assumption | (show mapOk _ = true; rfl) | (simp; done) | (simp; omega) | (simp [lim]; done) | (simp [lim]; omega) | ((repeat' (first | assumption | exact Szs.nil | exact Szs.tm | refine Szs.app ?_ ?_ | refine Szs.cons rfl ?_ | exact Szs.map (fun _ => rfl) | exact Szs.rep rfl | refine Szs.take ?_ _ | refine Szs.drop ?_ _ | refine Szs.set ?_ rfl _)); done)) : NeedN p K := ⟨h, k⟩
theorem iA {l : List Tm} {n : Nat} {K : AV -> Prop} {x : Tm} (k : K x.avw) (h : l[n]? = some x := by assumption) : IdxN 4 (l.map Tm.av) (n : Int) K := Go.CK.IdxN.tmK h k
theorem iB {l : List Tm} {n : Int} {K : AV -> Prop} {x : Tm} (k : K x.avw) (h : l[n.toNat]? = some x := by assumption) (h0 : 0 ≤ n := by omega) : IdxN 4 (l.map Tm.av) n K := Go.CK.IdxN.tmKI h h0 k
section
variable {α : Type} {f : α -> AV} {sz : Nat} {l : List α} {K : AV -> Prop} {x : α}
theorem iE {n : Nat} (k : K (f x)) (h : l[n]? = some x := by assumption) (hs : ∀ x, (f x).cells.length = sz := by intro _; rfl) : IdxN sz (l.map f) (n : Int) K := .knownN h hs k
theorem iH {n : Nat} (k : ∀ x, l[n]? = some x -> K (f x)) (h1 : n < l.length := by omega) (hs : ∀ x, (f x).cells.length = sz := by intro _; rfl) : IdxN sz (l.map f) (n : Int) K := .mapN h1 hs k
end
theorem hB {P : Program} {f : FuncId} (k : K) (h : hasBody P f = true := by kernel_rfl) : HasN P f K := ⟨h, k⟩
section
variable {vs : List AV}
theorem pT {bs bs' : List Box} (k : K) (h : ∃ t, bs' = bs ++ t := by exact ⟨_, rfl⟩) : PreN vs bs bs' K := ⟨.inl h, k⟩
end
theorem vE {x y : AV} (k : K) (h : x = y := by with_reducible rfl) : WkN x y K := .eq h k
theorem vI {i : IntKind} {x y : Int} (k : K) (h : x = y := by omega) : WkN (.int i x) (.int i y) K := .int h k
theorem vB {x y : Bool} (k : K) (h : x = y := by assumption) : WkN (.bool x) (.bool y) K := .bool h k
theorem vD {z : Nat} {l m : List AV} (e : l = m) (k : K) (h : Szs z l := by (repeat' (first | assumption | exact Szs.nil | exact Szs.tm | refine Szs.app ?_ ?_ | refine Szs.cons rfl ?_ | exact Szs.map (fun _ => rfl) | exact Szs.rep rfl | refine Szs.take ?_ _ | refine Szs.drop ?_ _ | refine Szs.set ?_ rfl _)); done) : WkN (.sl .full l) (.sl (.own z) m) K := .claim h e k
theorem xB (k : K) (h : p := by with_reducible rfl) : BxN p K := ⟨h, k⟩
theorem gC {b : Bool} {A B : Prop} (h : CondN b A B) : CondN b A B := h
theorem gD {p : Prop} [Decidable p] {A B : Prop} (h : CondN (decide p) A B) : CondN (decide p) A B := h
theorem gN {p K : Prop} (h : NeedN p K) : NeedN p K := h
theorem gW {i : IntKind} {n : Int} {K : Int -> Prop} (h : WrapN i n K) : WrapN i n K := h
theorem gL {l : List AV} {K : Int -> Prop} (h : LenN l K) : LenN l K := h
theorem gI {sz : Nat} {l : List AV} {n : Int} {K : AV -> Prop} (h : IdxN sz l n K) : IdxN sz l n K := h
theorem gT {l : List Tm} {n : Int} {K : AV -> Prop} (h : IdxN 4 (l.map Tm.av) n K) : IdxN 4 (l.map Tm.av) n K := h
theorem gM {α : Type} {f : α -> AV} {sz : Nat} {l : List α} {n : Int} {K : AV -> Prop} (h : IdxN sz (l.map f) n K) : IdxN sz (l.map f) n K := h
theorem gH {P : Program} {f : FuncId} {K : Prop} (h : HasN P f K) : HasN P f K := h
theorem gB {bs : List Box} {n : Nat} {K : List AV -> Prop} (h : BxAt bs n K) : BxAt bs n K := h
theorem gPr {vs : List AV} {bs bs' : List Box} {K : Prop} (h : PreN vs bs bs' K) : PreN vs bs bs' K := h
theorem gF {P : Program} {f : FuncId} {vals raw : List AV} {bs : List Box} {K : AV -> List Box -> Prop} (h : CallN P f vals raw bs K) : CallN P f vals raw bs K := h
theorem gG {P : Program} {f : FuncId} {vals : List AV} {K : AV -> Prop} (h : CallP P f vals K) : CallP P f vals K := h
theorem gV {x y : AV} {K : Prop} (h : WkN x y K) : WkN x y K := h
theorem gK {z : Nat} {l m : List AV} {K : Prop} (h : WkN (.sl .full l) (.sl (.own z) m) K) : WkN (.sl .full l) (.sl (.own z) m) K := h
theorem gX {p K : Prop} (h : BxN p K) : BxN p K := h
theorem endz {s t : St} (h : fEnv true t.env fun e => fBs t.bs fun b => wkE 100 [] s.env e ∧ eqB s.bs b True := by (conv => whnf); (refine And.intro ?_ ?_ <;> conv => whnf); (all_goals repeat' ((first | (refine gV ?_; first | refine vE ?_ | refine vI ?_ | refine vB ?_ | (refine gK ?_; refine vC ?_) | refine vN ?_) | (refine gX ?_; refine xB ?_) | exact True.intro) <;> conv => whnf))) (hl : s.lo = t.lo := by rfl) : EndN s t := EndN.at_ h hl
end Go.AM
namespace Go.CK
def firstP {α : Type} (p : α -> Bool) : List α -> Nat
 | [] => 0
 | x :: r => if p x then 0 else firstP p r + 1
theorem firstP_eq {α : Type} {p : α -> Bool} : ∀ {l : List α} {k : Nat}, (∀ i x, i < k -> l[i]? = some x -> p x = false) -> k ≤ l.length -> (∀ x, l[k]? = some x -> p x = true) -> firstP p l = k
 | [], k, _, h2, _ => by simp only [List.length_nil, Nat.le_zero] at h2; subst h2; rfl
 | x :: r, 0, _, _, h3 => by rw [firstP, if_pos (h3 x rfl)]
 | x :: r, k + 1, h1, h2, h3 => by
  rw [firstP, if_neg (by rw [h1 0 x (by omega) rfl]; decide), firstP_eq (k := k) (fun i y hi hy => h1 (i + 1) y (by omega) (by simpa using hy)) (by simpa using h2) (fun y hy => h3 y (by simpa using hy))]
theorem firstP_lt {α : Type} {p : α -> Bool} : ∀ {l : List α}, firstP p l < l.length ↔ ∃ x ∈ l, p x = true
 | [] => by simp [firstP]
 | x :: r => by
  have := firstP_lt (p := p) (l := r); rw [firstP]; split
  ·rename_i h; simp [h]
  ·rename_i h; simp [this, h]
def findI {α : Type} (p : α -> Bool) (l : List α) : Int := if firstP p l < l.length then firstP p l else -1
theorem findI_pos {α : Type} (p : α -> Bool) (l : List α) : decide (0 ≤ findI p l) = l.any p := by
 unfold findI; have h := firstP_lt (p := p) (l := l); rw [Bool.eq_iff_iff, List.any_eq_true, decide_eq_true_eq, ← h]; split <;> rename_i h2
 ·exact ⟨fun _ => h2, fun _ => by omega⟩
 ·exact ⟨fun h => absurd h (by decide), fun h => absurd h h2⟩
theorem findI_at {α : Type} {p : α -> Bool} {l : List α} {j : Nat} {x : α} (h1 : ∀ i x, i < j -> l[i]? = some x -> p x = false) (hx : l[j]? = some x) (h : p x = true) : findI p l = j := by
 have hj := (List.getElem?_eq_some_iff.1 hx).1; have := firstP_eq h1 (Nat.le_of_lt hj) (fun y hy => by rw [hx] at hy; cases hy; exact h)
 rw [findI, this, if_pos hj]
theorem findI_no {α : Type} {p : α -> Bool} {l : List α} (h1 : ∀ i x, i < l.length -> l[i]? = some x -> p x = false) : findI p l = -1 := by
 have := firstP_eq h1 (Nat.le_refl _) (fun y hy => by rw [List.getElem?_eq_none (Nat.le_refl _)] at hy; cases hy)
 rw [findI, this, if_neg (Nat.lt_irrefl _)]
theorem no_succ {α : Type} {p : α -> Bool} {l : List α} {j : Nat} {x : α} (h1 : ∀ i x, i < j -> l[i]? = some x -> p x = false) (hx : l[j]? = some x) (h : p x = false) : ∀ i x, i < j + 1 -> l[i]? = some x -> p x = false := fun i y hi hy => by
 by_cases e : i = j
 ·subst e; rw [hx] at hy; cases hy; exact h
 ·exact h1 i y (by omega) hy
theorem no_zero {α : Type} {p : α -> Bool} {l : List α} : ∀ i x, i < 0 -> l[i]? = some x -> p x = false := fun i _ hi => by omega
def cmpI (x y : Int) : Int := if x < y then -1 else if y < x then 1 else 0
theorem cmpI_z {x y : Int} : cmpI x y = 0 ↔ x = y := by unfold cmpI; split <;> rename_i h <;> first | (split <;> omega) | omega
mutual
def Tm.wgh : Tm -> Int -> Int -> Int
 | .mk _ _ s l, left, deep => if deep - 1 = 0 ∨ left - 1 - (s.size : Int).tdiv 8 < l.length then -1 else Tm.wghs l (left - 1 - (s.size : Int).tdiv 8) (deep - 1)
def Tm.wghs : List Tm -> Int -> Int -> Int
 | [], left, _ => left
 | t :: r, left, deep => if left < 0 then left else Tm.wghs r (Tm.wgh t left deep) deep
end
def weighI (l : List Tm) (left deep : Int) : Int := if deep = 0 ∨ left < l.length then -1 else Tm.wghs l left deep
theorem Tm.wgh_eq (t : Tm) (left deep : Int) : t.wgh left deep = weighI t.args (left - 1 - (t.name.size : Int).tdiv 8) (deep - 1) := by
 obtain ⟨k, n, s, l⟩ := t; rw [Tm.wgh]; rfl
theorem tdiv8 (n : Nat) : (n : Int).tdiv 8 = ((n / 8 : Nat) : Int) := by rw [Int.tdiv_eq_ediv_of_nonneg (by omega)]; rfl
theorem wghs_neg (l : List Tm) {left : Int} (h : left < 0) (deep : Int) : Tm.wghs l left deep = left := by
 cases l with
 | nil => rfl
 | cons t r => rw [Tm.wghs, if_pos h]
theorem weigh_le (t : Tm) : ∀ left deep : Int, -1 ≤ weighI t.args left deep ∧ weighI t.args left deep ≤ max left (-1) := by
 induction t using Tm.ind_all with
 | h k n s l ih =>
  have hl : ∀ r : List Tm, (∀ t ∈ r, t ∈ l) -> ∀ left deep : Int, -1 ≤ left -> -1 ≤ Tm.wghs r left deep ∧ Tm.wghs r left deep ≤ left := fun r => by
   induction r with
   | nil => intro _ left deep h; simp only [Tm.wghs]; omega
   | cons t r ihr =>
    intro hm left deep h; have h1 := ih t (hm t (by simp)) (left - 1 - (t.name.size : Int).tdiv 8) (deep - 1)
    rw [← Tm.wgh_eq, tdiv8] at h1; simp only [Tm.wghs]; split
    ·omega
    ·have h2 := ihr (fun x hx => hm x (by simp [hx])) (t.wgh left deep) deep h1.1
     omega
  intro left deep; show -1 ≤ weighI l left deep ∧ weighI l left deep ≤ max left (-1)
  by_cases hc : deep = 0 ∨ left < l.length
  ·rw [weighI, if_pos hc]; omega
  ·rw [weighI, if_neg hc]; have := hl l (fun _ h => h) left deep (by omega)
   omega
theorem wgh_le (t : Tm) (left deep : Int) (h : -1 ≤ left) : -1 ≤ t.wgh left deep ∧ t.wgh left deep ≤ left := by
 have := weigh_le t (left - 1 - (t.name.size : Int).tdiv 8) (deep - 1); rw [← Tm.wgh_eq, tdiv8] at this; omega
end Go.CK
namespace Go.CK
open Go.AM Go.Proofs
theorem bool_no {p : Prop} [Decidable p] (h : ¬ p) : AV.bool false = AV.bool (decide p) := by rw [decide_eq_false h]
theorem bool_yes {p : Prop} [Decidable p] (h : p) : AV.bool true = AV.bool (decide p) := by rw [decide_eq_true h]
set_option maxRecDepth 100000 in
theorem nanI_ok {x : Int} : Fun Tryz.prog 152 [.int .i64 x] (.bool false) := by
 refine Fun.of (op_cmp_isNaN_int (by simp) ?_) rfl rfl
 conv => whnf
 conv => whnf
 repeat' (refine RetP.nrm ?_ <;> conv => whnf)
 simp
set_option maxRecDepth 100000 in
theorem cmpI_ok {x y : Int} : Fun Tryz.prog 101 [.int .i64 x, .int .i64 y] (.int .i64 (cmpI x y)) := by
 refine Fun.of (op_cmp_Compare_int (by simp) ?_) rfl rfl
 conv => whnf
 conv => whnf
 repeat' ((first | (refine gF ?_; refine CallN.fn (nanI_ok) ?_) | (refine gC ?_; first | refine cN ?_ | refine CondN.lt (fun hc => ?_) (fun hc => ?_)) | refine RetP.nrm ?_) <;> conv => whnf)
 ·rw [cmpI, if_pos (by omega)]
 ·rw [cmpI, if_neg (by omega), if_pos (by omega)]
 ·rw [cmpI, if_neg (by omega), if_neg (by omega)]
end Go.CK
namespace Go.CK
open Go.AM Go.Proofs
def upTo {α : Type} (a b : List α) (j : Nat) : Prop := ∀ i, i < j -> a[i]? = b[i]?
theorem upTo.zero {α : Type} {a b : List α} : upTo a b 0 := fun i h => by omega
theorem upTo.succ {α : Type} {a b : List α} {j : Nat} {x y : α} (h : upTo a b j) (hx : a[j]? = some x) (hy : b[j]? = some y) (e : x = y) : upTo a b (j + 1) := fun i hi => by
 by_cases hij : i = j
 ·subst hij; rw [hx, hy, e]
 ·exact h i (by omega)
theorem upTo.all {α : Type} {a b : List α} (h : upTo a b a.length) (hl : a.length = b.length) : a = b := List.ext_getElem? fun i => by
 rcases Nat.lt_or_ge i a.length with h1 | h1
 ·exact h i h1
 ·rw [List.getElem?_eq_none h1, List.getElem?_eq_none (by omega)]
theorem ne_at {α : Type} {a b : List α} {j : Nat} {x y : α} (hx : a[j]? = some x) (hy : b[j]? = some y) (e : ¬ x = y) : ¬ a = b := fun h => by subst h; rw [hx] at hy; exact e (Option.some.inj hy)
theorem ne_len {α : Type} {a b : List α} (h : ¬ (a.length : Int) = b.length) : ¬ a = b := fun e => h (by rw [e])
set_option maxRecDepth 100000 in
theorem sameInts_ok {a b : List Int} : Fun Tryz.prog 17 [slA intA a, slA intA b] (.bool (decide (a = b))) := by
 refine Fun.assume rfl fun hg0 => ?_; refine Fun.of (op_constraintref03_SameInts (by simp) ?_) rfl rfl
 conv => whnf
 have hg := (good_sla (hg0 (slA intA a) (by simp))).1
 conv => whnf
 repeat' ((first | (refine gC ?_; first | refine .not ?_ | refine CondN.dec (fun hc => ?_) (fun hc => ?_)) | (refine gL ?_; refine .map ?_) | refine RetP.nrm ?_) <;> conv => whnf)
 ·refine LoopP.count (fb := true) (a.length) (fun st_ j => st_.sets [(5, .int .i64 j)]) (fun j => upTo a b j) ?_ ?_ (fun j hj hij => ?_) (fun hij => ?_)
  ·exact upTo.zero
  ·exact endz
  ·conv => whnf
   repeat' ((first | (refine gC ?_; first | refine .not ?_ | (refine gD ?_; refine cI ?_) | refine CondN.dec (fun hc => ?_) (fun hc => ?_)) | (refine gW ?_; refine wI ?_) | (refine gL ?_; refine .map ?_) | (refine gI ?_; (refine gM ?_; refine iH fun x hx => ?_)) | refine RetP.nrm ?_) <;> conv => whnf)
   ·refine ⟨hij.succ (by assumption) (by assumption) (by assumption), ?_⟩
    exact endz
   ·exact bool_no (ne_at (by assumption) (by assumption) (by assumption))
  ·conv => whnf
   repeat' ((first | (refine gC ?_; first | refine cN ?_ | (refine gD ?_; refine cJ ?_)) | (refine gL ?_; refine .map ?_) | refine RetP.nrm ?_) <;> conv => whnf)
   exact bool_yes (hij.all (by omega))
 ·exact bool_no (ne_len (by assumption))
end Go.CK
namespace Go.CK
end Go.CK
namespace Go.CK
end Go.CK
namespace Go.CK
end Go.CK
namespace Go.CK
open Go.AM Go.Proofs
variable {vals : List AV} {bs : List Box} {Q : AV -> List Box -> Prop}
def rc_p_term_budget_valid : RC :=
 (.seq
 (.reg false [0, 2, 4] [
 oQ 4 (.box (.t 1)), oQ 6 (.mov (.c (.bool false)))])
 (.seq
 (.reg false [0, 2, 4] [
 qM 7 0, qK 8 7, qF 9 0 8, qL 10 9, oQ 11 (.bin .sub (.t 10) (.c (.int .i64 1))), qK 12 7, qF 13 0 12, oN (.store 1 (.t 13) (.t 11))])
 (.seq
 (.seq
 (.reg false [0, 2, 4, 22] [
 qM 14 0, qK 15 14, qF 16 0 15, qL 17 16, oQ 18 (.bin .lss (.t 17) (.c (.int .i64 0))), qM 19 18, oG 20 19 false (.mov (.t 2)), oG 21 19 false (.bin .lss (.t 20) (.c (.int .i64 1))), oQ 22 (.pick (.t 19) (.c (.bool true)) (.t 21))])
 (.cond (.t 22)
 (.seq
 (.reg false [6] [
 oQ 6 (.mov (.c (.bool false)))])
 .ret)
 .skip))
 (.seq
 (.seq
 (.reg false [0, 2, 4, 24] [
 qF 23 0 4, qL 24 23])
 (.block 0
 (.seq
 (.reg false [0, 2, 4, 24, 25] [
 oQ 26 (.bin .eql (.t 24) (.c (.int .i64 0))), qM 25 26])
 (.cond (.t 25)
 (.seq
 (.reg false [6] [
 qF 27 1 4, qL 28 27, oQ 29 (.bin .geq (.t 28) (.c (.int .i64 (-2147483648)))), qM 30 29, oG 31 30 true (.fptr 1 (.t 4)), oG 32 30 true (.load false 1 (.t 31)), oG 33 30 true (.bin .leq (.t 32) (.c (.int .i64 2147483648))), oQ 34 (.pick (.t 30) (.t 33) (.c (.bool false))), qM 35 34, oG 36 35 true (.fptr 2 (.t 4)), oG 37 35 true (.load false 1 (.t 36)), oG 38 35 true (.bin .eql (.t 37) (.c (.str ⟨⟨[]⟩⟩))), oQ 39 (.pick (.t 35) (.t 38) (.c (.bool false))), qM 40 39, oG 41 40 true (.fptr 3 (.t 4)), oG 42 40 true (.load false 1 (.t 41)), oG 43 40 true (.len false (.t 42)), oG 44 40 true (.bin .eql (.t 43) (.c (.int .i64 0))), oQ 45 (.pick (.t 40) (.t 44) (.c (.bool false))), qM 6 45])
 .ret)
 (.seq
 (.reg false [0, 2, 4, 24, 46] [
 oQ 47 (.bin .eql (.t 24) (.c (.int .i64 1))), qM 46 47])
 (.cond (.t 46)
 (.seq
 (.reg false [6] [
 qF 48 1 4, qL 49 48, oQ 50 (.bin .geq (.t 49) (.c (.int .i64 0))), qM 51 50, oG 52 51 true (.fptr 1 (.t 4)), oG 53 51 true (.load false 1 (.t 52)), oG 54 51 true (.bin .leq (.t 53) (.c (.int .i64 1048576))), oQ 55 (.pick (.t 51) (.t 54) (.c (.bool false))), qM 56 55, oG 57 56 true (.fptr 2 (.t 4)), oG 58 56 true (.load false 1 (.t 57)), oG 59 56 true (.bin .eql (.t 58) (.c (.str ⟨⟨[]⟩⟩))), oQ 60 (.pick (.t 56) (.t 59) (.c (.bool false))), qM 61 60, oG 62 61 true (.fptr 3 (.t 4)), oG 63 61 true (.load false 1 (.t 62)), oG 64 61 true (.len false (.t 63)), oG 65 61 true (.bin .eql (.t 64) (.c (.int .i64 0))), oQ 66 (.pick (.t 61) (.t 65) (.c (.bool false))), qM 6 66])
 .ret)
 (.seq
 (.reg false [0, 2, 4, 67] [
 oQ 68 (.bin .eql (.t 24) (.c (.int .i64 2))), qM 67 68])
 (.cond (.t 67)
 (.seq
 (.seq
 (.reg false [0, 2, 4, 77] [
 qF 69 1 4, qL 70 69, oQ 71 (.bin .neq (.t 70) (.c (.int .i64 0))), qM 72 71, oG 73 72 false (.fptr 3 (.t 4)), oG 74 72 false (.load false 1 (.t 73)), oG 75 72 false (.len false (.t 74)), oG 76 72 false (.bin .gtr (.t 75) (.c (.int .i64 6))), oQ 77 (.pick (.t 72) (.c (.bool true)) (.t 76))])
 (.cond (.t 77)
 (.seq
 (.reg false [6] [
 oQ 6 (.mov (.c (.bool false)))])
 .ret)
 .skip))
 (.seq
 (.seq
 (.reg false [0, 2, 4, 93] [
 qF 78 2 4, qL 79 78, oQ 80 (.call (.c (.fn (.func 95) [] [])) [(.t 79)]), oQ 81 (.un .not (.t 80)), qM 82 81, oG 83 82 true (.fptr 2 (.t 4)), oG 84 82 true (.load false 1 (.t 83)), oG 85 82 true (.call (.c (.fn (.func 200) [] [])) [(.t 84)]), oG 86 82 true (.mov (.t 85)), oG 87 86 true (.fptr 3 (.t 4)), oG 88 86 true (.load false 1 (.t 87)), oG 89 86 true (.len false (.t 88)), oG 90 86 true (.bin .eql (.t 89) (.c (.int .i64 2))), oG 91 82 true (.pick (.t 86) (.t 90) (.c (.bool false))), oG 92 82 true (.un .not (.t 91)), oQ 93 (.pick (.t 82) (.t 92) (.c (.bool false)))])
 (.cond (.t 93)
 (.seq
 (.reg false [6] [
 oQ 6 (.mov (.c (.bool false)))])
 .ret)
 .skip))
 (.seq
 (.reg false [6] [
 qM 94 0, qF 95 3 4, qL 96 95, qM 97 2, oQ 98 (.bin .sub (.t 97) (.c (.int .i64 1))), oQ 99 (.call (.c (.fn (.func 102) [] [])) [(.t 94), (.t 96), (.t 98)]), qM 6 99])
 .ret)))
 .skip))))))))
 (.seq
 (.reg false [6] [
 oQ 6 (.mov (.c (.bool false)))])
 .ret)))))
theorem op_p_term_budget_valid (hn : vals.length ≤ 100) (h : SP Tryz.prog true vals bs rc_p_term_budget_valid [.slot 6] Q) : AM.Sem Tryz.prog 153 vals bs Q :=
 Sem.nrm (Sem.of (fn := Tryz.f153) (keeps := [(0, [0, 2, 4]), (1, [0, 2, 4]), (2, [0, 2, 4, 22]), (3, [6]), (4, [0, 2, 4, 24]), (5, [0, 2, 4, 24, 25]), (7, [0, 2, 4, 24, 46]), (9, [0, 2, 4, 67]), (10, [0, 2, 4, 77]), (11, [6]), (12, [0, 2, 4, 93]), (13, [6]), (14, [6]), (8, [6]), (6, [6]), (15, [6])]) (solo := []) Tryz.func153 rfl (by kernel_rfl) (by kernel_rfl) (by kernel_rfl) hn (run_gp h))
def rc_p_term_budget_all : RC :=
 (.seq
 (.reg false [0, 1, 2] [
 oQ 6 (.mov (.c (.bool false)))])
 (.seq
 (.seq
 (.reg false [0, 1, 2, 9, 10] [
 qM 8 1, oQ 9 (.len false (.t 8)), oQ 10 (.mov (.c (.int .i64 0)))])
 (.block 0
 (.loop
 (.seq
 (.reg false [0, 1, 2, 9, 10, 11] [
 oQ 11 (.bin .lss (.t 10) (.t 9))])
 (.seq
 (.cond (.t 11)
 .skip
 (.exit 0))
 (.seq
 (.block 1
 (.seq
 (.reg false [0, 1, 2, 7, 9, 10] [
 qM 12 10, qM 7 12])
 (.seq
 (.reg false [0, 1, 2, 9, 10, 20] [
 qM 13 0, qM 14 1, qM 15 7, qI 16 4 14 15, qA 17 4 16, qM 18 2, oQ 19 (.call (.c (.fn (.func 153) [] [])) [(.t 13), (.t 17), (.t 18)]), oQ 20 (.un .not (.t 19))])
 (.cond (.t 20)
 (.seq
 (.reg false [6] [
 oQ 6 (.mov (.c (.bool false)))])
 .ret)
 .skip))))
 (.reg false [0, 1, 2, 9, 10] [
 oQ 21 (.bin .add (.t 10) (.c (.int .i64 1))), qM 10 21])))))))
 (.seq
 (.reg false [6] [
 oQ 6 (.mov (.c (.bool true)))])
 .ret)))
theorem op_p_term_budget_all (hn : vals.length ≤ 22) (h : SP Tryz.prog true vals bs rc_p_term_budget_all [.slot 6] Q) : AM.Sem Tryz.prog 102 vals bs Q :=
 Sem.nrm (Sem.of (fn := Tryz.f102) (keeps := [(0, [0, 1, 2]), (1, [0, 1, 2, 9, 10]), (2, [0, 1, 2, 9, 10, 11]), (3, [0, 1, 2, 7, 9, 10]), (4, [0, 1, 2, 9, 10, 20]), (5, [6]), (6, [0, 1, 2, 9, 10]), (7, [6])]) (solo := []) Tryz.func102 rfl (by kernel_rfl) (by kernel_rfl) (by kernel_rfl) hn (run_gp h))
def rc_name_Right : RC :=
 (.seq
 (.reg false [0] [
 oQ 2 (.mov (.c (.bool false)))])
 (.seq
 (.reg false [2] [
 qM 3 0, oQ 4 (.call (.c (.fn (.func 148) [] [])) [(.t 3), (.c (.int .u8 1))]), qM 5 4, oG 6 5 true (.mov (.t 0)), oG 7 5 true (.call (.c (.fn (.func 149) [] [])) [(.t 6)]), oG 8 5 true (.un .not (.t 7)), oQ 9 (.pick (.t 5) (.t 8) (.c (.bool false))), qM 2 9])
 .ret))
theorem op_name_Right (hn : vals.length ≤ 10) (h : SP Tryz.prog true vals bs rc_name_Right [.slot 2] Q) : AM.Sem Tryz.prog 95 vals bs Q :=
 Sem.nrm (Sem.of (fn := Tryz.f95) (keeps := [(0, [0]), (1, [2])]) (solo := []) Tryz.func95 rfl (by kernel_rfl) (by kernel_rfl) (by kernel_rfl) hn (run_gp h))
def rc_name_Operator : RC :=
 (.seq
 (.reg false [0] [
 oQ 2 (.mov (.c (.bool false)))])
 (.seq
 (.reg false [2] [
 qM 3 0, oQ 4 (.len true (.t 3)), oQ 5 (.bin .eql (.t 4) (.c (.int .i64 1))), qM 6 5, oG 7 6 true (.mov (.t 0)), oG 8 6 true (.call (.c (.fn (.func 232) [] [])) [(.c (.str ⟨⟨[43, 45, 42, 47, 37]⟩⟩)), (.t 7)]), oQ 9 (.pick (.t 6) (.t 8) (.c (.bool false))), qM 2 9])
 .ret))
theorem op_name_Operator (hn : vals.length ≤ 10) (h : SP Tryz.prog true vals bs rc_name_Operator [.slot 2] Q) : AM.Sem Tryz.prog 200 vals bs Q :=
 Sem.nrm (Sem.of (fn := Tryz.f200) (keeps := [(0, [0]), (1, [2])]) (solo := []) Tryz.func200 rfl (by kernel_rfl) (by kernel_rfl) (by kernel_rfl) hn (run_gp h))
def rc_name_Reserved : RC :=
 (.seq
 (.reg false [0] [
 oQ 2 (.mov (.c (.bool false)))])
 (.seq
 (.seq
 (.reg false [3] [
 qM 3 0])
 (.block 0
 (.seq
 (.seq
 (.reg false [3, 4] [
 oQ 5 (.bin .eql (.t 3) (.c (.str ⟨⟨[99, 111, 110, 115, 116, 114, 97, 105, 110, 116]⟩⟩))), qM 4 5])
 (.cond (.t 4)
 .skip
 (.seq
 (.reg false [3, 4] [
 oQ 6 (.bin .eql (.t 3) (.c (.str ⟨⟨[116, 114, 117, 101]⟩⟩))), qM 4 6])
 (.cond (.t 4)
 .skip
 (.seq
 (.reg false [3, 4] [
 oQ 7 (.bin .eql (.t 3) (.c (.str ⟨⟨[102, 97, 105, 108]⟩⟩))), qM 4 7])
 (.cond (.t 4)
 .skip
 (.seq
 (.reg false [3, 4] [
 oQ 8 (.bin .eql (.t 3) (.c (.str ⟨⟨[105, 115]⟩⟩))), qM 4 8])
 (.cond (.t 4)
 .skip
 (.seq
 (.reg false [3, 4] [
 oQ 9 (.bin .eql (.t 3) (.c (.str ⟨⟨[105, 110, 116]⟩⟩))), qM 4 9])
 (.cond (.t 4)
 .skip
 (.reg false [4] [
 oQ 10 (.bin .eql (.t 3) (.c (.str ⟨⟨[103, 114, 111, 117, 110, 100]⟩⟩))), qM 4 10])))))))))))
 (.cond (.t 4)
 (.seq
 (.reg false [2] [
 oQ 2 (.mov (.c (.bool true)))])
 .ret)
 .skip))))
 (.seq
 (.reg false [2] [
 oQ 2 (.mov (.c (.bool false)))])
 .ret)))
theorem op_name_Reserved (hn : vals.length ≤ 11) (h : SP Tryz.prog true vals bs rc_name_Reserved [.slot 2] Q) : AM.Sem Tryz.prog 149 vals bs Q :=
 Sem.nrm (Sem.of (fn := Tryz.f149) (keeps := [(0, [0]), (1, [3]), (2, [3, 4]), (3, [3, 4]), (4, [3, 4]), (5, [3, 4]), (6, [3, 4]), (7, [4]), (8, [2]), (9, [2])]) (solo := []) Tryz.func149 rfl (by kernel_rfl) (by kernel_rfl) (by kernel_rfl) hn (run_gp h))
def rc_slices_Clone_api_Term_api_Term : RC :=
 (.seq
 (.reg false [0] [
 oQ 2 (.mov (.c (.sl .full [])))])
 (.seq
 (.seq
 (.reg false [0, 4] [
 qM 3 0, oQ 4 (.eff (.nilS false) [(.t 3)])])
 (.cond (.t 4)
 (.seq
 (.reg false [2] [
 oQ 2 (.mov (.c (.sl .full [])))])
 .ret)
 .skip))
 (.seq
 (.reg false [2] [
 oQ 5 (.bslice 4 []), qM 6 0, oQ 7 (.eff (.appB 4) [(.t 5), (.t 6)]), qM 2 7])
 .ret)))
theorem op_slices_Clone_api_Term_api_Term (hn : vals.length ≤ 8) (h : SP Tryz.prog true vals bs rc_slices_Clone_api_Term_api_Term [.slot 2] Q) : AM.Sem Tryz.prog 150 vals bs Q :=
 Sem.nrm (Sem.of (fn := Tryz.f150) (keeps := [(0, [0]), (1, [0, 4]), (2, [2]), (3, [2]), (1000000, [7])]) (solo := []) Tryz.func150 rfl (by kernel_rfl) (by kernel_rfl) (by kernel_rfl) hn (run_gp h))
end Go.CK
namespace Go.CK
open Go.AM Go.Proofs
variable {vals : List AV} {bs : List Box} {Q : AV -> List Box -> Prop}
def rc_term_RightAtom : RC :=
 (.seq
 (.reg false [1] [
 oQ 1 (.box (.t 0)), oQ 2 (.mov (.c (.bool false)))])
 (.seq
 (.reg false [1, 3] [
 oQ 4 (.build [(.int .i64 0)] [(0, 1, (.c (.int .i64 200)))]), oQ 5 (.box (.t 4)), qM 3 5])
 (.seq
 (.reg false [2] [
 qF 6 0 1, qL 7 6, oQ 8 (.call (.c (.fn (.func 95) [] [])) [(.t 7)]), qM 9 8, oG 10 9 true (.fptr 1 (.t 1)), oG 11 9 true (.load false 1 (.t 10)), oG 12 9 true (.len false (.t 11)), oG 13 9 true (.bin .leq (.t 12) (.c (.int .i64 6))), oQ 14 (.pick (.t 9) (.t 13) (.c (.bool false))), qM 15 14, oG 16 15 true (.mov (.t 3)), oG 17 15 true (.fptr 1 (.t 1)), oG 18 15 true (.load false 1 (.t 17)), oG 19 15 true (.call (.c (.fn (.func 102) [] [])) [(.t 16), (.t 18), (.c (.int .i64 20))]), oQ 20 (.pick (.t 15) (.t 19) (.c (.bool false))), qM 2 20])
 .ret)))
theorem op_term_RightAtom (hn : vals.length ≤ 21) (h : SP Tryz.prog true vals bs rc_term_RightAtom [.slot 2] Q) : AM.Sem Tryz.prog 49 vals bs Q :=
 Sem.nrm (Sem.of (fn := Tryz.f49) (keeps := [(0, [1]), (1, [1, 3]), (2, [2])]) (solo := []) Tryz.func49 rfl (by kernel_rfl) (by kernel_rfl) (by kernel_rfl) hn (run_gp h))
def rc_constraintref03_Fun : RC :=
 (.seq
 (.reg false [0, 1, 4] [
 oQ 4 (.box (.c (.agg [(.int .i64 0), (.int .i64 0), (.str ⟨⟨[]⟩⟩), (.sl .full [])])))])
 (.seq
 (.reg false [4] [
 qM 5 0, oQ 6 (.bslice 4 []), qM 7 1, oQ 8 (.append 4 (.t 6) (.t 7)), oQ 9 (.build [(.int .i64 0), (.int .i64 0), (.str ⟨⟨[]⟩⟩), (.sl .full [])] [(0, 1, (.c (.int .i64 2))), (2, 1, (.t 5)), (3, 1, (.t 8))]), oN (.store 4 (.t 4) (.t 9))])
 .ret))
theorem op_constraintref03_Fun (hn : vals.length ≤ 10) (h : SP Tryz.prog true vals bs rc_constraintref03_Fun [.cell 4 true 4] Q) : AM.Sem Tryz.prog 39 vals bs Q :=
 Sem.nrm (Sem.of (fn := Tryz.f39) (keeps := [(0, [0, 1, 4]), (1, [4])]) (solo := []) Tryz.func39 rfl (by kernel_rfl) (by kernel_rfl) (by kernel_rfl) hn (run_gp h))
end Go.CK
namespace Go.CK
end Go.CK
namespace Go.CK
open Go.AM Go.Proofs
variable {vals : List AV} {bs : List Box} {Q : AV -> List Box -> Prop}
def rc_slices_IndexFunc_api_Access_api_Access : RC :=
 (.seq
 (.reg false [0, 1] [
 oQ 4 (.mov (.c (.int .i64 0)))])
 (.seq
 (.seq
 (.reg false [0, 1, 7, 8] [
 qM 6 0, oQ 7 (.len false (.t 6)), oQ 8 (.mov (.c (.int .i64 0)))])
 (.block 0
 (.loop
 (.seq
 (.reg false [0, 1, 7, 8, 9] [
 oQ 9 (.bin .lss (.t 8) (.t 7))])
 (.seq
 (.cond (.t 9)
 .skip
 (.exit 0))
 (.seq
 (.block 1
 (.seq
 (.reg false [0, 1, 5, 7, 8] [
 qM 10 8, qM 5 10])
 (.seq
 (.reg false [0, 1, 5, 7, 8, 16] [
 qM 11 1, qM 12 0, qM 13 5, qI 14 3 12 13, qA 15 3 14, oQ 16 (.callv (.t 11) [(.t 15)])])
 (.cond (.t 16)
 (.seq
 (.reg false [4] [
 qM 17 5, qM 4 17])
 .ret)
 .skip))))
 (.reg false [0, 1, 7, 8] [
 oQ 18 (.bin .add (.t 8) (.c (.int .i64 1))), qM 8 18])))))))
 (.seq
 (.reg false [4] [
 oQ 4 (.mov (.c (.int .i64 (-1))))])
 .ret)))
theorem op_slices_IndexFunc_api_Access_api_Access (hn : vals.length ≤ 19) (h : SP Tryz.prog true vals bs rc_slices_IndexFunc_api_Access_api_Access [.slot 4] Q) : AM.Sem Tryz.prog 94 vals bs Q :=
 Sem.nrm (Sem.of (fn := Tryz.f94) (keeps := [(0, [0, 1]), (1, [0, 1, 7, 8]), (2, [0, 1, 7, 8, 9]), (3, [0, 1, 5, 7, 8]), (4, [0, 1, 5, 7, 8, 16]), (5, [4]), (6, [0, 1, 7, 8]), (7, [4])]) (solo := []) Tryz.func94 rfl (by kernel_rfl) (by kernel_rfl) (by kernel_rfl) hn (run_gp h))
end Go.CK
namespace Go.AM
open Go.CK Go.RowKit
section
variable {P : Program} {F : Fence} {n : Nat}
end
section
variable {P : Program} {E : Entry} {G : Gh} {s : St} {a : Act} {w : World}
end
section
variable {P : Program} {nt : Nat} {ops : Array Oper} {E : Entry} {rd : Option Nat} {n : Nat}
end
end Go.AM
