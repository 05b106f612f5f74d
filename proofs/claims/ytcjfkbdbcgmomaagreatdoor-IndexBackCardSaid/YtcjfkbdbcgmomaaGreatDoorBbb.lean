/-
  Texts of this claim joined (wip/gen/bundle.py), those declarations only that are needed: IxMd IxMf IxLa IxLb. By an AI agent.
-/
import Derived.Test.YtcjfkbdbcgmomaaGreatDoorBba
set_option linter.unusedSimpArgs false
set_option linter.unusedVariables false
namespace Go.CK
open Go.AM Go.Proofs
def delI (l : List It) (id : Int) : List It := l.filter fun x => !decide (x.id = id)
theorem asc_at {l : List It} (h : Asc l) {i j : Nat} {x y : It} (hx : l[i]? = some x) (hy : l[j]? = some y) (hij : i < j) : x.id < y.id := by
 have h1 := List.pairwise_iff_getElem.1 h i j (List.getElem?_eq_some_iff.1 hx).1 (List.getElem?_eq_some_iff.1 hy).1 hij; rw [(List.getElem?_eq_some_iff.1 hx).2, (List.getElem?_eq_some_iff.1 hy).2] at h1; exact h1
theorem has_at {l : List It} (h : Asc l) {id : Int} (hh : hasI l id = true) : ∃ i, l[posI l id]? = some i ∧ i.id = id := by
 induction l with
 | nil => simp [hasI] at hh
 | cons a l ih =>
  rw [Asc, List.pairwise_cons] at h
  by_cases ha : a.id < id
  ·have hl : hasI l id = true := by
    simp only [hasI, List.any_cons, Bool.or_eq_true, decide_eq_true_eq] at hh ⊢; rcases hh with hh | hh
    ·omega
    ·exact hh
   obtain ⟨i, h1, h2⟩ := ih h.2 hl; refine ⟨i, ?_, h2⟩; have e : posI (a :: l) id = posI l id + 1 := by simp [posI, List.countP_cons, ha]
   rw [e, List.getElem?_cons_succ]; exact h1
  ·have h0 : ∀ x ∈ l, ¬ x.id < id := fun x hm => by have := h.1 x hm; omega
   have hc : posI (a :: l) id = 0 := by
    rw [posI, List.countP_eq_zero]; intro x hm; rcases List.mem_cons.1 hm with rfl | hm
    ·simpa using ha
    ·simpa using h0 x hm
   rw [hc]; refine ⟨a, rfl, ?_⟩; obtain ⟨x, hm, hx⟩ := List.any_eq_true.1 hh; have hx : x.id = id := by simpa using hx
   rcases List.mem_cons.1 hm with rfl | hm
   ·exact hx
   ·have := h.1 x hm; omega
theorem delI_at {l : List It} (h : Asc l) {i : Nat} {x : It} (hx : l[i]? = some x) : delI l x.id = l.take i ++ l.drop (i + 1) := by
 have hi := (List.getElem?_eq_some_iff.1 hx).1
 have e : l = l.take i ++ x :: l.drop (i + 1) := by
  rw [← (List.getElem?_eq_some_iff.1 hx).2, ← List.drop_eq_getElem_cons hi, List.take_append_drop]
 have h1 : (l.take i).filter (fun y => !decide (y.id = x.id)) = l.take i := List.filter_eq_self.2 fun y hy => by
  obtain ⟨k, hk⟩ := List.getElem?_of_mem hy; rw [List.getElem?_take] at hk; split at hk
  ·have := asc_at h hk hx (by assumption)
   simp; omega
  ·cases hk
 have h2 : (l.drop (i + 1)).filter (fun y => !decide (y.id = x.id)) = l.drop (i + 1) := List.filter_eq_self.2 fun y hy => by
  obtain ⟨k, hk⟩ := List.getElem?_of_mem hy; rw [List.getElem?_drop] at hk; have := asc_at h hx hk (by omega)
  simp; omega
 rw [delI]
 conv => lhs; rw [e]
 rw [List.filter_append, List.filter_cons_of_neg (by simp), h1, h2]
theorem delI_asc {l : List It} (h : Asc l) (id : Int) : Asc (delI l id) := List.Pairwise.filter _ h
theorem sel_del (c : Ac) (k : ByteArray) (l : List It) (id : Int) : sel c k (delI l id) = (sel c k l).filter fun n => !decide (n = id) := by
 unfold sel delI; exact filter_map_id (p := fun n => !decide (n = id))
theorem asc_eq {l : List It} (h : Asc l) {x y : It} (hx : x ∈ l) (hy : y ∈ l) (e : x.id = y.id) : x = y := by
 obtain ⟨i, hi⟩ := List.getElem?_of_mem hx; obtain ⟨j, hj⟩ := List.getElem?_of_mem hy; rcases Nat.lt_trichotomy i j with h1 | rfl | h1
 ·have := asc_at h hi hj h1; omega
 ·rw [hi] at hj; cases hj; rfl
 ·have := asc_at h hj hi h1; omega
theorem sel_del_same {c : Ac} {k : ByteArray} {l : List It} (h : Asc l) {i : It} (hi : i ∈ l) (hh : (c.has i.atom.name i.atom.args && decide (txtB (keyOf c i.atom.args) = k)) = false) : sel c k (delI l i.id) = sel c k l := by
 rw [sel_del]; refine List.filter_eq_self.2 fun n hn => ?_; unfold sel at hn; obtain ⟨x, hx, rfl⟩ := List.mem_map.1 hn; obtain ⟨h1, h2⟩ := List.mem_filter.1 hx
 have hne : ¬ x.id = i.id := fun e => by
  rw [asc_eq h h1 hi e] at h2; rw [hh] at h2; cases h2
 simpa using hne
theorem TabIs.drop {c : Ac} {its : List It} {l : List TR} (h : TabIs c its l) (ha : Asc its) {i : It} (hi : i ∈ its) (hh : c.has i.atom.name i.atom.args = false) : TabIs c (delI its i.id) l := by
 have e : ∀ k, sel c k (delI its i.id) = sel c k its := fun k => sel_del_same ha hi (by simp [hh])
 exact ⟨fun r hr => by rw [e]; exact h.ids r hr, fun k hk => h.all k (by rw [← e]; exact hk)⟩
theorem TabIs.del {c : Ac} {its its' : List It} {l : List TR} {key : ByteArray} (h : TabIs c its l) (hk : ∀ k, k ≠ key -> sel c k its' = sel c k its) (hr : sel c key its' = []) : TabIs c its' (tbDel l key) := by
 refine ⟨fun q hq => ?_, fun k hk' => ?_⟩
 ·obtain ⟨h1, h2⟩ := List.mem_filter.1 hq; rw [hk q.key (by simpa using h2)]
  exact h.ids q h1
 ·have e : k ≠ key := fun e => by rw [e, hr] at hk'; exact hk' rfl
  rw [hk k e] at hk'; obtain ⟨q, h1, h2⟩ := h.all k hk'; exact ⟨q, List.mem_filter.2 ⟨h1, by rw [h2]; simpa using e⟩, h2⟩
theorem ElN.itAtom {e : List (Nat × AV)} {bs : List Box} {lo b k i : Nat} {l : List It} {x : It} {K : AV -> Prop} (hb : bs[b]? = some (rowF It.av 3 k l)) (hx : l[i]? = some x) (h : K (.agg [.str x.atom.name, .sl .no (x.atom.args.map Tm.av)])) : ElN true 2 ⟨e, bs, lo⟩ (.elp b i 3 1) K := by
 refine ⟨?_⟩; have hi := (List.getElem?_eq_some_iff.1 hx).1
 have e2 : cellsOf (l.map It.av) = cellsOf ((l.take i).map It.av) ++ (x.av.cells ++ cellsOf ((l.drop (i + 1)).map It.av)) := by
  have e3 : l = l.take i ++ x :: l.drop (i + 1) := by
   rw [← (List.getElem?_eq_some_iff.1 hx).2, ← List.drop_eq_getElem_cons hi, List.take_append_drop]
  conv => lhs; rw [e3]
  rw [List.map_append, List.map_cons, cellsOf_app, cellsOf]
 have h1 : (cellsOf ((l.take i).map It.av)).length = i * 3 := by rw [plainIt.len, List.length_take, Nat.min_eq_left (by omega)]
 simp only [St.rd, rowF_cells plainIt hb hx]; rw [e2, List.append_assoc, List.drop_append, List.drop_eq_nil_of_le (by omega), h1]
 rw [show i * 3 + 1 - i * 3 = 1 by omega]
 simp only [It.av, AV.cells, List.cons_append, List.nil_append, List.drop_succ_cons, List.drop_zero, List.map_cons, AV.deown, loadK]; rw [show Nat.ble 2 _ = true from Nat.ble_eq_true_of_le (by simp only [List.length_cons]; omega)]
 exact h
set_option maxRecDepth 100000 in
set_option maxHeartbeats 2000000 in
theorem ixDelete_ok {V : Nat -> Prop} {bs : List Box} {p : Nat} {acc : List Ac} {its : List It} {id : Int} (h : IxAt V bs p acc its) (hV : ∀ b, V b -> b < bs.length) (ha : AllOk acc its) :
  AM.Sem Tryz.prog 16 [.ptr p 0, .int .i64 id] bs fun r bs' => r = .bool (hasI its id) ∧ IxAt V bs' p acc (delI its id) ∧ bs.length ≤ bs'.length ∧ ∀ b, b < bs.length -> V b -> b ≠ p -> bs'[b]? = bs[b]? := by
 obtain ⟨bi, ki, t, kt, cs, hI, n1, n2, n3, n4⟩ := h; obtain ⟨l1, l2, l3, l4⟩ := hI.lt; have hfew := ha.few; have hcl := hI.len; have hacc := ha.accs; have hI1 := (hI.snoc (.cells [.ptr p 0])).snoc (.cells [.int .i64 id]); obtain ⟨B1, hB1⟩ : ∃ B1, B1 = bs ++ [Box.cells [.ptr p 0]] ++ [Box.cells [.int .i64 id]] := ⟨_, rfl⟩; have hlen1 : B1.length = bs.length + 2 := by rw [hB1]; simp
 have e2 : B1[bs.length]? = some (.cells [.ptr p 0]) := by rw [hB1]; simp
 have e3 : B1[bs.length + 1]? = some (.cells [.int .i64 id]) := by rw [hB1]; simp [List.getElem?_append]
 have hold1 : ∀ b, b < bs.length -> B1[b]? = bs[b]? := fun b hb => by rw [hB1, List.append_assoc, List.getElem?_append_left hb]
 have x2 : boxCells B1 bs.length = some [.ptr p 0] := by simp [boxCells, e2, Box.cs?]
 have x3 : boxCells B1 (bs.length + 1) = some [.int .i64 id] := by simp [boxCells, e3, Box.cs?]
 rw [← hB1] at hI1; refine opS_p_index_Index_Delete (by simp) ?_
 conv => whnf
 try dsimp only
 repeat' ((first | (refine gC ?_; refine cN ?_) | (refine gB ?_; first | refine .last ?_ | refine .last2 ?_)) <;> (conv => whnf; try dsimp only))
 rw [← hB1, show (bs ++ [Box.cells [AV.ptr p 0]]).length = bs.length + 1 by simp]
 refine CallN.raw (ixFind_ok hI1 ha.asc (by omega)) ?_
 rintro r b' ⟨rfl, rfl⟩
 cases hh : hasI its id with
 | false =>
  conv => whnf
  try dsimp only
  repeat' ((refine gC ?_; first | refine cN ?_ | refine .not ?_) <;> (conv => whnf; try dsimp only))
  refine ⟨_, Weak.refl _, .inl ⟨rfl, ?_, by show bs.length ≤ b'.length; omega, fun b hb _ _ => hold1 b hb⟩⟩
  have e : delI its id = its := List.filter_eq_self.2 fun x hx => by
   have := List.any_eq_false.1 hh x hx; simpa using this
  rw [e]
  exact ⟨bi, ki, t, kt, cs, hI1, n1, n2, n3, n4⟩
 | true =>
  obtain ⟨i, hi, rfl⟩ := has_at ha.asc hh; have him := List.mem_of_getElem? hi; obtain ⟨at_, hat⟩ : ∃ at_, at_ = posI its i.id := ⟨_, rfl⟩; rw [← hat] at hi ⊢; have hatl := (List.getElem?_eq_some_iff.1 hi).1; have hb0 : boxCells b' p = some [slA Ac.av acc, .bsl bi its.length ki, .bsl t cs.length kt] := by simp [boxCells, hI1.str, Box.cs?]
  conv => whnf
  try dsimp only
  repeat' ((first | (refine gC ?_; first | refine cY ?_ | refine .not ?_) | (refine gN ?_; refine nS ?_) | (refine gB ?_; refine .of (by assumption) ?_)) <;> (conv => whnf; try dsimp only))
  refine ElN.itAtom hI1.items (by simpa using hi) ?_
  conv => whnf
  try dsimp only
  skip; refine CallN.raw ixKeys_ok ?_; rintro r b4 ⟨rfl, rfl⟩
  conv => whnf
  try dsimp only
  skip; obtain ⟨B4, hB4⟩ : ∃ B4, B4 = b' ++ [Box.cells [AV.ptr p 0]] ++ [Box.cells [AV.str i.atom.name, AV.sl Cap.no (List.map Tm.av i.atom.args)]] := ⟨_, rfl⟩; have hl4 : B4.length = bs.length + 4 := by rw [hB4]; simp; omega
  have f0 : B4[bs.length]? = some (.cells [.ptr p 0]) := by rw [hB4, List.append_assoc, List.getElem?_append_left (by omega)]; exact e2
  have f1 : B4[bs.length + 1]? = some (.cells [.int .i64 i.id]) := by rw [hB4, List.append_assoc, List.getElem?_append_left (by omega)]; exact e3
  have f2 : B4[bs.length + 2]? = some (.cells [.ptr p 0]) := by rw [hB4, ← hlen1]; simp [List.getElem?_append]
  have f3 : B4[bs.length + 3]? = some (.cells [AV.str i.atom.name, AV.sl Cap.no (List.map Tm.av i.atom.args)]) := by rw [hB4, show bs.length + 3 = b'.length + 1 by omega]; simp [List.getElem?_append]
  have hold : ∀ b, b < bs.length -> B4[b]? = bs[b]? := fun b hb => by
   rw [hB4, List.append_assoc, List.getElem?_append_left (by omega), hold1 b hb]
  have hI4 : IdxG B4 p acc its (fun _ => its) bi ki t kt cs := by rw [hB4]; exact (hI1.snoc _).snoc _
  rw [← hB4, show b'.length = bs.length + 2 from hlen1]; simp only [Nat.add_assoc, Nat.reduceAdd]; have he := ha.ent i him; clear hB4 hI1 hb0 x2 x3 e2 e3 hold1 hB1 hlen1; clear b'; refine RangeP.run (gf := 108) (lb := [.ptr (bs.length + 2) 0, .ptr (bs.length + 3) 0]) ⟨[(2, AV.ptr bs.length 0), (3, AV.ptr (bs.length + 1) 0), (4, AV.bool false), (5, AV.int IntKind.i64 at_), (29, .fn (.func 108) [] [.ptr (bs.length + 2) 0, .ptr (bs.length + 3) 0])], B4, bs.length⟩ ⟨Weak.refl _⟩ rfl (by kernel_rfl) fun x hx => ?_
  rw [hl4] at hx ⊢; obtain ⟨J, hJ⟩ : ∃ J : Nat -> List Box -> Prop, J = fun j b => IdxG b p acc its (fun k => if k < j then delI its i.id else its) bi ki t kt cs ∧ b[bs.length]? = some (.cells [.ptr p 0]) ∧ b[bs.length + 1]? = some (.cells [AV.int IntKind.i64 i.id]) ∧ b[bs.length + 2]? = some (.cells [.ptr p 0]) ∧ b[bs.length + 3]? = some (.cells [AV.str i.atom.name, AV.sl Cap.no (List.map Tm.av i.atom.args)]) ∧ b[bs.length + 4]? = some (.loop x) ∧ ∀ k, k < bs.length -> k ∉ cs -> b[k]? = bs[k]? := ⟨_, rfl⟩
  have hK : KeyInv (B4 ++ [.loop x]) (bs.length + 4) (bs.length + 2) (bs.length + 3) p acc i.atom.name i.atom.args J := by
   refine ⟨fun j b hj => ?_, fun j b hj => ?_, fun j b hj => ?_, fun j b y hj => ?_, fun j b c hj hc hh => ?_, fun j b c hj hc hh => ?_⟩
   ·rw [hJ] at hj; exact hj.2.2.2.1
   ·rw [hJ] at hj; exact hj.2.2.2.2.1
   ·rw [hJ] at hj; exact ⟨_, _, hj.1.str⟩
   ·rw [hJ] at hj ⊢; obtain ⟨a1, a2, a3, a4, a5, a6, a7⟩ := hj; have hlt := (List.getElem?_eq_some_iff.1 a6).1; refine ⟨a1.snoc y, ?_, ?_, ?_, ?_, ?_, fun k hk hkc => ?_⟩
    all_goals rw [List.getElem?_append_left (by omega)]
    all_goals first | assumption | exact a7 k hk hkc
   ·rw [hJ] at hj ⊢; obtain ⟨a1, a2⟩ := hj; refine ⟨⟨a1.str, a1.items, a1.le, a1.tabs, a1.tle, a1.len, a1.nod, fun k d a hd ha' => ?_⟩, a2⟩; obtain ⟨y, l, h1, h2, h3⟩ := a1.tab k d a hd ha'; refine ⟨y, l, h1, h2, ?_⟩
    by_cases e : k = j
    ·subst e; rw [hc] at ha'; cases ha'; rw [if_neg (Nat.lt_irrefl _)] at h3; rw [if_pos (Nat.lt_succ_self _)]; exact h3.drop ha.asc him hh
    ·by_cases e2 : k < j
     ·rw [if_pos e2] at h3; rw [if_pos (by omega)]; exact h3
     ·rw [if_neg e2] at h3; rw [if_neg (by omega)]; exact h3
   ·refine hx _ _ _ ?_ rfl ?_
    ·rw [hJ] at hj; simp [boxLoop, hj.2.2.2.2.2.1, Box.lb?]
    rw [hJ] at hj; obtain ⟨a1, a2, a3, a4, a5, a6, a7⟩ := hj; have hL := (List.getElem?_eq_some_iff.1 a6).1
    conv => whnf
    try dsimp only
    skip; refine AsgP.mk (by simp [boxLoop, a6, Box.lb?]) ?_
    obtain ⟨B5, hB5⟩ : ∃ B5, B5 = b.set (bs.length + 4) Box.dead := ⟨_, rfl⟩; have k5 : ∀ k, k ≠ bs.length + 4 -> B5[k]? = b[k]? := fun k hk => by rw [hB5, List.getElem?_set_ne (Ne.symm hk)]
    have l5 : B5.length = b.length := by rw [hB5, List.length_set]
    have g1 : IdxG B5 p acc its (fun k => if k < j then delI its i.id else its) bi ki t kt cs := a1.mono fun k hk => k5 k (by
     rcases hk with rfl | rfl | rfl | hk
     ·omega
     ·omega
     ·omega
     ·have := l4 k hk; omega)
    have b2 : boxCells B5 bs.length = some [.ptr p 0] := by simp [boxCells, k5 _ (show bs.length ≠ bs.length + 4 by omega), a2, Box.cs?]
    have b3 : boxCells B5 (bs.length + 1) = some [AV.int IntKind.i64 i.id] := by simp [boxCells, k5 _ (show bs.length + 1 ≠ bs.length + 4 by omega), a3, Box.cs?]
    have b4 : boxCells B5 p = some [slA Ac.av acc, .bsl bi its.length ki, .bsl t cs.length kt] := by simp [boxCells, g1.str, Box.cs?]
    have hjl : j < cs.length := by rw [hcl]; exact (List.getElem?_eq_some_iff.1 hc).1
    rw [← hB5]; obtain ⟨cj, hcj⟩ : ∃ cj, cs[j]? = some cj := ⟨_, List.getElem?_eq_getElem hjl⟩; obtain ⟨y, l, y1, y2, y3⟩ := g1.tab j cj c hcj hc
    conv => whnf
    try dsimp only
    repeat' ((first | (refine gN ?_; refine nS ?_) | (refine gB ?_; refine .of (by assumption) ?_)) <;> (conv => whnf; try dsimp only))
    refine ElN.one (fun _ => ⟨rfl, rfl⟩) (l := cs) (x := cj) g1.tabs (by simpa using hcj) ?_
    conv => whnf
    try dsimp only
    skip; have y3 : TabIs c its l := by have := y3; rwa [if_neg (Nat.lt_irrefl _)] at this
    have hcm := List.mem_of_getElem? hcj; have hcl2 := l4 cj hcm; obtain ⟨m1, m2, m3⟩ := g1.ne hcm; have hsel := sel_del c (txtB (keyOf c i.atom.args)) its i.id
    have hids : i.id ∈ sel c (txtB (keyOf c i.atom.args)) its := by
     unfold sel; exact List.mem_map.2 ⟨i, List.mem_filter.2 ⟨him, by simp [hh]⟩, rfl⟩
    refine ⟨⟨cj, y, l, txtB (keyOf c i.atom.args), rfl, y1, y2, fun r hr hkr => ?_, fun hno => ?_⟩⟩
    ·have hri := (y3.ids r hr).1; have hrl : r.ids.length ≤ 100000 := by rw [hri]; exact Nat.le_trans (sel_len _ _ _) hfew
     conv => whnf
     try dsimp only
     skip; refine CallN.raw (tabDelF (b := cj) (q := bs.length + 1) (x := y) (l := l) (r := r) (id := i.id) y1 y2 hr (by rw [k5 _ (by omega)]; exact a3) (by omega)) ?_
     rintro v b8 ⟨r', x', rfl, hk', hids', hout, rfl⟩; obtain ⟨B6, hB6⟩ : ∃ B6, B6 = B5.set cj (.tab x') := ⟨_, rfl⟩; have k6 : ∀ k, k ≠ cj -> B6[k]? = B5[k]? := fun k hk => by rw [hB6, List.getElem?_set_ne (Ne.symm hk)]
     have l6 : B6.length = b.length := by rw [hB6, List.length_set, l5]
     have t6 : B6[cj]? = some (.tab x') := by rw [hB6, List.getElem?_set_self (by omega)]
     have c2 : boxCells B6 bs.length = some [.ptr p 0] := by simp [boxCells, k6 bs.length (by omega), k5 _ (show bs.length ≠ bs.length + 4 by omega), a2, Box.cs?]
     have c4 : boxCells B6 p = some [slA Ac.av acc, .bsl bi its.length ki, .bsl t cs.length kt] := by simp [boxCells, k6 p (Ne.symm m1), g1.str, Box.cs?]
     have c5 : B6[t]? = some (rowF AV.mpt 1 kt cs) := by rw [k6 t (Ne.symm m3)]; exact g1.tabs
     have fin : ∀ (x2 : TB) (l2 : List TR), TbOk x2 l2 -> TabIs c (delI its i.id) l2 -> J (j + 1) ((B6.set cj (.tab x2)).set (bs.length + 4) (.loop x)) := fun x2 l2 q1 q2 => by
      rw [hB6, List.set_set, hJ]
      have old : ∀ k, k ≠ cj -> k ≠ bs.length + 4 -> ((B5.set cj (.tab x2)).set (bs.length + 4) (.loop x))[k]? = b[k]? := fun k h2 h3 => by
       rw [List.getElem?_set_ne (Ne.symm h3), List.getElem?_set_ne (Ne.symm h2), k5 k h3]
      have g2 : IdxG ((B5.set cj (.tab x2)).set (bs.length + 4) (.loop x)) p acc its (fun k => if k < j + 1 then delI its i.id else its) bi ki t kt cs := by
       refine (g1.setTab hcj hc q1 (g := fun k => if k < j + 1 then delI its i.id else its) (by simpa using q2) fun k hk => ?_).mono fun k hk => ?_
       ·by_cases e : k < j
        ·rw [if_pos e, if_pos (by omega)]
        ·rw [if_neg e, if_neg (by omega)]
       ·refine List.getElem?_set_ne ?_; rcases hk with rfl | rfl | rfl | hk
        ·omega
        ·omega
        ·omega
        ·have := l4 k hk; omega
      refine ⟨g2, ?_, ?_, ?_, ?_, ?_, fun k hk hkc => ?_⟩
      ·rw [old _ (by omega) (by omega)]; exact a2
      ·rw [old _ (by omega) (by omega)]; exact a3
      ·rw [old _ (by omega) (by omega)]; exact a4
      ·rw [old _ (by omega) (by omega)]; exact a5
      ·rw [List.getElem?_set_self (by simp; omega)]
      ·rw [old k (fun e => hkc (e ▸ hcm)) (by omega)]; exact a7 k hk hkc
     rw [← hB6]; have hsame : ∀ k, k ≠ txtB (keyOf c i.atom.args) -> sel c k (delI its i.id) = sel c k its := fun k hk => sel_del_same ha.asc him (by simp [Ne.symm hk])
     have hrid : r'.ids = sel c (txtB (keyOf c i.atom.args)) (delI its i.id) := by rw [hids', hri, hkr, hsel]
     cases hids0 : r'.ids with
     | nil =>
      have hlit : r'.ids.length = 0 := by rw [hids0]; rfl
      conv => whnf
      try dsimp only
      repeat' ((first | (refine gC ?_; (refine gD ?_; refine cI ?_)) | (refine gN ?_; refine nS ?_) | (refine gB ?_; refine .of (by assumption) ?_)) <;> (conv => whnf; try dsimp only))
      refine ElN.one (fun _ => ⟨rfl, rfl⟩) (l := cs) (x := cj) c5 (by simpa using hcj) ?_
      conv => whnf
      try dsimp only
      skip; refine ⟨⟨cj, x', l, r', by rw [hk', hkr]; rfl, t6, hout, fun x2 hx2 => ?_⟩⟩
      conv => whnf
      try dsimp only
      skip; refine ⟨_, Weak.refl _, rfl, fin _ _ hx2 ?_⟩; rw [hk', hkr]
      exact y3.del hsame (by rw [← hrid, hids0])
     | cons n0 ns =>
      have hlit : ¬ ((r'.ids.length : Int) = 0) := by rw [hids0]; simp; omega
      conv => whnf
      try dsimp only
      repeat' ((first | (refine gC ?_; (refine gD ?_; refine cJ ?_)) | (refine gN ?_; refine nS ?_) | (refine gB ?_; refine .of (by assumption) ?_)) <;> (conv => whnf; try dsimp only))
      refine ElN.one (fun _ => ⟨rfl, rfl⟩) (l := cs) (x := cj) c5 (by simpa using hcj) ?_
      conv => whnf
      try dsimp only
      skip; refine ⟨⟨cj, x', l, r', by rw [hk', hkr]; rfl, t6, hout, fun x2 hx2 => ?_⟩⟩
      conv => whnf
      try dsimp only
      skip; refine ⟨_, Weak.refl _, rfl, fin _ _ hx2 ?_⟩; refine y3.put y2.nodK (fun k hk => hsame k (by rw [hk', hkr] at hk; exact hk)) (by rw [hk', hkr]; exact hrid) (by rw [hids0]; simp)
    ·obtain ⟨r, hr1, hr2⟩ := y3.all (txtB (keyOf c i.atom.args)) (fun e => by rw [e] at hids; cases hids)
     exact absurd hr2 (hno r hr1)
  refine ⟨_, ixKeys1_ok hK ?_ he.io he.pos he.len hacc ha.poss, ?_⟩
  ·rw [hJ]; refine ⟨?_, ?_, ?_, ?_, ?_, ?_, fun k hk hkc => ?_⟩
   ·simpa using hI4.snoc _
   all_goals first | (rw [List.getElem?_append_left (by show _ < B4.length; omega)]; first | assumption | exact hold k hk) | (rw [← hl4]; simp)
  ·rintro r b5 ⟨rfl, hj⟩; rw [hJ] at hj; obtain ⟨a1, a2, a3, a4, a5, a6, a7⟩ := hj; refine ⟨by simp [boxLoop, a6, Box.lb?], ?_⟩
   have hL := (List.getElem?_eq_some_iff.1 a6).1; obtain ⟨B6, hB6⟩ : ∃ B6, B6 = b5.set (bs.length + 4) Box.dead := ⟨_, rfl⟩; have l6 : B6.length = b5.length := by rw [hB6, List.length_set]
   have k6 : ∀ k, k ≠ bs.length + 4 -> B6[k]? = b5[k]? := fun k hk => by rw [hB6, List.getElem?_set_ne (Ne.symm hk)]
   have g1 : IdxG B6 p acc its (fun k => if k < acc.length then delI its i.id else its) bi ki t kt cs := a1.mono fun k hk => k6 k (by
    rcases hk with rfl | rfl | rfl | hk
    ·omega
    ·omega
    ·omega
    ·have := l4 k hk; omega)
   have c2 : boxCells B6 bs.length = some [.ptr p 0] := by simp [boxCells, k6 bs.length (by omega), a2, Box.cs?]
   have c4 : boxCells B6 p = some [slA Ac.av acc, .bsl bi its.length ki, .bsl t cs.length kt] := by simp [boxCells, g1.str, Box.cs?]
   rw [← hB6]; clear hB6
   conv => whnf
   try dsimp only
   repeat' ((first | (refine gW ?_; refine wI ?_) | (refine gB ?_; refine .of (by assumption) ?_)) <;> (conv => whnf; try dsimp only))
   refine CallN.raw (delItems (b := bi) (l := its) g1.items hatl g1.le (by omega)) ?_
   rintro r b8 ⟨rfl, rfl⟩
   have hpbi : p ≠ bi := fun e => by
    have h1 := hI.str; have h2 := hI.items; rw [e, h2] at h1; cases h1
   have hptb : p ≠ t := fun e => by
    have h1 := hI.str; have h2 := hI.tabs; rw [e, h2] at h1; cases h1
   conv => whnf
   refine ⟨.inr ?_, ?_⟩
   ·conv => whnf
    repeat' (first | exact True.intro | refine And.intro (cellsD_kill (by omega) (by first | omega | (simp; done) | (simp; omega))) ?_)
   conv => whnf
   try dsimp only
   skip; obtain ⟨B7, hB7⟩ : ∃ B7, B7 = B6.set bi Box.dead ++ [rowF It.av 3 ki (its.take at_ ++ its.drop (at_ + 1))] := ⟨_, rfl⟩; have l7 : B7.length = B6.length + 1 := by rw [hB7]; simp
   have k7 : ∀ b, b < B6.length -> b ≠ bi -> B7[b]? = B6[b]? := fun b hb hne => by
    rw [hB7, List.getElem?_append_left (by simp; omega), List.getElem?_set_ne (Ne.symm hne)]
   have r7 : B7[B6.length]? = some (rowF It.av 3 ki (delI its i.id)) := by
    rw [hB7, List.getElem?_append_right (by simp), delI_at ha.asc hi]
    simp
   rw [← hB7]; clear hB7; refine BxAt.of (cs := [slA Ac.av acc, .bsl bi its.length ki, .bsl t cs.length kt]) (by simp [boxCells, k7 p (by omega) hpbi, g1.str, Box.cs?]) ?_
   conv => whnf
   try dsimp only
   skip; refine ⟨?_⟩; obtain ⟨B8, hB8⟩ : ∃ B8, B8 = B7.set p (Box.cells [.sl .no (acc.map Ac.av), AV.bsl B6.length (its.length - 1) ki, AV.bsl t cs.length kt]) := ⟨_, rfl⟩; rw [← hB8]
   have hdl : (delI its i.id).length = its.length - 1 := by
    rw [delI_at ha.asc hi, List.length_append, List.length_take, List.length_drop]; omega
   have l8 : B8.length = B6.length + 1 := by rw [hB8, List.length_set, l7]
   have s8 : B8[p]? = some (.cells [slA Ac.av acc, .bsl B6.length (delI its i.id).length ki, .bsl t cs.length kt]) := by rw [hB8, List.getElem?_set_self (by omega), hdl]
   have k8 : ∀ b, b < B6.length -> b ≠ bi -> b ≠ p -> B8[b]? = B6[b]? := fun b h1 h2 h3 => by rw [hB8, List.getElem?_set_ne (Ne.symm h3), k7 b h1 h2]
   have r8 : B8[B6.length]? = some (rowF It.av 3 ki (delI its i.id)) := by rw [hB8, List.getElem?_set_ne (by omega)]; exact r7
   clear hB8
   conv => whnf
   try dsimp only
   skip; refine ⟨_, Weak.refl _, .inl ⟨rfl, ⟨B6.length, ki, t, kt, cs, ⟨s8, r8, by rw [hdl]; have := g1.le; omega, ?_, g1.tle, g1.len, g1.nod, fun k c a hc ha' => ?_⟩, fun h => by have := hV _ h; omega, n2, n3, by omega⟩, by show bs.length ≤ B8.length; omega, fun b hb hVb hbp => ?_⟩⟩
   ·show B8[t]? = _; rw [k8 t (by omega) n4 (Ne.symm hptb)]; exact g1.tabs
   ·have hcm := List.mem_of_getElem? hc; obtain ⟨m1, m2, m3⟩ := g1.ne hcm; have := l4 c hcm; obtain ⟨x1, l1', h1, h2, h3⟩ := g1.tab k c a hc ha'; refine ⟨x1, l1', ?_, h2, ?_⟩
    ·show B8[c]? = _; rw [k8 c (by omega) m2 m1]; exact h1
    ·rwa [if_pos (List.getElem?_eq_some_iff.1 ha').1] at h3
   ·show B8[b]? = _; rw [k8 b (by omega) (fun e => n1 (e ▸ hVb)) hbp, k6 b (by omega), a7 b hb (fun hc => n3 b hc hVb)]
end Go.CK
namespace Go.CK
open Go.AM Go.Proofs
def findR (acc : List Ac) (its : List It) (k : Int) (key : List Tm) : List Int :=
 if 0 ≤ k then match acc[k.toNat]? with
  | some c => if key.length = c.positions.length then sel c (txtB key) its else []
  | none => []
 else []
theorem IxAt.pre {V : Nat -> Prop} {bs b2 : List Box} {p : Nat} {acc : List Ac} {its : List It} (h : IxAt V bs p acc its) (hb : Pre bs b2) : IxAt V b2 p acc its := by
 obtain ⟨X, rfl⟩ := hb.app; exact h.app X
set_option maxRecDepth 100000 in
set_option maxHeartbeats 1000000 in
theorem ixItems_ok {V : Nat -> Prop} {bs : List Box} {p : Nat} {acc : List Ac} {its : List It} (h : IxAt V bs p acc its) (ha : AllOk acc its) :
  AM.Sem Tryz.prog 12 [.ptr p 0] bs fun r bs' => r = slA It.av its ∧ Pre bs bs' := by
 obtain ⟨bi, ki, t, kt, cs, hI, n1, n2, n3, n4⟩ := h; obtain ⟨l1, l2, l3, l4⟩ := hI.lt; have hfew := ha.few; have hb0 : boxCells bs p = some [slA Ac.av acc, .bsl bi its.length ki, .bsl t cs.length kt] := by simp [boxCells, hI.str, Box.cs?]
 refine opS_p_index_Index_Items (by simp) ?_
 conv => whnf
 try dsimp only
 repeat' ((first | (refine gC ?_; refine cN ?_) | (refine gB ?_; refine .of (by assumption) ?_)) <;> (conv => whnf; try dsimp only))
 refine LoopP.by (fb := false) (fun st_ (a : Nat × List Box) => ⟨[(3, .sl (.own 3) ((its.take a.1).map It.av)), (11, .bsl bi its.length ki), (12, .int .i64 its.length), (13, .int .i64 (a.1 : Int))], a.2, bs.length⟩) (fun a => a.1 ≤ its.length ∧ Pre bs a.2) (fun a => its.length - a.1) (0, bs) ⟨Nat.zero_le _, ⟨Nat.le_refl _, fun _ _ => rfl⟩⟩ ?_ ?_
 ·refine EndN.atS ?_ rfl rfl
  conv => whnf
  repeat' ((first | (refine gV ?_; first | refine vE ?_ | refine vI ?_ | ((refine gK ?_; refine vD ?_ ?_); (focus (simp [AV.norm, AV.norm1, ]; done)))) | exact True.intro) <;> conv => whnf)
 ·rintro ⟨j, b2⟩ ⟨q1, q2⟩; dsimp only at q1 q2
  by_cases hj : j < its.length
  ·obtain ⟨i, hi⟩ : ∃ i, its[j]? = some i := ⟨_, List.getElem?_eq_getElem hj⟩
   conv => whnf
   try dsimp only
   repeat' ((first | (refine gC ?_; (refine gD ?_; refine cI ?_)) | (refine gN ?_; refine nS ?_)) <;> (conv => whnf; try dsimp only))
   refine ElN.elem plainIt (l := its) (x := i) (by rw [q2.2 bi l2]; exact hI.items) (by simpa using hi) ?_
   conv => whnf
   try dsimp only
   repeat' ((first | (refine gF ?_; refine CallN.fn (own_ok i (ha.ent i (List.mem_of_getElem? hi)).nds) ?_) | (refine gW ?_; refine wI ?_) | (refine gN ?_; refine nS ?_) | (refine gB ?_; refine .last ?_) | refine BxSet.last ?_) <;> (conv => whnf; try dsimp only))
   refine ⟨(j + 1, b2 ++ [Box.cells [AV.int IntKind.i64 i.id, AV.str i.atom.name, AV.sl Cap.no (List.map Tm.av i.atom.args)]]), ⟨⟨hj, q2.snoc _⟩, by dsimp only; omega⟩, ?_⟩
   rw [show its.take (j + 1) = its.take j ++ [i] by rw [List.take_add_one, hi]; rfl, List.map_append]
   simp only [List.map_cons, List.map_nil, It.av]; refine EndN.atS ?_ rfl rfl
   conv => whnf
   repeat' ((first | (refine gV ?_; first | refine vE ?_ | refine vI ?_) | exact True.intro) <;> conv => whnf)
  ·obtain rfl : j = its.length := by omega
   conv => whnf
   try dsimp only
   repeat' ((refine gC ?_; (refine gD ?_; refine cJ ?_)) <;> (conv => whnf; try dsimp only))
   rw [List.take_of_length_le (Nat.le_refl _)]; refine ⟨_, Weak.refl _, .inr ?_⟩
   conv => whnf
   exact ⟨rfl, q2⟩
set_option maxRecDepth 100000 in
set_option maxHeartbeats 1000000 in
theorem ixFindM_ok {V : Nat -> Prop} {bs : List Box} {p : Nat} {acc : List Ac} {its : List It} {k : Int} {key : List Tm} (h : IxAt V bs p acc its) (ha : AllOk acc its) (hio : Tm.ios key) (hlen : (txtL key).length ≤ 100000000) (hk : key.length ≤ 10000000) :
  AM.Sem Tryz.prog 13 [.ptr p 0, .int .i64 k, slA Tm.av key] bs fun r bs' => r = slA intA (findR acc its k key) ∧ bs' = bs := by
 obtain ⟨bi, ki, t, kt, cs, hI, n1, n2, n3, n4⟩ := h; have hfew := ha.few; have hacc := ha.accs; have hb0 : boxCells bs p = some [slA Ac.av acc, .bsl bi its.length ki, .bsl t cs.length kt] := by simp [boxCells, hI.str, Box.cs?]
 have hcl := hI.len; have htx := text_ok hio hlen; refine opS_p_index_Index_Find (by simp) ?_
 unfold findR
 by_cases h0 : 0 ≤ k
 ·rw [if_pos h0]; obtain ⟨n, rfl⟩ := Int.eq_ofNat_of_zero_le h0; rw [Int.toNat_natCast]
  cases hc : acc[n]? with
  | none =>
   have hn := List.getElem?_eq_none_iff.1 hc
   conv => whnf
   try dsimp only
   repeat' ((first | (refine gC ?_; first | refine cY ?_ | refine cN ?_ | (refine gD ?_; first | refine cI ?_ | refine cJ ?_)) | (refine gL ?_; refine .map ?_) | (refine gB ?_; refine .of (by assumption) ?_)) <;> (conv => whnf; try dsimp only))
   refine ⟨_, Weak.refl _, .inr ?_⟩
   conv => whnf
   exact ⟨rfl, rfl⟩
  | some c =>
   have hn := (List.getElem?_eq_some_iff.1 hc).1; have hpl := ha.poss c (List.mem_of_getElem? hc); dsimp only
   by_cases hkl : key.length = c.positions.length
   ·rw [if_pos hkl]; obtain ⟨cj, hcj⟩ : ∃ cj, cs[n]? = some cj := ⟨_, List.getElem?_eq_getElem (by omega)⟩
    obtain ⟨y, l, y1, y2, y3⟩ := hI.tab n cj c hcj hc
    conv => whnf
    try dsimp only
    repeat' ((first | (refine gC ?_; first | refine cN ?_ | refine .not ?_ | (refine gD ?_; first | refine cI ?_ | refine cJ ?_)) | (refine gL ?_; refine .map ?_) | (refine gN ?_; refine nS ?_) | (refine gI ?_; (refine gM ?_; refine iE ?_)) | (refine gB ?_; refine .of (by assumption) ?_)) <;> (conv => whnf; try dsimp only))
    refine ElN.one (fun _ => ⟨rfl, rfl⟩) (l := cs) (x := cj) hI.tabs (by simpa using hcj) ?_
    conv => whnf
    try dsimp only
    repeat' ((refine gG ?_; refine CallP.fn (htx) ?_) <;> (conv => whnf; try dsimp only))
    refine ⟨⟨cj, y, l, txtB key, rfl, y1, y2, fun r hr hkr => ?_, fun hno => ?_⟩⟩
    ·have hids := (y3.ids r hr).1; have hrl : r.ids.length ≤ 100000 := by rw [hids]; exact Nat.le_trans (sel_len _ _ _) hfew
     conv => whnf
     try dsimp only
     skip; refine CallN.raw (tabClone (b := cj) (x := y) (l := l) (r := r) y1 y2 hr (by omega)) ?_
     rintro v b8 ⟨rfl, rfl⟩
     conv => whnf
     try dsimp only
     skip; refine ⟨_, Weak.refl _, .inl ⟨?_, rfl⟩⟩; rw [hids, hkr]; rfl
    ·have hse : sel c (txtB key) its = [] := by
      cases hs : sel c (txtB key) its with
      | nil => rfl
      | cons a q =>
       obtain ⟨r, hr1, hr2⟩ := y3.all (txtB key) (by rw [hs]; simp)
       exact absurd hr2 (hno r hr1)
     have hcn := cloneI_ok (l := []) (by simp)
     rw [hse]
     conv => whnf
     try dsimp only
     repeat' ((refine gF ?_; refine CallN.fn (hcn) ?_) <;> (conv => whnf; try dsimp only))
     exact ⟨_, Weak.refl _, .inl ⟨rfl, rfl⟩⟩
   ·rw [if_neg hkl]
    conv => whnf
    try dsimp only
    repeat' ((first | (refine gC ?_; first | refine cN ?_ | refine .not ?_ | (refine gD ?_; refine cJ ?_)) | (refine gL ?_; refine .map ?_) | (refine gI ?_; (refine gM ?_; refine iE ?_)) | (refine gB ?_; refine .of (by assumption) ?_)) <;> (conv => whnf; try dsimp only))
    refine ⟨_, Weak.refl _, .inr ?_⟩
    conv => whnf
    exact ⟨rfl, rfl⟩
 ·rw [if_neg h0]
  conv => whnf
  try dsimp only
  repeat' ((refine gC ?_; first | refine cY ?_ | refine cN ?_ | (refine gD ?_; refine cI ?_)) <;> (conv => whnf; try dsimp only))
  refine ⟨_, Weak.refl _, .inr ?_⟩
  conv => whnf
  exact ⟨rfl, rfl⟩
end Go.CK
namespace Go.CK
open Go.AM Go.Proofs
structure Op20 where
 kind : Int
 n : Int
 item : It
 key : List Tm
 binds : List Bnd
def Op20.av (o : Op20) : AV := .agg [.int .i64 o.kind, .int .i64 o.n, .int .i64 o.item.id, .str o.item.atom.name, .sl .no (o.item.atom.args.map Tm.av), .sl .no (o.key.map Tm.av), .sl .no (o.binds.map Bnd.av)]
theorem great_ok {l : List Tm} {most : Int} (b1 : -1 ≤ most) (b2 : most ≤ 100000) : Fun Tryz.prog 38 [slA Tm.av l, .int .i64 most] (.bool (decide (weighI l most 64 < 0))) := by
 have hw := weigh_ok (l := l) (left := most) (deep := 64) (by omega) (by omega) (by omega) (by omega)
 refine Fun.of (op_constraintref03_Great (by simp) ?_) rfl rfl
 conv => whnf
 conv => whnf
 repeat' ((first | (refine gF ?_; refine CallN.fn (hw) ?_) | refine RetP.nrm ?_) <;> conv => whnf)
 all_goals rfl
def fewI (i : It) : Bool := !greatP [at2 i.atom] 30
def fewA (a : Ac) : Bool := decide (a.name.size ≤ 60) && decide (a.positions.length ≤ 10)
def fewBd (b : Bnd) : Bool := !decide (weighI [b.t] 4 64 < 0)
def fewO (o : Op20) : Bool := decide (o.binds.length ≤ 6) && (fewI o.item && (!decide (weighI o.key 30 64 < 0) && o.binds.all fewBd))
def fewP (l : List It) (acc : List Ac) (ops : List Op20) : Bool := decide (l.length ≤ 15) && (decide (acc.length ≤ 6) && (decide (ops.length ≤ 30) && (l.all fewI && (acc.all fewA && ops.all fewO))))
theorem fewI_ok (i : It) : Fun Tryz.prog 37 [.sl .no [.agg [.str i.atom.name, .sl .no (i.atom.args.map Tm.av)]], .int .i64 30] (.bool (!fewI i)) := by
 have := greatAtoms_ok (l := [i.atom]) (most := 30) (by decide) (by decide)
 rw [fewI, Bool.not_not]; exact this
theorem all_step {α : Type} {f : α -> Bool} {l : List α} {j : Nat} {x : α} (hx : l[j]? = some x) : (l.drop j).all f = (f x && (l.drop (j + 1)).all f) := by
 obtain ⟨h1, rfl⟩ := List.getElem?_eq_some_iff.1 hx; rw [List.drop_eq_getElem_cons h1, List.all_cons]
set_option maxRecDepth 100000 in
set_option maxHeartbeats 1000000 in
theorem few_ok (l : List It) (acc : List Ac) (ops : List Op20) : Fun Tryz.prog 9 [slA It.av l, slA Ac.av acc, slA Op20.av ops] (.bool (fewP l acc ops)) := by
 unfold fewP
 by_cases h1 : l.length ≤ 15
 ·rw [decide_eq_true h1, Bool.true_and]
  by_cases h2 : acc.length ≤ 6
  ·rw [decide_eq_true h2, Bool.true_and]
   by_cases h3 : ops.length ≤ 30
   ·rw [decide_eq_true h3, Bool.true_and]; refine Fun.of (op_constraintlaw20_few (by simp) ?_) rfl rfl
    conv => whnf
    conv => whnf
    repeat' ((first | (refine gC ?_; (refine gD ?_; refine cJ ?_)) | (refine gL ?_; refine .map ?_)) <;> conv => whnf)
    refine LoopP.by (fb := true) (fun _ (j : Nat) => ⟨[(0, slA It.av l), (1, slA Ac.av acc), (2, slA Op20.av ops), (7, .int .i64 (j : Int))], [], 0⟩) (fun j => j ≤ l.length ∧ (l.drop j).all fewI = l.all fewI) (fun j => l.length - j) 0 ⟨Nat.zero_le _, rfl⟩ ?_ ?_
    ·exact endz
    ·rintro j ⟨q1, q2⟩
     by_cases hj : j < l.length
     ·obtain ⟨x, hx⟩ : ∃ x, l[j]? = some x := ⟨_, List.getElem?_eq_getElem hj⟩; rw [all_step hx] at q2; have hf := fewI_ok x
      cases hb : fewI x with
      | false =>
       rw [hb] at hf; rw [hb, Bool.false_and] at q2; rw [← q2, Bool.false_and]
       conv => whnf
       repeat' ((first | (refine gF ?_; refine CallN.fn (hf) ?_) | (refine gC ?_; first | refine cN ?_ | refine .not ?_ | (refine gD ?_; refine cI ?_)) | (refine gL ?_; refine .map ?_) | (refine gI ?_; (refine gM ?_; refine iE ?_)) | refine RetP.nrm ?_) <;> conv => whnf)
      | true =>
       rw [hb] at hf; rw [hb, Bool.true_and] at q2
       conv => whnf
       repeat' ((first | (refine gF ?_; refine CallN.fn (hf) ?_) | (refine gC ?_; first | refine cY ?_ | refine .not ?_ | (refine gD ?_; refine cI ?_)) | (refine gW ?_; refine wI ?_) | (refine gL ?_; refine .map ?_) | (refine gI ?_; (refine gM ?_; refine iE ?_))) <;> conv => whnf)
       refine ⟨j + 1, ⟨⟨hj, q2⟩, by omega⟩, ?_⟩
       exact endz
     ·obtain rfl : j = l.length := by omega
      rw [List.drop_length, List.all_nil] at q2; rw [← q2, Bool.true_and]
      conv => whnf
      repeat' ((first | (refine gC ?_; (refine gD ?_; refine cJ ?_)) | (refine gL ?_; refine .map ?_)) <;> conv => whnf)
      refine LoopP.by (fb := true) (fun _ (j : Nat) => ⟨[(1, slA Ac.av acc), (2, slA Op20.av ops), (8, .int .i64 (j : Int))], [], 0⟩) (fun j => j ≤ acc.length ∧ (acc.drop j).all fewA = acc.all fewA) (fun j => acc.length - j) 0 ⟨Nat.zero_le _, rfl⟩ ?_ ?_
      ·exact endz
      ·rintro j ⟨q1, q2⟩
       by_cases hj : j < acc.length
       ·obtain ⟨x, hx⟩ : ∃ x, acc[j]? = some x := ⟨_, List.getElem?_eq_getElem hj⟩; rw [all_step hx] at q2
        by_cases hn : x.name.size ≤ 60
        ·by_cases hpl : x.positions.length ≤ 10
         ·have hb : fewA x = true := by simp [fewA, hn, hpl]
          rw [hb, Bool.true_and] at q2
          conv => whnf
          repeat' ((first | (refine gC ?_; (refine gD ?_; first | refine cI ?_ | refine cJ ?_)) | (refine gW ?_; refine wI ?_) | (refine gL ?_; refine .map ?_) | (refine gI ?_; (refine gM ?_; refine iE ?_))) <;> conv => whnf)
          refine ⟨j + 1, ⟨⟨hj, q2⟩, by omega⟩, ?_⟩
          exact endz
         ·have hb : fewA x = false := by simp [fewA, hn, hpl]
          rw [hb, Bool.false_and] at q2; rw [← q2, Bool.false_and]
          conv => whnf
          repeat' ((first | (refine gC ?_; (refine gD ?_; first | refine cI ?_ | refine cJ ?_)) | (refine gL ?_; refine .map ?_) | (refine gI ?_; (refine gM ?_; refine iE ?_)) | refine RetP.nrm ?_) <;> conv => whnf)
        ·have hb : fewA x = false := by simp [fewA, hn]
         rw [hb, Bool.false_and] at q2; rw [← q2, Bool.false_and]
         conv => whnf
         repeat' ((first | (refine gC ?_; first | refine cY ?_ | (refine gD ?_; refine cI ?_)) | (refine gL ?_; refine .map ?_) | (refine gI ?_; (refine gM ?_; refine iE ?_)) | refine RetP.nrm ?_) <;> conv => whnf)
       ·obtain rfl : j = acc.length := by omega
        rw [List.drop_length, List.all_nil] at q2; rw [← q2, Bool.true_and]
        conv => whnf
        repeat' ((first | (refine gC ?_; (refine gD ?_; refine cJ ?_)) | (refine gL ?_; refine .map ?_)) <;> conv => whnf)
        refine LoopP.by (fb := true) (fun _ (j : Nat) => ⟨[(2, slA Op20.av ops), (9, .int .i64 (j : Int))], [], 0⟩) (fun j => j ≤ ops.length ∧ (ops.drop j).all fewO = ops.all fewO) (fun j => ops.length - j) 0 ⟨Nat.zero_le _, rfl⟩ ?_ ?_
        ·exact endz
        ·rintro j ⟨q1, q2⟩
         by_cases hj : j < ops.length
         ·obtain ⟨x, hx⟩ : ∃ x, ops[j]? = some x := ⟨_, List.getElem?_eq_getElem hj⟩; rw [all_step hx] at q2; have hf := fewI_ok x.item; have hg := great_ok (l := x.key) (most := 30) (by decide) (by decide)
          by_cases hn : x.binds.length ≤ 6
          ·cases hb : fewI x.item with
           | false =>
            rw [hb] at hf; rw [show fewO x = false by simp [fewO, hb], Bool.false_and] at q2
            rw [← q2]
            conv => whnf
            repeat' ((first | (refine gF ?_; refine CallN.fn (hf) ?_) | (refine gC ?_; first | refine cY ?_ | refine cN ?_ | refine .not ?_ | (refine gD ?_; first | refine cI ?_ | refine cJ ?_)) | (refine gL ?_; refine .map ?_) | (refine gI ?_; (refine gM ?_; refine iE ?_)) | refine RetP.nrm ?_) <;> conv => whnf)
           | true =>
            rw [hb] at hf
            by_cases hw : weighI x.key 30 64 < 0
            ·rw [decide_eq_true hw] at hg; rw [show fewO x = false by simp [fewO, hw], Bool.false_and] at q2
             rw [← q2]
             conv => whnf
             repeat' ((first | (refine gF ?_; first | refine CallN.fn (hf) ?_ | refine CallN.fn (hg) ?_) | (refine gC ?_; first | refine cY ?_ | refine .not ?_ | (refine gD ?_; first | refine cI ?_ | refine cJ ?_)) | (refine gL ?_; refine .map ?_) | (refine gI ?_; (refine gM ?_; refine iE ?_)) | refine RetP.nrm ?_) <;> conv => whnf)
            ·rw [decide_eq_false hw] at hg; have ho : fewO x = x.binds.all fewBd := by simp [fewO, hn, hb, hw]
             rw [ho] at q2
             conv => whnf
             repeat' ((first | (refine gF ?_; first | refine CallN.fn (hf) ?_ | refine CallN.fn (hg) ?_) | (refine gC ?_; first | refine cY ?_ | refine cN ?_ | refine .not ?_ | (refine gD ?_; first | refine cI ?_ | refine cJ ?_)) | (refine gL ?_; refine .map ?_) | (refine gI ?_; (refine gM ?_; refine iE ?_))) <;> conv => whnf)
             refine LoopP.by (fb := true) (fun _ (k : Nat) => ⟨[(2, slA Op20.av ops), (9, .int .i64 (j : Int)), (10, .int .i64 (k : Int))], [], 0⟩) (fun k => k ≤ x.binds.length ∧ (x.binds.drop k).all fewBd = x.binds.all fewBd) (fun k => x.binds.length - k) 0 ⟨Nat.zero_le _, rfl⟩ ?_ ?_
             ·exact endz
             ·rintro k ⟨p1, p2⟩
              by_cases hk : k < x.binds.length
              ·obtain ⟨b, hb⟩ : ∃ b, x.binds[k]? = some b := ⟨_, List.getElem?_eq_getElem hk⟩; rw [all_step hb] at p2; have hs := great_ok (l := [b.t]) (most := 4) (by decide) (by decide)
               simp only [slA, List.map_cons, List.map_nil, Tm.av_w] at hs
               by_cases hw4 : weighI [b.t] 4 64 < 0
               ·rw [decide_eq_true hw4] at hs; rw [show fewBd b = false by simp [fewBd, hw4], Bool.false_and] at p2
                rw [← p2, Bool.false_and] at q2; rw [← q2]
                conv => whnf
                repeat' ((first | (refine gF ?_; refine CallN.fn (hs) ?_) | (refine gC ?_; first | refine cY ?_ | (refine gD ?_; refine cI ?_)) | (refine gL ?_; refine .map ?_) | (refine gI ?_; (refine gM ?_; refine iE ?_)) | refine RetP.nrm ?_) <;> conv => whnf)
               ·rw [decide_eq_false hw4] at hs; rw [show fewBd b = true by simp [fewBd, hw4], Bool.true_and] at p2
                conv => whnf
                repeat' ((first | (refine gF ?_; refine CallN.fn (hs) ?_) | (refine gC ?_; first | refine cN ?_ | (refine gD ?_; refine cI ?_)) | (refine gW ?_; refine wI ?_) | (refine gL ?_; refine .map ?_) | (refine gI ?_; (refine gM ?_; refine iE ?_))) <;> conv => whnf)
                refine ⟨k + 1, ⟨⟨hk, p2⟩, by omega⟩, ?_⟩
                exact endz
              ·obtain rfl : k = x.binds.length := by omega
               rw [List.drop_length, List.all_nil] at p2; rw [← p2, Bool.true_and] at q2
               conv => whnf
               repeat' ((first | (refine gC ?_; (refine gD ?_; refine cJ ?_)) | (refine gW ?_; refine wI ?_) | (refine gL ?_; refine .map ?_) | (refine gI ?_; (refine gM ?_; refine iE ?_))) <;> conv => whnf)
               refine ⟨j + 1, ⟨⟨hj, q2⟩, by omega⟩, ?_⟩
               exact endz
          ·rw [show fewO x = false by simp [fewO, hn], Bool.false_and] at q2
           rw [← q2]
           conv => whnf
           repeat' ((first | (refine gC ?_; first | refine cY ?_ | (refine gD ?_; refine cI ?_)) | (refine gL ?_; refine .map ?_) | (refine gI ?_; (refine gM ?_; refine iE ?_)) | refine RetP.nrm ?_) <;> conv => whnf)
         ·obtain rfl : j = ops.length := by omega
          rw [List.drop_length, List.all_nil] at q2; rw [← q2]
          conv => whnf
          repeat' ((first | (refine gC ?_; (refine gD ?_; refine cJ ?_)) | (refine gL ?_; refine .map ?_) | refine RetP.nrm ?_) <;> conv => whnf)
   ·rw [decide_eq_false h3]; refine Fun.of (op_constraintlaw20_few (by simp) ?_) rfl rfl
    conv => whnf
    conv => whnf
    repeat' ((first | (refine gC ?_; (refine gD ?_; first | refine cI ?_ | refine cJ ?_)) | (refine gL ?_; refine .map ?_) | refine RetP.nrm ?_) <;> conv => whnf)
    rfl
  ·rw [decide_eq_false h2]; refine Fun.of (op_constraintlaw20_few (by simp) ?_) rfl rfl
   conv => whnf
   conv => whnf
   repeat' ((first | (refine gC ?_; first | refine cY ?_ | (refine gD ?_; first | refine cI ?_ | refine cJ ?_)) | (refine gL ?_; refine .map ?_) | refine RetP.nrm ?_) <;> conv => whnf)
   rfl
 ·rw [decide_eq_false h1]; refine Fun.of (op_constraintlaw20_few (by simp) ?_) rfl rfl
  conv => whnf
  conv => whnf
  repeat' ((first | (refine gC ?_; first | refine cY ?_ | (refine gD ?_; refine cI ?_)) | (refine gL ?_; refine .map ?_) | refine RetP.nrm ?_) <;> conv => whnf)
  rfl
end Go.CK
namespace Go.CK
open Go.AM Go.Proofs
theorem numT_len {t : UInt8} {n : Int} (h : IntOk n) : (numT t n).length ≤ 31 := by
 have := itoa_len h.1 h.2; simp only [numT, List.length_cons]; omega
theorem wordT_le (s : ByteArray) (hs : s.size ≤ 1000000) : (wordT s).length ≤ 32 + s.size := by
 have := numT_len (t := 115) (n := s.size) ⟨by omega, by omega⟩
 simp only [wordT, List.length_append, List.length_cons, ← size_data]; omega
theorem txt_wgh (t : Tm) : t.io -> ∀ left deep : Int, left ≤ 100000 -> 0 ≤ t.wgh left deep -> ((txtT t).length : Int) ≤ 130 * (left - t.wgh left deep) := by
 induction t using Tm.ind_all with
 | h k m s l ih =>
  have hl : ∀ (r : List Tm), (∀ t ∈ r, t ∈ l) -> Tm.ios r -> ∀ left deep : Int, left ≤ 100000 -> 0 ≤ left -> 0 ≤ Tm.wghs r left deep -> ((txtL r).length : Int) ≤ 130 * (left - Tm.wghs r left deep) := fun r => by
   induction r with
   | nil => intro _ _ left deep h0 h1 h2; simp only [Tm.wghs, txtL, List.length_nil] at *; omega
   | cons t r ihr =>
    intro hm hio left deep h0 h1 h2; rw [Tm.wghs, if_neg (by omega)] at h2 ⊢
    by_cases h3 : 0 ≤ t.wgh left deep
    ·have h4 := ih t (hm t (by simp)) hio.1 left deep h0 h3
     have h6 := wgh_le t left deep (by omega)
     have h5 := ihr (fun x hx => hm x (by simp [hx])) hio.2 (t.wgh left deep) deep (by omega) h3 h2
     rw [txtL, List.length_append]; omega
    ·rw [wghs_neg _ (by omega)] at h2; omega
  intro hio left deep h0 h; rw [Tm.wgh] at h ⊢; have h8 := tdiv8 s.size; split at h
  ·omega
  ·rename_i hc; rw [if_neg hc]; have h2 := hl l (fun t h => h) hio.2.2 (left - 1 - (s.size : Int).tdiv 8) (deep - 1) (by omega) (by omega) h
   have hs : s.size ≤ 1000000 := by omega
   have w1 := wordT_le s hs; have n1 := numT_len (t := 105) hio.2.1; have n2 := numT_len (t := 118) hio.2.1; have n3 := numT_len (t := 107) hio.1; have n4 := numT_len (t := 110) hio.2.1; have n5 := numT_len (t := 102) (n := l.length) ⟨by omega, by omega⟩
   rw [txtT]; split
   ·omega
   ·split
    ·omega
    ·split
     ·simp only [List.length_append]; omega
     ·simp only [List.length_append]; omega
theorem txt_weigh {l : List Tm} {left deep : Int} (hio : Tm.ios l) (h0 : left ≤ 100000) (h : 0 ≤ weighI l left deep) : ((txtL l).length : Int) ≤ 130 * left := by
 by_cases hc : deep = 0 ∨ left < l.length
 ·rw [weighI, if_pos hc] at h; omega
 ·rw [weighI, if_neg hc] at h
  have : ∀ (r : List Tm), Tm.ios r -> ∀ left : Int, left ≤ 100000 -> 0 ≤ left -> 0 ≤ Tm.wghs r left deep -> ((txtL r).length : Int) ≤ 130 * (left - Tm.wghs r left deep) := fun r => by
   induction r with
   | nil => intro _ left h0 h1 h2; simp only [Tm.wghs, txtL, List.length_nil] at *; omega
   | cons t r ihr =>
    intro hio left h0 h1 h2; rw [Tm.wghs, if_neg (by omega)] at h2 ⊢
    by_cases h3 : 0 ≤ t.wgh left deep
    ·have h4 := txt_wgh t hio.1 left deep h0 h3; have h6 := wgh_le t left deep (by omega)
     have h5 := ihr hio.2 (t.wgh left deep) (by omega) h3 h2
     rw [txtL, List.length_append]; omega
    ·rw [wghs_neg _ (by omega)] at h2; omega
  have := this l hio left h0 (by omega) h
  omega
theorem txtL_mem {t : Tm} : ∀ {l : List Tm}, t ∈ l -> (txtT t).length ≤ (txtL l).length
 | a :: l, h => by
  rw [txtL, List.length_append]; rcases List.mem_cons.1 h with rfl | h
  ·omega
  ·have := txtL_mem h; omega
theorem txtL_lenle {n : Nat} : ∀ {l : List Tm}, (∀ t ∈ l, (txtT t).length ≤ n) -> (txtL l).length ≤ l.length * n
 | [], _ => by simp [txtL]
 | a :: l, h => by
  have h1 := h a (by simp)
  have h2 := txtL_lenle (l := l) fun t ht => h t (by simp [ht])
  rw [txtL, List.length_append, List.length_cons, Nat.succ_mul]; omega
theorem posB_mem {a : Int} : ∀ {l : List Int} {last : Int}, posB a last l = true -> ∀ p ∈ l, last < p ∧ p < a
 | [], _, _, p, hp => by cases hp
 | x :: l, last, h, p, hp => by
  rw [posB] at h; simp only [Bool.and_eq_true, decide_eq_true_eq] at h; rcases List.mem_cons.1 hp with rfl | hp
  ·exact ⟨h.1, h.2.1⟩
  ·have := posB_mem h.2.2 p hp; exact ⟨by omega, this.2⟩
theorem has_pos {c : Ac} {s : ByteArray} {args : List Tm} (hr : c.right = true) (hh : c.has s args = true) : posIn c args := by
 simp only [Ac.right, Bool.and_eq_true, decide_eq_true_eq] at hr; simp only [Ac.has, Bool.and_eq_true, decide_eq_true_eq] at hh; intro p hp; have := posB_mem hr.2.2.2 p hp; omega
theorem fewI_w {i : It} (h : fewI i = true) : 0 ≤ weighI i.atom.args (30 - 1 - (i.atom.name.size : Int).tdiv 8) 64 := by
 have h1 : greatP [at2 i.atom] 30 = false := by simpa [fewI] using h
 rw [greatP, if_neg (by omega)] at h1
 rw [greatP] at h1; have h2 := of_decide_eq_false h1; exact Int.not_lt.1 h2
theorem fewI_args {i : It} (h : fewI i = true) : i.atom.args.length ≤ 30 := by
 have h1 := fewI_w h; have h8 := tdiv8 i.atom.name.size; unfold weighI at h1; split at h1
 ·omega
 ·rename_i hc; omega
theorem entOk_few {acc : List Ac} {i : It} (hr : ∀ c ∈ acc, c.right = true) (ha : ∀ c ∈ acc, fewA c = true) (hf : fewI i = true) (hio : Tm.ios i.atom.args) : EntOk acc i := by
 refine ⟨hio, fun c hc hh => has_pos (hr c hc) hh, fun c hc hh => ?_, by have := weigh_cn (fewI_w hf); have h8 := tdiv8 i.atom.name.size; omega⟩; have h8 := tdiv8 i.atom.name.size; have h1 := txt_weigh hio (by omega) (fewI_w hf)
 have hp : c.positions.length ≤ 10 := by
  have := ha c hc; simp only [fewA, Bool.and_eq_true, decide_eq_true_eq] at this; exact this.2
 have hpos := has_pos (hr c hc) hh
 have h2 := txtL_lenle (l := keyOf c i.atom.args) (n := 4000) fun t ht => by
  obtain ⟨p, hp, rfl⟩ := List.mem_map.1 ht; obtain ⟨p0, p1⟩ := hpos p hp; have hlt : p.toNat < i.atom.args.length := by omega
  have hm : i.atom.args.getD p.toNat tm0 ∈ i.atom.args := by
   rw [List.getD_eq_getElem?_getD, List.getElem?_eq_getElem hlt]; exact List.getElem_mem hlt
  have := txtL_mem hm; omega
 have h3 : (keyOf c i.atom.args).length = c.positions.length := by simp [keyOf]
 rw [h3] at h2; have : c.positions.length * 4000 ≤ 10 * 4000 := Nat.mul_le_mul_right _ hp; omega
theorem stB_asc : ∀ {l : List It} {last : Int}, stB last l = true -> Asc l ∧ ∀ i ∈ l, last < i.id ∧ i.atom.right = true
 | [], _, _ => ⟨List.Pairwise.nil, fun _ h => by cases h⟩
 | x :: l, last, h => by
  rw [stB] at h; simp only [Bool.and_eq_true, decide_eq_true_eq] at h; obtain ⟨h1, h2⟩ := stB_asc h.2.2; refine ⟨List.pairwise_cons.2 ⟨fun y hy => (h2 y hy).1, h1⟩, fun i hi => ?_⟩; rcases List.mem_cons.1 hi with rfl | hi
  ·exact ⟨h.1, h.2.1⟩
  ·have := h2 i hi; exact ⟨by omega, this.2⟩
theorem rightSt_asc {l : List It} (h : rightSt l = true) : Asc l := by
 simp only [rightSt, Bool.and_eq_true] at h; exact (stB_asc h.2).1
theorem allOk_few {acc : List Ac} {l : List It} (hr : ∀ c ∈ acc, c.right = true) (ha : ∀ c ∈ acc, fewA c = true) (hl : ∀ i ∈ l, fewI i = true ∧ Tm.ios i.atom.args) (hasc : Asc l) (hll : l.length ≤ 100000) (hal : acc.length ≤ 1000000) : AllOk acc l :=
 ⟨hasc, hll, fun i hi => entOk_few hr ha (hl i hi).1 (hl i hi).2, hal, fun c hc => by
  have := ha c hc; simp only [fewA, Bool.and_eq_true, decide_eq_true_eq] at this; omega⟩
theorem AllOk.ins {acc : List Ac} {l : List It} (h : AllOk acc l) {i : It} (he : EntOk acc i) (hh : hasI l i.id = false) (hl : l.length ≤ 500) : AllOk acc (insIt l i) :=
 ⟨insIt_asc h.asc fun x hx e => by
   have := List.any_eq_false.1 hh x hx; simp at this; exact this e, by rw [insIt_len]; omega, fun x hx => by
   rcases insIt_mem.1 hx with rfl | hx
   ·exact he
   ·exact h.ent x hx, h.accs, h.poss⟩
theorem has_ins (l : List It) (i : It) : hasI (insIt l i) i.id = true := List.any_eq_true.2 ⟨i, insIt_mem.2 (.inl rfl), by simp⟩
theorem del_ins {l : List It} (ha : Asc l) {i : It} (hh : hasI l i.id = false) : delI (insIt l i) i.id = l := by
 have hasc : Asc (insIt l i) := insIt_asc ha fun x hx e => by
  have := List.any_eq_false.1 hh x hx; simp at this; exact this e
 have hp := posI_le l i.id; have e := insIt_at ha i
 have hg : (insIt l i)[posI l i.id]? = some i := by
  rw [e, List.getElem?_append_right (by rw [List.length_take]; omega), List.length_take, Nat.min_eq_left hp, Nat.sub_self]; rfl
 have htl : (l.take (posI l i.id)).length = posI l i.id := by rw [List.length_take, Nat.min_eq_left hp]
 rw [delI_at hasc hg, e, List.take_append_of_le_length (by omega), List.take_of_length_le (by omega), List.drop_append, htl, List.drop_eq_nil_of_le (by omega), List.nil_append, show posI l i.id + 1 - posI l i.id = 1 by omega, List.drop_succ_cons, List.drop_zero, List.take_append_drop]
theorem AllOk.del {acc : List Ac} {l : List It} (h : AllOk acc l) (id : Int) : AllOk acc (delI l id) :=
 ⟨delI_asc h.asc id, Nat.le_trans (List.length_filter_le _ _) h.few, fun x hx => h.ent x (List.mem_filter.1 hx).1, h.accs, h.poss⟩
end Go.CK
