/-
  Texts of this claim joined (wip/gen/bundle.py), those declarations only that are needed: IxQ IxRb RcIxc IxSt. By an AI agent.
-/
import Derived.Test.YtcjfkbdbcgmomaaGreatDoorBax
import Derived.Test.YtcjfkbdbcgmomaaGreatDoorProg
import Derived.Test.YtcjfkbdbcgmomaaGreatDoorBap
set_option linter.unusedSimpArgs false
set_option linter.unusedVariables false
namespace Go.CK
open Go.AM Go.Proofs
structure IdxG (bs : List Box) (p : Nat) (acc : List Ac) (its : List It) (f : Nat -> List It) (bi ki t kt : Nat) (cs : List Nat) : Prop where
 str : bs[p]? = some (.cells [slA Ac.av acc, .bsl bi its.length ki, .bsl t cs.length kt])
 items : bs[bi]? = some (rowF It.av 3 ki its)
 le : its.length ≤ ki
 tabs : bs[t]? = some (rowF AV.mpt 1 kt cs)
 tle : cs.length ≤ kt
 len : cs.length = acc.length
 nod : cs.Nodup
 tab : ∀ k c a, cs[k]? = some c -> acc[k]? = some a -> ∃ x l, bs[c]? = some (.tab x) ∧ TbOk x l ∧ TabIs a (f k) l
theorem IdxG.lt {bs : List Box} {p : Nat} {acc : List Ac} {its : List It} {f : Nat -> List It} {bi ki t kt : Nat} {cs : List Nat} (h : IdxG bs p acc its f bi ki t kt cs) : p < bs.length ∧ bi < bs.length ∧ t < bs.length ∧ ∀ c ∈ cs, c < bs.length := by
 refine ⟨(List.getElem?_eq_some_iff.1 h.str).1, (List.getElem?_eq_some_iff.1 h.items).1, (List.getElem?_eq_some_iff.1 h.tabs).1, fun c hc => ?_⟩; obtain ⟨k, hk⟩ := List.getElem?_of_mem hc; have hlt := (List.getElem?_eq_some_iff.1 hk).1; obtain ⟨x, l, h1, _⟩ := h.tab k c _ hk (List.getElem?_eq_getElem (by rw [← h.len]; exact hlt))
 exact (List.getElem?_eq_some_iff.1 h1).1
theorem IdxG.mono {bs b2 : List Box} {p : Nat} {acc : List Ac} {its : List It} {f : Nat -> List It} {bi ki t kt : Nat} {cs : List Nat} (h : IdxG bs p acc its f bi ki t kt cs) (hb : ∀ b, b = p ∨ b = bi ∨ b = t ∨ b ∈ cs -> b2[b]? = bs[b]?) : IdxG b2 p acc its f bi ki t kt cs :=
 ⟨by rw [hb _ (.inl rfl)]; exact h.str, by rw [hb _ (.inr (.inl rfl))]; exact h.items, h.le, by rw [hb _ (.inr (.inr (.inl rfl)))]; exact h.tabs, h.tle, h.len, h.nod, fun k c a hc ha => by rw [hb _ (.inr (.inr (.inr (List.mem_of_getElem? hc))))]; exact h.tab k c a hc ha⟩
theorem IdxG.snoc {bs : List Box} {p : Nat} {acc : List Ac} {its : List It} {f : Nat -> List It} {bi ki t kt : Nat} {cs : List Nat} (h : IdxG bs p acc its f bi ki t kt cs) (x : Box) : IdxG (bs ++ [x]) p acc its f bi ki t kt cs :=
 h.mono fun b hb => by
  obtain ⟨h1, h2, h3, h4⟩ := h.lt; refine List.getElem?_append_left ?_; rcases hb with rfl | rfl | rfl | hb
  ·exact h1
  ·exact h2
  ·exact h3
  ·exact h4 _ hb
theorem IdxG.ne {bs : List Box} {p : Nat} {acc : List Ac} {its : List It} {f : Nat -> List It} {bi ki t kt : Nat} {cs : List Nat} (h : IdxG bs p acc its f bi ki t kt cs) {c : Nat} (hc : c ∈ cs) : c ≠ p ∧ c ≠ bi ∧ c ≠ t := by
 obtain ⟨k, hk⟩ := List.getElem?_of_mem hc; have hlt := (List.getElem?_eq_some_iff.1 hk).1; obtain ⟨x, l, h1, _⟩ := h.tab k c _ hk (List.getElem?_eq_getElem (by rw [← h.len]; exact hlt))
 refine ⟨fun e => ?_, fun e => ?_, fun e => ?_⟩
 ·rw [e, h.str] at h1; cases h1
 ·rw [e, h.items] at h1; cases h1
 ·rw [e, h.tabs] at h1; cases h1
theorem IdxG.setTab {bs : List Box} {p : Nat} {acc : List Ac} {its : List It} {f g : Nat -> List It} {bi ki t kt : Nat} {cs : List Nat} (h : IdxG bs p acc its f bi ki t kt cs) {j c : Nat} {a : Ac} (hc : cs[j]? = some c) (ha : acc[j]? = some a) {x : TB} {l : List TR} (hx : TbOk x l) (ht : TabIs a (g j) l) (hg : ∀ k, k ≠ j -> g k = f k) : IdxG (bs.set c (.tab x)) p acc its g bi ki t kt cs := by
 have hcm := List.mem_of_getElem? hc; obtain ⟨n1, n2, n3⟩ := h.ne hcm; have hlt := h.lt.2.2.2 c hcm; refine ⟨by rw [List.getElem?_set_ne n1]; exact h.str, by rw [List.getElem?_set_ne n2]; exact h.items, h.le, by rw [List.getElem?_set_ne n3]; exact h.tabs, h.tle, h.len, h.nod, fun k d a' hd ha' => ?_⟩
 by_cases e : k = j
 ·subst e; rw [hc] at hd; rw [ha] at ha'; cases hd; cases ha'; exact ⟨x, l, by rw [List.getElem?_set_self hlt], hx, ht⟩
 ·have hne : c ≠ d := fun e2 => by
   subst e2; exact e ((List.getElem?_inj (List.getElem?_eq_some_iff.1 hd).1 h.nod).1 (hd.trans hc.symm))
  rw [List.getElem?_set_ne hne, hg k e]; exact h.tab k d a' hd ha'
theorem cellsD_tab {B : List Box} {c : Nat} {y x : TB} (hb : B[c]? = some (.tab y)) {b : Nat} : cellsD (B.set c (.tab x)) b = cellsD B b := by
 simp only [cellsD, boxCells_mo (y := .tab x) hb rfl rfl]
theorem IdxG.cong {bs : List Box} {p : Nat} {acc : List Ac} {its : List It} {f g : Nat -> List It} {bi ki t kt : Nat} {cs : List Nat} (h : IdxG bs p acc its f bi ki t kt cs) (hg : ∀ k, k < cs.length -> f k = g k) : IdxG bs p acc its g bi ki t kt cs :=
 ⟨h.str, h.items, h.le, h.tabs, h.tle, h.len, h.nod, fun k c a hc ha => by rw [← hg k (List.getElem?_eq_some_iff.1 hc).1]; exact h.tab k c a hc ha⟩
set_option maxRecDepth 100000 in
theorem bsNil_ok (id : Int) : Fun Tryz.prog 105 [.sl .no [], .int .i64 id] (.tup [.int .i64 0, .bool false]) := by
 refine Fun.of (op_slices_BinarySearch_int_int (by simp) ?_) rfl rfl
 conv => whnf
 conv => whnf
 repeat' ((refine gL ?_; refine .nil ?_) <;> conv => whnf)
 refine LoopP.count (fb := true) 0 (fun st_ v => st_) (fun v => True) trivial ?_ (fun v hv _ => by omega) (fun _ => ?_)
 ·exact endz
 ·conv => whnf
  repeat' ((first | (refine gC ?_; (refine gD ?_; refine cJ ?_)) | refine RetP.nrm ?_) <;> conv => whnf)
  all_goals rfl
structure EntOk (acc : List Ac) (i : It) : Prop where
 io : Tm.ios i.atom.args
 pos : ∀ c ∈ acc, c.has i.atom.name i.atom.args = true -> posIn c i.atom.args
 len : ∀ c ∈ acc, c.has i.atom.name i.atom.args = true -> (txtL (keyOf c i.atom.args)).length ≤ 100000000
 nds : cnL i.atom.args ≤ 1000000
set_option maxRecDepth 100000 in
set_option maxHeartbeats 1000000 in
theorem ixEnter_ok {bs : List Box} {p : Nat} {acc : List Ac} {its : List It} {f : Nat -> List It} {bi ki t kt : Nat} {cs : List Nat} {i : It} (h : IdxG bs p acc its f bi ki t kt cs) (hf : ∀ k, Asc (f k) ∧ (f k).length ≤ 100000) (he : EntOk acc i) (hacc : acc.length ≤ 1000000) (hpl : ∀ c ∈ acc, c.positions.length ≤ 1000000) :
  AM.Sem Tryz.prog 51 [.ptr p 0, i.av] bs fun r bs' => r = .tup [] ∧ IdxG bs' p acc its (fun k => insIt (f k) i) bi ki t kt cs ∧ bs.length ≤ bs'.length ∧ ∀ b, b < bs.length -> b ∉ cs -> bs'[b]? = bs[b]? := by
 refine opS_p_index_Index_enter (by simp) ?_
 conv => whnf
 try dsimp only
 repeat' ((refine gB ?_; first | refine .last ?_ | refine .last2 ?_) <;> (conv => whnf; try dsimp only))
 refine CallN.raw ixKeys_ok ?_; rintro r b4 ⟨rfl, rfl⟩
 conv => whnf
 try dsimp only
 skip; obtain ⟨B4, hB4⟩ : ∃ B4, B4 = bs ++ [Box.cells [AV.ptr p 0]] ++ [Box.cells [AV.int IntKind.i64 i.id, AV.str i.atom.name, AV.sl Cap.no (List.map Tm.av i.atom.args)]] ++ [Box.cells [AV.ptr p 0]] ++ [Box.cells [AV.str i.atom.name, AV.sl Cap.no (List.map Tm.av i.atom.args)]] := ⟨_, rfl⟩; have hl4 : B4.length = bs.length + 4 := by rw [hB4]; simp
 have e0 : B4[bs.length]? = some (.cells [.ptr p 0]) := by rw [hB4]; simp
 have e1 : B4[bs.length + 1]? = some (.cells [AV.int IntKind.i64 i.id, AV.str i.atom.name, AV.sl Cap.no (List.map Tm.av i.atom.args)]) := by rw [hB4]; simp [List.getElem?_append]
 have e2 : B4[bs.length + 2]? = some (.cells [.ptr p 0]) := by rw [hB4]; simp [List.getElem?_append]
 have e3 : B4[bs.length + 3]? = some (.cells [AV.str i.atom.name, AV.sl Cap.no (List.map Tm.av i.atom.args)]) := by rw [hB4]; simp [List.getElem?_append]
 have hold : ∀ b, b < bs.length -> B4[b]? = bs[b]? := fun b hb => by
  rw [hB4, List.append_assoc, List.append_assoc, List.append_assoc, List.getElem?_append_left hb]
 have hI : IdxG B4 p acc its f bi ki t kt cs := by rw [hB4]; exact (((h.snoc _).snoc _).snoc _).snoc _
 rw [← hB4]; simp only [List.length_append, List.length_cons, List.length_nil, Nat.zero_add, Nat.add_assoc, Nat.reduceAdd]; clear hB4; refine RangeP.run (gf := 108) (lb := [.ptr (bs.length + 2) 0, .ptr (bs.length + 3) 0]) ⟨[(2, .ptr bs.length 0), (3, .ptr (bs.length + 1) 0), (12, .fn (.func 108) [] [.ptr (bs.length + 2) 0, .ptr (bs.length + 3) 0])], B4, bs.length⟩ ⟨Weak.refl _⟩ rfl (by kernel_rfl) fun x hx => ?_
 rw [hl4] at hx ⊢; obtain ⟨J, hJ⟩ : ∃ J : Nat -> List Box -> Prop, J = fun j b => IdxG b p acc its (fun k => if k < j then insIt (f k) i else f k) bi ki t kt cs ∧ b[bs.length]? = some (.cells [.ptr p 0]) ∧ b[bs.length + 1]? = some (.cells [AV.int IntKind.i64 i.id, AV.str i.atom.name, AV.sl Cap.no (List.map Tm.av i.atom.args)]) ∧ b[bs.length + 2]? = some (.cells [.ptr p 0]) ∧ b[bs.length + 3]? = some (.cells [AV.str i.atom.name, AV.sl Cap.no (List.map Tm.av i.atom.args)]) ∧ b[bs.length + 4]? = some (.loop x) ∧ ∀ k, k < bs.length -> k ∉ cs -> b[k]? = bs[k]? := ⟨_, rfl⟩
 have hK : KeyInv (B4 ++ [.loop x]) (bs.length + 4) (bs.length + 2) (bs.length + 3) p acc i.atom.name i.atom.args J := by
  refine ⟨fun j b hj => ?_, fun j b hj => ?_, fun j b hj => ?_, fun j b y hj => ?_, fun j b c hj hc hh => ?_, fun j b c hj hc hh => ?_⟩
  ·rw [hJ] at hj; exact hj.2.2.2.1
  ·rw [hJ] at hj; exact hj.2.2.2.2.1
  ·rw [hJ] at hj; exact ⟨_, _, hj.1.str⟩
  ·rw [hJ] at hj ⊢; obtain ⟨a1, a2, a3, a4, a5, a6, a7⟩ := hj; have hlt := (List.getElem?_eq_some_iff.1 a6).1; refine ⟨a1.snoc y, ?_, ?_, ?_, ?_, ?_, fun k hk hkc => ?_⟩
   all_goals rw [List.getElem?_append_left (by omega)]
   all_goals first | assumption | exact a7 k hk hkc
  ·rw [hJ] at hj ⊢; obtain ⟨a1, a2⟩ := hj; refine ⟨⟨a1.str, a1.items, a1.le, a1.tabs, a1.tle, a1.len, a1.nod, fun k d a hd ha => ?_⟩, a2⟩; obtain ⟨y, l, h1, h2, h3⟩ := a1.tab k d a hd ha; refine ⟨y, l, h1, h2, ?_⟩
   by_cases e : k = j
   ·subst e; rw [hc] at ha; cases ha; rw [if_neg (Nat.lt_irrefl _)] at h3; rw [if_pos (Nat.lt_succ_self _)]; exact h3.skip (hf k).1 hh
   ·by_cases e2 : k < j
    ·rw [if_pos e2] at h3; rw [if_pos (by omega)]; exact h3
    ·rw [if_neg e2] at h3; rw [if_neg (by omega)]; exact h3
  ·refine hx _ _ _ ?_ rfl ?_
   ·rw [hJ] at hj; simp [boxLoop, hj.2.2.2.2.2.1, Box.lb?]
   rw [hJ] at hj; obtain ⟨a1, a2, a3, a4, a5, a6, a7⟩ := hj; have hL := (List.getElem?_eq_some_iff.1 a6).1; obtain ⟨hp1, hp2, hp3, hp4⟩ := h.lt
   conv => whnf
   try dsimp only
   skip; refine AsgP.mk (by simp [boxLoop, a6, Box.lb?]) ?_
   obtain ⟨B5, hB5⟩ : ∃ B5, B5 = b.set (bs.length + 4) Box.dead := ⟨_, rfl⟩; have k5 : ∀ k, k ≠ bs.length + 4 -> B5[k]? = b[k]? := fun k hk => by rw [hB5, List.getElem?_set_ne (Ne.symm hk)]
   have l5 : B5.length = b.length := by rw [hB5, List.length_set]
   have g1 : IdxG B5 p acc its (fun k => if k < j then insIt (f k) i else f k) bi ki t kt cs := a1.mono fun k hk => k5 k (by
    rcases hk with rfl | rfl | rfl | hk
    ·omega
    ·omega
    ·omega
    ·have := hp4 k hk; omega)
   have b2 : boxCells B5 bs.length = some [.ptr p 0] := by simp [boxCells, k5 _ (show bs.length ≠ bs.length + 4 by omega), a2, Box.cs?]
   have b3 : boxCells B5 (bs.length + 1) = some [AV.int IntKind.i64 i.id, AV.str i.atom.name, AV.sl Cap.no (List.map Tm.av i.atom.args)] := by simp [boxCells, k5 _ (show bs.length + 1 ≠ bs.length + 4 by omega), a3, Box.cs?]
   have b4 : boxCells B5 p = some [slA Ac.av acc, .bsl bi its.length ki, .bsl t cs.length kt] := by simp [boxCells, g1.str, Box.cs?]
   have hjl : j < cs.length := by rw [h.len]; exact (List.getElem?_eq_some_iff.1 hc).1
   rw [← hB5]; obtain ⟨cj, hcj⟩ : ∃ cj, cs[j]? = some cj := ⟨_, List.getElem?_eq_getElem hjl⟩; obtain ⟨y, l, y1, y2, y3⟩ := g1.tab j cj c hcj hc
   conv => whnf
   try dsimp only
   repeat' ((first | (refine gN ?_; refine nS ?_) | (refine gB ?_; refine .of (by assumption) ?_)) <;> (conv => whnf; try dsimp only))
   refine ElN.one (fun _ => ⟨rfl, rfl⟩) (l := cs) (x := cj) g1.tabs (by simpa using hcj) ?_
   have fin : ∀ (row t1 : Box) (x2 : TB) (l2 : List TR), TbOk x2 l2 -> TabIs c (insIt (f j) i) l2 -> J (j + 1) ((((B5 ++ [row]).set cj t1).set cj (.tab x2)).set (bs.length + 4) (.loop x)) := fun row t1 x2 l2 q1 q2 => by
    have hcm := List.mem_of_getElem? hcj; have hcl := hp4 cj hcm; rw [List.set_set, hJ]
    have old : ∀ k, k < B5.length -> k ≠ cj -> k ≠ bs.length + 4 -> (((B5 ++ [row]).set cj (.tab x2)).set (bs.length + 4) (.loop x))[k]? = b[k]? := fun k h1 h2 h3 => by
     rw [List.getElem?_set_ne (Ne.symm h3), List.getElem?_set_ne (Ne.symm h2), List.getElem?_append_left h1, k5 k h3]
    have g2 : IdxG (((B5 ++ [row]).set cj (.tab x2)).set (bs.length + 4) (.loop x)) p acc its (fun k => if k < j + 1 then insIt (f k) i else f k) bi ki t kt cs := by
     refine ((g1.snoc row).setTab hcj hc q1 (g := fun k => if k < j + 1 then insIt (f k) i else f k) (by simpa using q2) fun k hk => ?_).mono fun k hk => ?_
     ·by_cases e : k < j
      ·rw [if_pos e, if_pos (by omega)]
      ·rw [if_neg e, if_neg (by omega)]
     ·refine List.getElem?_set_ne ?_; rcases hk with rfl | rfl | rfl | hk
      ·omega
      ·omega
      ·omega
      ·have := hp4 k hk; omega
    refine ⟨g2, ?_, ?_, ?_, ?_, ?_, fun k hk hkc => ?_⟩
    ·rw [old _ (by omega) (by omega) (by omega)]; exact a2
    ·rw [old _ (by omega) (by omega) (by omega)]; exact a3
    ·rw [old _ (by omega) (by omega) (by omega)]; exact a4
    ·rw [old _ (by omega) (by omega) (by omega)]; exact a5
    ·rw [List.getElem?_set_self (by simp; omega)]
    ·rw [old k (by omega) (fun e => hkc (e ▸ hcm)) (by omega)]; exact a7 k hk hkc
   conv => whnf
   try dsimp only
   skip; have y3 : TabIs c (f j) l := by have := y3; rwa [if_neg (Nat.lt_irrefl _)] at this
   refine ⟨⟨cj, y, l, txtB (keyOf c i.atom.args), rfl, y1, y2, fun r hr hkr => ?_, fun hno => ?_⟩⟩
   ·have hids := (y3.ids r hr).1; have hasc : r.ids.Pairwise (· < ·) := by rw [hids]; exact sel_asc (hf j).1
    have hrl : r.ids.length ≤ 100000 := by rw [hids]; exact Nat.le_trans (sel_len _ _ _) (hf j).2
    have hcnt := List.countP_le_length (p := fun x => decide (x < i.id)) (l := r.ids)
    conv => whnf
    try dsimp only
    repeat' ((refine gB ?_; refine .of (by assumption) ?_) <;> (conv => whnf; try dsimp only))
    refine CallN.raw (tabSearch (id := i.id) y1 y2 hr (hasc.imp fun h => Int.le_of_lt h) (by omega)) ?_
    rintro v b7 ⟨rfl, rfl⟩
    conv => whnf
    try dsimp only
    repeat' ((first | (refine gN ?_; refine nS ?_) | (refine gB ?_; refine .of (by assumption) ?_)) <;> (conv => whnf; try dsimp only))
    refine ElN.one (fun _ => ⟨rfl, rfl⟩) (l := cs) (x := cj) g1.tabs (by simpa using hcj) ?_
    conv => whnf
    try dsimp only
    repeat' ((refine gB ?_; refine .of (by assumption) ?_) <;> (conv => whnf; try dsimp only))
    refine BsrN.one plainI (fun _ => ⟨rfl, rfl⟩) (x := i.id) rfl ?_
    conv => whnf
    try dsimp only
    repeat' ((refine gPr ?_; refine pT ?_) <;> (conv => whnf; try dsimp only))
    have hcb := (List.getElem?_eq_some_iff.1 y1).1; refine CallN.raw (tabInsert (b := cj) (vb := b7.length) (x := y) (l := l) (r := r) (id := i.id) (by rw [List.getElem?_append_left hcb]; exact y1) y2 hr (by simp; rfl) hcnt (by omega)) ?_
    rintro v b8 ⟨r', x', rfl, hk', hids', hout, rfl⟩; have hcb2 : (b7 ++ [rowF (AV.int IntKind.i64) 1 1 [i.id]])[cj]? = some (.tab y) := by rw [List.getElem?_append_left hcb]; exact y1
    conv => whnf
    refine ⟨.inr ?_, ?_⟩
    ·conv => whnf
     repeat' (first | exact True.intro | refine And.intro (cellsD_tab hcb2) ?_)
    conv => whnf
    try dsimp only
    skip; refine ⟨⟨cj, x', l, r', by rw [hk', hkr]; rfl, by rw [List.getElem?_set_self (by simp; omega)], hout, fun x2 hx2 => ?_⟩⟩
    conv => whnf
    try dsimp only
    skip; refine ⟨_, Weak.refl _, rfl, fin _ _ _ _ hx2 ?_⟩; have hsel := sel_insI (c := c) (hf j).1 hh; have hrid : r'.ids = sel c r'.key (insIt (f j) i) := by rw [hids', hids, hk', hkr, hsel]
    refine y3.put y2.nodK (fun k hk => sel_same (hf j).1 ?_) hrid ?_
    ·rw [hk', hkr] at hk; simp [Ne.symm hk]
    ·rw [hids']; simp [insI]
   ·have hse : sel c (txtB (keyOf c i.atom.args)) (f j) = [] := by
     cases hs : sel c (txtB (keyOf c i.atom.args)) (f j) with
     | nil => rfl
     | cons a q =>
      obtain ⟨r, hr1, hr2⟩ := y3.all (txtB (keyOf c i.atom.args)) (by rw [hs]; simp)
      exact absurd hr2 (hno r hr1)
    have hbn := bsNil_ok i.id
    conv => whnf
    try dsimp only
    repeat' ((first | (refine gF ?_; refine CallN.fn (hbn) ?_) | (refine gN ?_; refine nS ?_) | (refine gB ?_; refine .of (by assumption) ?_)) <;> (conv => whnf; try dsimp only))
    refine ElN.one (fun _ => ⟨rfl, rfl⟩) (l := cs) (x := cj) g1.tabs (by simpa using hcj) ?_
    conv => whnf
    try dsimp only
    repeat' ((refine gB ?_; refine .of (by assumption) ?_) <;> (conv => whnf; try dsimp only))
    refine BsrN.one plainI (fun _ => ⟨rfl, rfl⟩) (x := i.id) rfl ?_
    conv => whnf
    try dsimp only
    repeat' ((refine gPr ?_; refine pT ?_) <;> (conv => whnf; try dsimp only))
    have hcb := (List.getElem?_eq_some_iff.1 y1).1; refine CallN.raw (tabInsertNil (txtB (keyOf c i.atom.args)) (b := cj) (vb := B5.length) (x := y) (l := l) (id := i.id) (by rw [List.getElem?_append_left hcb]; exact y1) y2 (by simp; rfl)) ?_
    rintro v b8 ⟨r', x', rfl, hk', hids', hout, rfl⟩; have hcb2 : (B5 ++ [rowF (AV.int IntKind.i64) 1 1 [i.id]])[cj]? = some (.tab y) := by rw [List.getElem?_append_left hcb]; exact y1
    conv => whnf
    refine ⟨.inr ?_, ?_⟩
    ·conv => whnf
     repeat' (first | exact True.intro | refine And.intro (cellsD_tab hcb2) ?_)
    conv => whnf
    try dsimp only
    skip; refine ⟨⟨cj, x', l, r', by rw [hk']; rfl, by rw [List.getElem?_set_self (by simp; omega)], hout, fun x2 hx2 => ?_⟩⟩
    conv => whnf
    try dsimp only
    skip; refine ⟨_, Weak.refl _, rfl, fin _ _ _ _ hx2 ?_⟩; have hsel := sel_insI (c := c) (hf j).1 hh; have hrid : r'.ids = sel c r'.key (insIt (f j) i) := by rw [hids', hk', hsel, hse]; rfl
    refine y3.put y2.nodK (fun k hk => sel_same (hf j).1 ?_) hrid ?_
    ·rw [hk'] at hk; simp [Ne.symm hk]
    ·rw [hids']; simp
 refine ⟨_, ixKeys1_ok hK ?_ he.io he.pos he.len hacc hpl, ?_⟩
 ·rw [hJ]; refine ⟨?_, ?_, ?_, ?_, ?_, ?_, fun k hk hkc => ?_⟩
  ·simpa using hI.snoc _
  all_goals first | (rw [List.getElem?_append_left (by show _ < B4.length; omega)]; first | assumption | exact hold k hk) | (rw [← hl4]; simp)
 ·rintro r b5 ⟨rfl, hj⟩; rw [hJ] at hj; obtain ⟨a1, a2, a3, a4, a5, a6, a7⟩ := hj; refine ⟨by simp [boxLoop, a6, Box.lb?], ?_⟩
  conv => whnf
  try dsimp only
  skip; have hL := (List.getElem?_eq_some_iff.1 a6).1; obtain ⟨hp1, hp2, hp3, hp4⟩ := h.lt; refine ⟨_, Weak.refl _, .inl ⟨rfl, (a1.mono fun k hk => ?_).cong fun k hk => ?_, by rw [List.length_set]; omega, fun k hk hkc => by rw [List.getElem?_set_ne (by omega)]; exact a7 k hk hkc⟩⟩
  ·refine List.getElem?_set_ne ?_; rcases hk with rfl | rfl | rfl | hk
   ·omega
   ·omega
   ·omega
   ·have := hp4 k hk; omega
  ·rw [if_pos (by rw [← h.len]; exact hk)]
end Go.CK
namespace Go.CK
open Go.AM Go.Proofs
structure IdxT (bs : List Box) (p : Nat) (acc : List Ac) (its : List It) (T : Nat -> List TR -> Prop) (bi ki t kt : Nat) (cs : List Nat) : Prop where
 str : bs[p]? = some (.cells [slA Ac.av acc, .bsl bi its.length ki, .bsl t cs.length kt])
 items : bs[bi]? = some (rowF It.av 3 ki its)
 le : its.length ≤ ki
 tabs : bs[t]? = some (rowF AV.mpt 1 kt cs)
 tle : cs.length ≤ kt
 len : cs.length = acc.length
 nod : cs.Nodup
 tab : ∀ k c, cs[k]? = some c -> ∃ x l, bs[c]? = some (.tab x) ∧ TbOk x l ∧ T k l
section
variable {bs : List Box} {p : Nat} {acc : List Ac} {its : List It} {T : Nat -> List TR -> Prop} {f : Nat -> List It} {bi ki t kt : Nat} {cs : List Nat}
theorem IdxT.nilG (h : IdxT bs p acc its T bi ki t kt cs) (hT : ∀ k l, k < cs.length -> T k l -> l = []) : IdxG bs p acc its (fun _ => []) bi ki t kt cs :=
 ⟨h.str, h.items, h.le, h.tabs, h.tle, h.len, h.nod, fun k c a hc ha => by
  obtain ⟨x, l, h1, h2, h3⟩ := h.tab k c hc; have := hT k l (List.getElem?_eq_some_iff.1 hc).1 h3; subst this; exact ⟨x, [], h1, h2, .nil a⟩⟩
theorem IdxT.ne (h : IdxT bs p acc its T bi ki t kt cs) {c : Nat} (hc : c ∈ cs) : c ≠ p ∧ c ≠ bi ∧ c ≠ t := by
 obtain ⟨k, hk⟩ := List.getElem?_of_mem hc; obtain ⟨x, l, h1, _⟩ := h.tab k c hk; refine ⟨fun e => ?_, fun e => ?_, fun e => ?_⟩
 ·rw [e, h.str] at h1; cases h1
 ·rw [e, h.items] at h1; cases h1
 ·rw [e, h.tabs] at h1; cases h1
theorem IdxT.setTab {T' : Nat -> List TR -> Prop} (h : IdxT bs p acc its T bi ki t kt cs) {j c : Nat} (hc : cs[j]? = some c) {x : TB} {l : List TR} (hx : TbOk x l) (ht : T' j l) (hg : ∀ k l, k ≠ j -> T k l -> T' k l) : IdxT (bs.set c (.tab x)) p acc its T' bi ki t kt cs := by
 have hcm := List.mem_of_getElem? hc; obtain ⟨n1, n2, n3⟩ := h.ne hcm; obtain ⟨x0, l0, h0, _⟩ := h.tab j c hc; have hlt := (List.getElem?_eq_some_iff.1 h0).1; refine ⟨by rw [List.getElem?_set_ne n1]; exact h.str, by rw [List.getElem?_set_ne n2]; exact h.items, h.le, by rw [List.getElem?_set_ne n3]; exact h.tabs, h.tle, h.len, h.nod, fun k d hd => ?_⟩
 by_cases e : k = j
 ·subst e; rw [hc] at hd; cases hd; exact ⟨x, l, by rw [List.getElem?_set_self hlt], hx, ht⟩
 ·have hne : c ≠ d := fun e2 => by
   subst e2; exact e ((List.getElem?_inj (List.getElem?_eq_some_iff.1 hd).1 h.nod).1 (hd.trans hc.symm))
  rw [List.getElem?_set_ne hne]; obtain ⟨y, m, h1, h2, h3⟩ := h.tab k d hd; exact ⟨y, m, h1, h2, hg k m e h3⟩
end
theorem plainIt : Plain It.av 3 := ⟨by decide, fun _ => rfl, fun x c h => by
 simp [It.av, AV.cells] at h; rcases h with rfl | rfl | rfl <;> rfl, fun x c h => by
 simp [It.av, AV.cells] at h; rcases h with rfl | rfl | rfl <;> rfl⟩
theorem insIt_last {l : List It} {i : It} (h : ∀ x ∈ l, x.id < i.id) : insIt l i = l ++ [i] := by
 have h1 : l.filter (fun x => decide (x.id < i.id)) = l := List.filter_eq_self.2 fun x hx => by simpa using h x hx
 have h2 : l.filter (fun x => !decide (x.id < i.id)) = [] := List.filter_eq_nil_iff.2 fun x hx => by simpa using h x hx
 rw [insIt, h1, h2]
theorem asc_take {l : List It} (h : Asc l) {j : Nat} {i : It} (hi : l[j]? = some i) : insIt (l.take j) i = l.take (j + 1) := by
 rw [List.take_add_one, hi]; refine insIt_last fun x hx => ?_; have hj := (List.getElem?_eq_some_iff.1 hi).1; obtain ⟨k, hk⟩ := List.getElem?_of_mem hx; rw [List.getElem?_take] at hk; split at hk
 ·rename_i hkj; have h1 := List.pairwise_iff_getElem.1 h k j (by omega) hj hkj
  rw [(List.getElem?_eq_some_iff.1 hi).2, (List.getElem?_eq_some_iff.1 hk).2] at h1; exact h1
 ·cases hk
structure AllOk (acc : List Ac) (its : List It) : Prop where
 asc : Asc its
 few : its.length ≤ 100000
 ent : ∀ i ∈ its, EntOk acc i
 accs : acc.length ≤ 1000000
 poss : ∀ c ∈ acc, c.positions.length ≤ 1000000
set_option maxRecDepth 100000 in
set_option maxHeartbeats 1000000 in
theorem ixRebuild_ok {bs : List Box} {p : Nat} {acc : List Ac} {its : List It} {bi ki t kt : Nat} {cs : List Nat} (h : IdxT bs p acc its (fun _ _ => True) bi ki t kt cs) (ha : AllOk acc its) :
  AM.Sem Tryz.prog 46 [.ptr p 0] bs fun r bs' => r = .tup [] ∧ IdxG bs' p acc its (fun _ => its) bi ki t kt cs ∧ bs.length ≤ bs'.length ∧ ∀ b, b < bs.length -> b ∉ cs -> bs'[b]? = bs[b]? := by
 have hcl := h.len; have hacc := ha.accs; have hfew := ha.few; have hb0 : boxCells bs p = some [slA Ac.av acc, .bsl bi its.length ki, .bsl t cs.length kt] := by simp [boxCells, h.str, Box.cs?]
 refine opS_p_index_Index_rebuild (by simp) ?_
 conv => whnf
 try dsimp only
 repeat' ((refine gB ?_; refine .of (by assumption) ?_) <;> (conv => whnf; try dsimp only))
 refine LoopP.by (fb := false) (fun st_ (a : Nat × List Box) => ⟨[(0, .ptr p 0), (9, .bsl t cs.length kt), (10, .int .i64 cs.length), (11, .int .i64 (a.1 : Int))], a.2, bs.length⟩) (fun a => a.1 ≤ cs.length ∧ IdxT a.2 p acc its (fun k l => k < a.1 -> l = []) bi ki t kt cs ∧ bs.length = a.2.length ∧ ∀ b, b ∉ cs -> a.2[b]? = bs[b]?) (fun a => cs.length - a.1) (0, bs) ⟨Nat.zero_le _, ⟨h.str, h.items, h.le, h.tabs, h.tle, h.len, h.nod, fun k c hc => by
   obtain ⟨x, l, h1, h2, _⟩ := h.tab k c hc; exact ⟨x, l, h1, h2, fun hk => absurd hk (Nat.not_lt_zero _)⟩⟩, rfl, fun _ _ => rfl⟩ ?_ ?_
 ·refine EndN.atS ?_ rfl rfl
  conv => whnf
  repeat' ((first | (refine gV ?_; first | refine vE ?_ | refine vI ?_) | exact True.intro) <;> conv => whnf)
 ·rintro ⟨j, b2⟩ ⟨q1, q2, q3, q4⟩; dsimp only at q1 q2 q3 q4
  by_cases hj : j < cs.length
  ·obtain ⟨c, hc⟩ : ∃ c, cs[j]? = some c := ⟨_, List.getElem?_eq_getElem hj⟩; have hcm := List.mem_of_getElem? hc; obtain ⟨x, l, hx1, hx2, _⟩ := q2.tab j c hc
   conv => whnf
   try dsimp only
   repeat' ((first | (refine gC ?_; (refine gD ?_; refine cI ?_)) | (refine gN ?_; refine nS ?_)) <;> (conv => whnf; try dsimp only))
   refine ElN.one (fun _ => ⟨rfl, rfl⟩) (l := cs) (x := c) q2.tabs (by simpa using hc) ?_
   conv => whnf
   try dsimp only
   skip; refine ⟨⟨c, x, rfl, hx1, hx2.jB, fun x' hx' => ?_⟩⟩
   conv => whnf
   try dsimp only
   repeat' ((refine gW ?_; refine wI ?_) <;> (conv => whnf; try dsimp only))
   refine ⟨(j + 1, b2.set c (.tab x')), ⟨⟨hj, q2.setTab hc hx' (fun _ => rfl) fun k l hk hl hk2 => hl (by omega), by simpa using q3, fun b hb => by
    rw [List.getElem?_set_ne (fun e => hb (by rw [← e]; exact hcm))]; exact q4 b hb⟩, by dsimp only; omega⟩, ?_⟩
   refine EndN.atS ?_ rfl rfl
   conv => whnf
   repeat' ((first | (refine gV ?_; first | refine vE ?_ | refine vI ?_) | exact True.intro) <;> conv => whnf)
  ·obtain rfl : j = cs.length := by omega
   have hG := q2.nilG (fun k l hk hl => hl hk); have hb2 : boxCells b2 p = some [slA Ac.av acc, .bsl bi its.length ki, .bsl t cs.length kt] := by simp [boxCells, q2.str, Box.cs?]
   conv => whnf
   try dsimp only
   repeat' ((first | (refine gC ?_; (refine gD ?_; refine cJ ?_)) | (refine gB ?_; refine .of (by assumption) ?_)) <;> (conv => whnf; try dsimp only))
   refine LoopP.by (fb := false) (fun st_ (a : Nat × List Box) => ⟨[(0, .ptr p 0), (20, .bsl bi its.length ki), (21, .int .i64 its.length), (22, .int .i64 (a.1 : Int))], a.2, bs.length⟩) (fun a => a.1 ≤ its.length ∧ IdxG a.2 p acc its (fun _ => its.take a.1) bi ki t kt cs ∧ bs.length ≤ a.2.length ∧ ∀ b, b < bs.length -> b ∉ cs -> a.2[b]? = bs[b]?) (fun a => its.length - a.1) (0, b2) ⟨Nat.zero_le _, by simpa using hG, by dsimp only; omega, fun b _ hb => q4 b hb⟩ ?_ ?_
   ·refine EndN.atS ?_ rfl rfl
    conv => whnf
    repeat' ((first | (refine gV ?_; first | refine vE ?_ | refine vI ?_) | exact True.intro) <;> conv => whnf)
   ·rintro ⟨j, b3⟩ ⟨r1, r2, r3, r4⟩; dsimp only at r1 r2 r3 r4
    by_cases hj : j < its.length
    ·obtain ⟨i, hi⟩ : ∃ i, its[j]? = some i := ⟨_, List.getElem?_eq_getElem hj⟩
     conv => whnf
     try dsimp only
     repeat' ((first | (refine gC ?_; (refine gD ?_; refine cI ?_)) | (refine gN ?_; refine nS ?_)) <;> (conv => whnf; try dsimp only))
     refine ElN.elem plainIt (l := its) (x := i) r2.items (by simpa using hi) ?_
     conv => whnf
     try dsimp only
     repeat' ((first | (refine gB ?_; refine .last ?_) | refine BxSet.last ?_) <;> (conv => whnf; try dsimp only))
     have hE := ixEnter_ok (i := i) (r2.snoc (.cells [.int .i64 i.id, .str i.atom.name, .sl .no (i.atom.args.map Tm.av)])) (fun k => ⟨(ha.asc.sublist (List.take_sublist _ _)), by rw [List.length_take]; omega⟩) (ha.ent i (List.mem_of_getElem? hi)) hacc ha.poss
     refine CallN.raw hE ?_; rintro r b4 ⟨rfl, s1, s2, s3⟩
     conv => whnf
     try dsimp only
     repeat' ((refine gW ?_; refine wI ?_) <;> (conv => whnf; try dsimp only))
     refine ⟨(j + 1, b4), ⟨⟨hj, ?_, ?_, fun b hb hbc => ?_⟩, by dsimp only; omega⟩, ?_⟩
     ·have := s1; simp only [asc_take ha.asc hi] at this; exact this
     ·simp at s2; dsimp only; omega
     ·rw [s3 b (by simp; omega) hbc, List.getElem?_append_left (by omega)]; exact r4 b hb hbc
     refine EndN.atS ?_ rfl rfl
     conv => whnf
     repeat' ((first | (refine gV ?_; first | refine vE ?_ | refine vI ?_) | exact True.intro) <;> conv => whnf)
    ·obtain rfl : j = its.length := by omega
     conv => whnf
     try dsimp only
     repeat' ((refine gC ?_; (refine gD ?_; refine cJ ?_)) <;> (conv => whnf; try dsimp only))
     refine ⟨_, Weak.refl _, .inl ⟨rfl, by simpa using r2, r3, r4⟩⟩
end Go.CK
namespace Go.CK
open Go.AM Go.Proofs
variable {vals : List AV} {bs : List Box} {Q : AV -> List Box -> Prop}
def rc_constraintref19_Same : RC :=
 (.seq
 (.reg false [0, 1] [
 oQ 4 (.mov (.c (.bool false)))])
 (.seq
 (.seq
 (.reg false [0, 1, 10] [
 qM 6 0, oQ 7 (.len false (.t 6)), qM 8 1, oQ 9 (.len false (.t 8)), oQ 10 (.bin .neq (.t 7) (.t 9))])
 (.cond (.t 10)
 (.seq
 (.reg false [4] [
 oQ 4 (.mov (.c (.bool false)))])
 .ret)
 .skip))
 (.seq
 (.seq
 (.reg false [0, 1, 5] [
 oQ 5 (.mov (.c (.int .i64 0)))])
 (.block 0
 (.loop
 (.seq
 (.seq
 (.reg false [0, 1, 5, 14] [
 qM 11 5, qM 12 0, oQ 13 (.len false (.t 12)), oQ 14 (.bin .lss (.t 11) (.t 13))])
 (.cond (.t 14)
 .skip
 (.exit 0)))
 (.seq
 (.block 1
 (.seq
 (.reg true [0, 1, 5, 41] [
 qM 17 0, qM 18 5, qI 19 3 17 18, qF 20 0 19, qL 21 20, qM 22 1, qM 23 5, qI 24 3 22 23, qF 25 0 24, qL 26 25, oQ 27 (.bin .neq (.t 21) (.t 26)), qM 28 27, oG 29 28 false (.mov (.t 0)), oG 30 28 false (.mov (.t 5)), oG 31 28 false (.idx 3 (.t 29) (.t 30)), oG 32 28 false (.fptr 1 (.t 31)), oG 33 28 false (.load true 2 (.t 32)), oG 34 28 false (.mov (.t 1)), oG 35 28 false (.mov (.t 5)), oG 36 28 false (.idx 3 (.t 34) (.t 35)), oG 37 28 false (.fptr 1 (.t 36)), oG 38 28 false (.load true 2 (.t 37)), oG 39 28 false (.call (.c (.fn (.func 52) [] [])) [(.t 33), (.t 38)]), oG 40 28 false (.un .not (.t 39)), oQ 41 (.pick (.t 28) (.c (.bool true)) (.t 40))])
 (.cond (.t 41)
 (.seq
 (.reg false [4] [
 oQ 4 (.mov (.c (.bool false)))])
 .ret)
 .skip)))
 (.reg false [0, 1, 5] [
 qM 15 5, oQ 16 (.bin .add (.t 15) (.c (.int .i64 1))), qM 5 16]))))))
 (.seq
 (.reg false [4] [
 oQ 4 (.mov (.c (.bool true)))])
 .ret))))
theorem op_constraintref19_Same (hn : vals.length ≤ 42) (h : SP Tryz.prog true vals bs rc_constraintref19_Same [.slot 4] Q) : AM.Sem Tryz.prog 15 vals bs Q :=
 Sem.nrm (Sem.of (fn := Tryz.f15) (keeps := [(0, [0, 1]), (1, [0, 1, 10]), (2, [4]), (3, [0, 1, 5]), (4, [0, 1, 5, 14]), (6, [0, 1, 5, 41]), (7, [4]), (5, [0, 1, 5]), (8, [4])]) (solo := []) Tryz.func15 rfl (by kernel_rfl) (by kernel_rfl) (by kernel_rfl) hn (run_gp h))
def rc_constraintlaw20_few : RC :=
 (.seq
 (.reg false [0, 1, 2] [
 oQ 6 (.mov (.c (.bool false)))])
 (.seq
 (.seq
 (.reg false [0, 1, 2, 23] [
 qM 11 0, oQ 12 (.len false (.t 11)), oQ 13 (.bin .gtr (.t 12) (.c (.int .i64 15))), qM 14 13, oG 15 14 false (.mov (.t 1)), oG 16 14 false (.len false (.t 15)), oG 17 14 false (.bin .gtr (.t 16) (.c (.int .i64 6))), oQ 18 (.pick (.t 14) (.c (.bool true)) (.t 17)), qM 19 18, oG 20 19 false (.mov (.t 2)), oG 21 19 false (.len false (.t 20)), oG 22 19 false (.bin .gtr (.t 21) (.c (.int .i64 30))), oQ 23 (.pick (.t 19) (.c (.bool true)) (.t 22))])
 (.cond (.t 23)
 (.seq
 (.reg false [6] [
 oQ 6 (.mov (.c (.bool false)))])
 .ret)
 .skip))
 (.seq
 (.seq
 (.reg false [0, 1, 2, 7] [
 oQ 7 (.mov (.c (.int .i64 0)))])
 (.block 0
 (.loop
 (.seq
 (.seq
 (.reg false [0, 1, 2, 7, 27] [
 qM 24 7, qM 25 0, oQ 26 (.len false (.t 25)), oQ 27 (.bin .lss (.t 24) (.t 26))])
 (.cond (.t 27)
 .skip
 (.exit 0)))
 (.seq
 (.block 1
 (.seq
 (.reg false [0, 1, 2, 7, 36] [
 qM 30 0, qM 31 7, qI 32 3 30 31, qF 33 1 32, qA 34 2 33, oQ 35 (.bslice 2 [(.t 34)]), oQ 36 (.call (.c (.fn (.func 37) [] [])) [(.t 35), (.c (.int .i64 30))])])
 (.cond (.t 36)
 (.seq
 (.reg false [6] [
 oQ 6 (.mov (.c (.bool false)))])
 .ret)
 .skip)))
 (.reg false [0, 1, 2, 7] [
 qM 28 7, oQ 29 (.bin .add (.t 28) (.c (.int .i64 1))), qM 7 29]))))))
 (.seq
 (.seq
 (.reg false [1, 2, 8] [
 oQ 8 (.mov (.c (.int .i64 0)))])
 (.block 2
 (.loop
 (.seq
 (.seq
 (.reg false [1, 2, 8, 40] [
 qM 37 8, qM 38 1, oQ 39 (.len false (.t 38)), oQ 40 (.bin .lss (.t 37) (.t 39))])
 (.cond (.t 40)
 .skip
 (.exit 2)))
 (.seq
 (.block 3
 (.seq
 (.reg false [1, 2, 8, 58] [
 qM 43 1, qM 44 8, qI 45 3 43 44, qF 46 0 45, qL 47 46, oQ 48 (.len true (.t 47)), oQ 49 (.bin .gtr (.t 48) (.c (.int .i64 60))), qM 50 49, oG 51 50 false (.mov (.t 1)), oG 52 50 false (.mov (.t 8)), oG 53 50 false (.idx 3 (.t 51) (.t 52)), oG 54 50 false (.fptr 2 (.t 53)), oG 55 50 false (.load false 1 (.t 54)), oG 56 50 false (.len false (.t 55)), oG 57 50 false (.bin .gtr (.t 56) (.c (.int .i64 10))), oQ 58 (.pick (.t 50) (.c (.bool true)) (.t 57))])
 (.cond (.t 58)
 (.seq
 (.reg false [6] [
 oQ 6 (.mov (.c (.bool false)))])
 .ret)
 .skip)))
 (.reg false [1, 2, 8] [
 qM 41 8, oQ 42 (.bin .add (.t 41) (.c (.int .i64 1))), qM 8 42]))))))
 (.seq
 (.seq
 (.reg false [2, 9] [
 oQ 9 (.mov (.c (.int .i64 0)))])
 (.block 4
 (.loop
 (.seq
 (.seq
 (.reg false [2, 9, 62] [
 qM 59 9, qM 60 2, oQ 61 (.len false (.t 60)), oQ 62 (.bin .lss (.t 59) (.t 61))])
 (.cond (.t 62)
 .skip
 (.exit 4)))
 (.seq
 (.block 5
 (.seq
 (.seq
 (.reg false [2, 9, 89] [
 qM 65 2, qM 66 9, qI 67 7 65 66, qF 68 6 67, qL 69 68, oQ 70 (.len false (.t 69)), oQ 71 (.bin .gtr (.t 70) (.c (.int .i64 6))), qM 72 71, oG 73 72 false (.mov (.t 2)), oG 74 72 false (.mov (.t 9)), oG 75 72 false (.idx 7 (.t 73) (.t 74)), oG 76 72 false (.fptr 2 (.t 75)), oG 77 72 false (.fptr 1 (.t 76)), oG 78 72 false (.load true 2 (.t 77)), oG 79 72 false (.bslice 2 [(.t 78)]), oG 80 72 false (.call (.c (.fn (.func 37) [] [])) [(.t 79), (.c (.int .i64 30))]), oQ 81 (.pick (.t 72) (.c (.bool true)) (.t 80)), qM 82 81, oG 83 82 false (.mov (.t 2)), oG 84 82 false (.mov (.t 9)), oG 85 82 false (.idx 7 (.t 83) (.t 84)), oG 86 82 false (.fptr 5 (.t 85)), oG 87 82 false (.load false 1 (.t 86)), oG 88 82 false (.call (.c (.fn (.func 38) [] [])) [(.t 87), (.c (.int .i64 30))]), oQ 89 (.pick (.t 82) (.c (.bool true)) (.t 88))])
 (.cond (.t 89)
 (.seq
 (.reg false [6] [
 oQ 6 (.mov (.c (.bool false)))])
 .ret)
 .skip))
 (.seq
 (.reg false [2, 9, 10] [
 oQ 10 (.mov (.c (.int .i64 0)))])
 (.block 6
 (.loop
 (.seq
 (.seq
 (.reg false [2, 9, 10, 97] [
 qM 90 10, qM 91 2, qM 92 9, qI 93 7 91 92, qF 94 6 93, qL 95 94, oQ 96 (.len false (.t 95)), oQ 97 (.bin .lss (.t 90) (.t 96))])
 (.cond (.t 97)
 .skip
 (.exit 6)))
 (.seq
 (.block 7
 (.seq
 (.reg false [2, 9, 10, 110] [
 qM 100 2, qM 101 9, qI 102 7 100 101, qF 103 6 102, qL 104 103, qM 105 10, qI 106 5 104 105, qF 107 1 106, qA 108 4 107, oQ 109 (.bslice 4 [(.t 108)]), oQ 110 (.call (.c (.fn (.func 38) [] [])) [(.t 109), (.c (.int .i64 4))])])
 (.cond (.t 110)
 (.seq
 (.reg false [6] [
 oQ 6 (.mov (.c (.bool false)))])
 .ret)
 .skip)))
 (.reg false [2, 9, 10] [
 qM 98 10, oQ 99 (.bin .add (.t 98) (.c (.int .i64 1))), qM 10 99]))))))))
 (.reg false [2, 9] [
 qM 63 9, oQ 64 (.bin .add (.t 63) (.c (.int .i64 1))), qM 9 64]))))))
 (.seq
 (.reg false [6] [
 oQ 6 (.mov (.c (.bool true)))])
 .ret))))))
theorem op_constraintlaw20_few (hn : vals.length ≤ 111) (h : SP Tryz.prog true vals bs rc_constraintlaw20_few [.slot 6] Q) : AM.Sem Tryz.prog 9 vals bs Q :=
 Sem.nrm (Sem.of (fn := Tryz.f9) (keeps := [(0, [0, 1, 2]), (1, [0, 1, 2, 23]), (2, [6]), (3, [0, 1, 2, 7]), (4, [0, 1, 2, 7, 27]), (6, [0, 1, 2, 7, 36]), (7, [6]), (5, [0, 1, 2, 7]), (8, [1, 2, 8]), (9, [1, 2, 8, 40]), (11, [1, 2, 8, 58]), (12, [6]), (10, [1, 2, 8]), (13, [2, 9]), (14, [2, 9, 62]), (16, [2, 9, 89]), (17, [6]), (18, [2, 9, 10]), (19, [2, 9, 10, 97]), (21, [2, 9, 10, 110]), (22, [6]), (20, [2, 9, 10]), (15, [2, 9]), (23, [6])]) (solo := []) Tryz.func9 rfl (by kernel_rfl) (by kernel_rfl) (by kernel_rfl) hn (run_gp h))
def rc_constraintlaw20_e : RC :=
 (.seq
 (.reg false [0, 1, 2, 6] [
 oQ 6 (.box (.c (.agg [(.int .i64 0), (.str ⟨⟨[]⟩⟩), (.sl .full [])])))])
 (.seq
 (.reg false [6] [
 qM 7 0, qM 8 1, oQ 9 (.call (.c (.fn (.func 39) [] [])) [(.t 8), (.c (.sl .full []))]), qM 10 2, oQ 11 (.call (.c (.fn (.func 39) [] [])) [(.t 10), (.c (.sl .full []))]), oQ 12 (.bslice 4 [(.t 9), (.t 11)]), oQ 13 (.build [(.str ⟨⟨[]⟩⟩), (.sl .full [])] [(0, 1, (.c (.str ⟨⟨[101]⟩⟩))), (1, 1, (.t 12))]), oQ 14 (.build [(.int .i64 0), (.str ⟨⟨[]⟩⟩), (.sl .full [])] [(0, 1, (.t 7)), (1, 2, (.t 13))]), oN (.store 3 (.t 6) (.t 14))])
 .ret))
theorem op_constraintlaw20_e (hn : vals.length ≤ 15) (h : SP Tryz.prog true vals bs rc_constraintlaw20_e [.cell 6 true 3] Q) : AM.Sem Tryz.prog 35 vals bs Q :=
 Sem.nrm (Sem.of (fn := Tryz.f35) (keeps := [(0, [0, 1, 2, 6]), (1, [6])]) (solo := []) Tryz.func35 rfl (by kernel_rfl) (by kernel_rfl) (by kernel_rfl) hn (run_gp h))
def rc_constraintlaw20_IndexBack : RC :=
 (.seq
 (.reg false [0, 1, 5] [
 oQ 5 (.box (.t 2)), oQ 6 (.mov (.c (.bool false)))])
 (.seq
 (.seq
 (.reg false [0, 1, 5, 19] [
 qM 14 0, qM 15 1, qA 16 7 5, oQ 17 (.bslice 7 [(.t 16)]), oQ 18 (.call (.c (.fn (.func 9) [] [])) [(.t 14), (.t 15), (.t 17)]), oQ 19 (.un .not (.t 18))])
 (.cond (.t 19)
 (.seq
 (.reg false [6] [
 oQ 20 (.call (.c (.fn (.func 10) [] [])) []), qM 6 20])
 .ret)
 .skip))
 (.seq
 (.reg false [0, 5, 7, 8] [
 qM 22 0, qM 23 1, oQ 24 (.call (.c (.fn (.func 11) [] [])) [(.t 22), (.t 23)]), qM 21 24, oQ 25 (.ext 0 (.t 21)), oQ 26 (.ext 1 (.t 21)), qM 7 25, qM 8 26])
 (.seq
 (.seq
 (.reg false [0, 5, 7, 32] [
 qM 27 8, oQ 28 (.bin .neq (.t 27) (.c (.int .i64 0))), qM 29 28, oG 30 29 false (.mov (.t 7)), oG 31 29 false (.more (.eqP false) [(.t 30), (.c .nptr)]), oQ 32 (.pick (.t 29) (.c (.bool true)) (.t 31))])
 (.cond (.t 32)
 (.seq
 (.reg false [6] [
 oQ 33 (.call (.c (.fn (.func 10) [] [])) []), qM 6 33])
 .ret)
 .skip))
 (.seq
 (.reg false [0, 5, 7, 9] [
 qM 34 7, oQ 35 (.call (.c (.fn (.func 12) [] [])) [(.t 34)]), qM 9 35])
 (.seq
 (.reg false [0, 5, 7, 9, 10] [
 qM 36 7, qF 37 1 5, qL 38 37, qF 39 5 5, qL 40 39, oQ 41 (.call (.c (.fn (.func 13) [] [])) [(.t 36), (.t 38), (.t 40)]), qM 10 41])
 (.seq
 (.reg false [0, 5, 7, 9, 10, 11] [
 qM 42 7, qF 43 2 5, qA 44 3 43, oQ 45 (.call (.c (.fn (.func 14) [] [])) [(.t 42), (.t 44)]), qM 11 45])
 (.seq
 (.seq
 (.reg false [0, 5, 7, 9, 10, 47] [
 qM 46 11, oQ 47 (.bin .neq (.t 46) (.c (.int .i64 0)))])
 (.cond (.t 47)
 (.seq
 (.reg false [6] [
 qM 48 7, oQ 49 (.call (.c (.fn (.func 12) [] [])) [(.t 48)]), qM 50 0, oQ 51 (.call (.c (.fn (.func 15) [] [])) [(.t 49), (.t 50)]), qM 52 51, oG 53 52 true (.call (.c (.fn (.func 10) [] [])) []), oQ 54 (.pick (.t 52) (.t 53) (.c (.bool false))), qM 6 54])
 .ret)
 .skip))
 (.seq
 (.reg false [0, 5, 7, 9, 10, 12] [
 qM 55 7, oQ 56 (.call (.c (.fn (.func 12) [] [])) [(.t 55)]), oQ 57 (.len false (.t 56)), qM 12 57])
 (.seq
 (.reg false [0, 5, 7, 9, 10, 12, 13] [
 qM 58 7, qF 59 2 5, qF 60 0 59, qL 61 60, oQ 62 (.call (.c (.fn (.func 16) [] [])) [(.t 58), (.t 61)]), qM 13 62])
 (.seq
 (.reg false [6] [
 qM 63 12, qM 64 0, oQ 65 (.len false (.t 64)), oQ 66 (.bin .add (.t 65) (.c (.int .i64 1))), oQ 67 (.bin .eql (.t 63) (.t 66)), qM 68 67, oG 69 68 true (.mov (.t 13)), oQ 70 (.pick (.t 68) (.t 69) (.c (.bool false))), qM 71 70, oG 72 71 true (.mov (.t 7)), oG 73 71 true (.call (.c (.fn (.func 12) [] [])) [(.t 72)]), oG 74 71 true (.mov (.t 0)), oG 75 71 true (.call (.c (.fn (.func 15) [] [])) [(.t 73), (.t 74)]), oQ 76 (.pick (.t 71) (.t 75) (.c (.bool false))), qM 77 76, oG 78 77 true (.mov (.t 9)), oG 79 77 true (.mov (.t 0)), oG 80 77 true (.call (.c (.fn (.func 15) [] [])) [(.t 78), (.t 79)]), oQ 81 (.pick (.t 77) (.t 80) (.c (.bool false))), qM 82 81, oG 83 82 true (.mov (.t 7)), oG 84 82 true (.fptr 1 (.t 5)), oG 85 82 true (.load false 1 (.t 84)), oG 86 82 true (.fptr 5 (.t 5)), oG 87 82 true (.load false 1 (.t 86)), oG 88 82 true (.call (.c (.fn (.func 13) [] [])) [(.t 83), (.t 85), (.t 87)]), oG 89 82 true (.mov (.t 10)), oG 90 82 true (.call (.c (.fn (.func 17) [] [])) [(.t 88), (.t 89)]), oQ 91 (.pick (.t 82) (.t 90) (.c (.bool false))), qM 92 91, oG 93 92 true (.call (.c (.fn (.func 10) [] [])) []), oQ 94 (.pick (.t 92) (.t 93) (.c (.bool false))), qM 6 94])
 .ret)))))))))))
def rc_constraintlaw20_exampleHolds : RC :=
 (.seq
 (.reg false [] [
 oQ 0 (.mov (.c (.bool false)))])
 (.seq
 (.reg false [1, 2] [
 oQ 6 (.call (.c (.fn (.func 35) [] [])) [(.c (.int .i64 1)), (.c (.str ⟨⟨[97]⟩⟩)), (.c (.str ⟨⟨[98]⟩⟩))]), oQ 7 (.call (.c (.fn (.func 35) [] [])) [(.c (.int .i64 2)), (.c (.str ⟨⟨[97]⟩⟩)), (.c (.str ⟨⟨[99]⟩⟩))]), oQ 8 (.call (.c (.fn (.func 35) [] [])) [(.c (.int .i64 4)), (.c (.str ⟨⟨[98]⟩⟩)), (.c (.str ⟨⟨[98]⟩⟩))]), oQ 9 (.bslice 3 [(.t 6), (.t 7), (.t 8)]), oQ 10 (.bslice 1 [(.c (.int .i64 0))]), oQ 11 (.build [(.str ⟨⟨[]⟩⟩), (.int .i64 0), (.sl .full [])] [(0, 1, (.c (.str ⟨⟨[101]⟩⟩))), (1, 1, (.c (.int .i64 2))), (2, 1, (.t 10))]), oQ 12 (.build [(.str ⟨⟨[]⟩⟩), (.int .i64 0), (.sl .full [])] [(0, 1, (.c (.str ⟨⟨[101]⟩⟩))), (1, 1, (.c (.int .i64 2)))]), oQ 13 (.bslice 3 [(.t 11), (.t 12)]), oQ 14 (.call (.c (.fn (.func 11) [] [])) [(.t 9), (.t 13)]), qM 5 14, oQ 15 (.ext 0 (.t 5)), oQ 16 (.ext 1 (.t 5)), qM 1 15, qM 2 16])
 (.seq
 (.seq
 (.reg false [1, 38] [
 qM 17 1, oQ 18 (.more (.eqP false) [(.t 17), (.c .nptr)]), qM 19 18, oG 20 19 false (.mov (.t 2)), oG 21 19 false (.bin .neq (.t 20) (.c (.int .i64 0))), oQ 22 (.pick (.t 19) (.c (.bool true)) (.t 21)), qM 23 22, oG 24 23 false (.mov (.t 1)), oG 25 23 false (.call (.c (.fn (.func 39) [] [])) [(.c (.str ⟨⟨[97]⟩⟩)), (.c (.sl .full []))]), oG 26 23 false (.bslice 4 [(.t 25)]), oG 27 23 false (.call (.c (.fn (.func 13) [] [])) [(.t 24), (.c (.int .i64 0)), (.t 26)]), oG 28 23 false (.bslice 1 [(.c (.int .i64 1)), (.c (.int .i64 2))]), oG 29 23 false (.call (.c (.fn (.func 17) [] [])) [(.t 27), (.t 28)]), oG 30 23 false (.un .not (.t 29)), oQ 31 (.pick (.t 23) (.c (.bool true)) (.t 30)), qM 32 31, oG 33 32 false (.mov (.t 1)), oG 34 32 false (.call (.c (.fn (.func 13) [] [])) [(.t 33), (.c (.int .i64 1)), (.c (.sl .full []))]), oG 35 32 false (.bslice 1 [(.c (.int .i64 1)), (.c (.int .i64 2)), (.c (.int .i64 4))]), oG 36 32 false (.call (.c (.fn (.func 17) [] [])) [(.t 34), (.t 35)]), oG 37 32 false (.un .not (.t 36)), oQ 38 (.pick (.t 32) (.c (.bool true)) (.t 37))])
 (.cond (.t 38)
 (.seq
 (.reg false [0] [
 oQ 0 (.mov (.c (.bool false)))])
 .ret)
 .skip))
 (.seq
 (.reg false [1, 4] [
 oQ 40 (.bslice 1 [(.c (.int .i64 2))]), oQ 41 (.build [(.str ⟨⟨[]⟩⟩), (.int .i64 0), (.sl .full [])] [(0, 1, (.c (.str ⟨⟨[101]⟩⟩))), (1, 1, (.c (.int .i64 2))), (2, 1, (.t 40))]), oQ 42 (.bslice 3 [(.t 41)]), oQ 43 (.call (.c (.fn (.func 11) [] [])) [(.c (.sl .full [])), (.t 42)]), qM 39 43, oQ 44 (.ext 0 (.t 39)), oQ 45 (.ext 1 (.t 39)), qM 3 44, qM 4 45])
 (.seq
 (.reg false [0] [
 qM 46 1, oQ 47 (.call (.c (.fn (.func 35) [] [])) [(.c (.int .i64 3)), (.c (.str ⟨⟨[97]⟩⟩)), (.c (.str ⟨⟨[97]⟩⟩))]), oQ 48 (.call (.c (.fn (.func 14) [] [])) [(.t 46), (.t 47)]), oQ 49 (.bin .eql (.t 48) (.c (.int .i64 0))), qM 50 49, oG 51 50 true (.mov (.t 1)), oG 52 50 true (.call (.c (.fn (.func 35) [] [])) [(.c (.int .i64 3)), (.c (.str ⟨⟨[98]⟩⟩)), (.c (.str ⟨⟨[97]⟩⟩))]), oG 53 50 true (.call (.c (.fn (.func 14) [] [])) [(.t 51), (.t 52)]), oG 54 50 true (.bin .eql (.t 53) (.c (.int .i64 8))), oQ 55 (.pick (.t 50) (.t 54) (.c (.bool false))), qM 56 55, oG 57 56 true (.mov (.t 1)), oG 58 56 true (.call (.c (.fn (.func 39) [] [])) [(.c (.str ⟨⟨[97]⟩⟩)), (.c (.sl .full []))]), oG 59 56 true (.bslice 4 [(.t 58)]), oG 60 56 true (.call (.c (.fn (.func 13) [] [])) [(.t 57), (.c (.int .i64 0)), (.t 59)]), oG 61 56 true (.bslice 1 [(.c (.int .i64 1)), (.c (.int .i64 2)), (.c (.int .i64 3))]), oG 62 56 true (.call (.c (.fn (.func 17) [] [])) [(.t 60), (.t 61)]), oQ 63 (.pick (.t 56) (.t 62) (.c (.bool false))), qM 64 63, oG 65 64 true (.mov (.t 1)), oG 66 64 true (.call (.c (.fn (.func 16) [] [])) [(.t 65), (.c (.int .i64 1))]), oQ 67 (.pick (.t 64) (.t 66) (.c (.bool false))), qM 68 67, oG 69 68 true (.mov (.t 1)), oG 70 68 true (.call (.c (.fn (.func 16) [] [])) [(.t 69), (.c (.int .i64 1))]), oG 71 68 true (.un .not (.t 70)), oQ 72 (.pick (.t 68) (.t 71) (.c (.bool false))), qM 73 72, oG 74 73 true (.mov (.t 1)), oG 75 73 true (.call (.c (.fn (.func 12) [] [])) [(.t 74)]), oG 76 73 true (.len false (.t 75)), oG 77 73 true (.bin .eql (.t 76) (.c (.int .i64 3))), oQ 78 (.pick (.t 73) (.t 77) (.c (.bool false))), qM 79 78, oG 80 79 true (.mov (.t 4)), oG 81 79 true (.bin .eql (.t 80) (.c (.int .i64 2))), oQ 82 (.pick (.t 79) (.t 81) (.c (.bool false))), qM 0 82])
 .ret)))))
theorem opS_constraintlaw20_IndexBack (hn : vals.length ≤ 95) (h : SP Tryz.prog false vals bs rc_constraintlaw20_IndexBack [.slot 6] Q) : AM.Sem Tryz.prog 3 vals bs Q :=
 Sem.nrm (Sem.of (fn := Tryz.f3) (keeps := [(0, [0, 1, 5]), (1, [0, 1, 5, 19]), (2, [6]), (3, [0, 5, 7, 8]), (4, [0, 5, 7, 32]), (5, [6]), (6, [0, 5, 7, 9]), (7, [0, 5, 7, 9, 10]), (8, [0, 5, 7, 9, 10, 11]), (9, [0, 5, 7, 9, 10, 47]), (10, [6]), (11, [0, 5, 7, 9, 10, 12]), (12, [0, 5, 7, 9, 10, 12, 13]), (13, [6])]) (solo := []) Tryz.func3 rfl (by kernel_rfl) (by kernel_rfl) (by kernel_rfl) hn (run_gp h))
theorem opS_constraintlaw20_exampleHolds (hn : vals.length ≤ 83) (h : SP Tryz.prog false vals bs rc_constraintlaw20_exampleHolds [.slot 0] Q) : AM.Sem Tryz.prog 10 vals bs Q :=
 Sem.nrm (Sem.of (fn := Tryz.f10) (keeps := [(0, []), (1, [1, 2]), (2, [1, 38]), (3, [0]), (4, [1, 4]), (5, [0])]) (solo := []) Tryz.func10 rfl (by kernel_rfl) (by kernel_rfl) (by kernel_rfl) hn (run_gp h))
end Go.CK
namespace Go.CK
open Go.AM Go.Proofs
def stB : Int -> List It -> Bool
 | _, [] => true
 | last, i :: l => decide (last < i.id) && (i.atom.right && stB i.id l)
def rightSt (l : List It) : Bool := decide (l.length ≤ 500) && stB 0 l
def lastI (l : List It) (j : Nat) : Int := match j with
 | 0 => 0
 | j + 1 => match l[j]? with
  | some i => i.id
  | none => 0
set_option maxRecDepth 100000 in
theorem stRight_ok {l : List It} (hl : l.length ≤ 10000000) (ha : ∀ i ∈ l, i.atom.args.length ≤ 10000000) : Fun Tryz.prog 40 [slA It.av l] (.bool (rightSt l)) := by
 unfold rightSt
 by_cases h5 : l.length ≤ 500
 ·rw [decide_eq_true h5, Bool.true_and]; refine Fun.of (op_store_Right (by simp) ?_) rfl rfl
  conv => whnf
  conv => whnf
  repeat' ((first | (refine gC ?_; (refine gD ?_; refine cJ ?_)) | (refine gL ?_; refine .map ?_)) <;> conv => whnf)
  refine LoopP.count (fb := true) (l.length) (fun st_ j => st_.sets [(3, .int .i64 (lastI l j)), (11, .int .i64 j)]) (fun j => stB 0 l = stB (lastI l j) (l.drop j)) ?_ ?_ (fun j hj hij => ?_) (fun hij => ?_)
  ·rfl
  ·refine EndN.at_ ?_ rfl
   conv => whnf
   refine And.intro ?_ ?_ <;> conv => whnf
   all_goals repeat' ((first | (refine gV ?_; first | refine vE ?_ | refine vI ?_ | (refine WkN.norm ?_ ?_; (focus (simp [AV.norm, AV.norm1, lastI]; done)))) | exact True.intro) <;> conv => whnf)
  ·obtain ⟨y, hy⟩ : ∃ y, l[j]? = some y := ⟨_, List.getElem?_eq_getElem hj⟩; rw [List.drop_eq_getElem_cons hj, (List.getElem?_eq_some_iff.1 hy).2, stB] at hij; have hla : lastI l (j + 1) = y.id := by simp [lastI, hy]
   have hr := RightAtom_ok y.atom (by have := ha y (List.mem_of_getElem? hy); omega)
   generalize lastI l j = la at *
   by_cases h1 : la < y.id
   ·rw [decide_eq_true h1, Bool.true_and] at hij
    cases hb : y.atom.right with
    | true =>
     rw [hb] at hr; rw [hb, Bool.true_and] at hij
     conv => whnf
     repeat' ((first | (refine gF ?_; refine CallN.fn (hr) ?_) | (refine gC ?_; first | refine cY ?_ | refine .not ?_ | (refine gD ?_; first | refine cI ?_ | refine cJ ?_)) | (refine gW ?_; refine wI ?_) | (refine gI ?_; (refine gM ?_; refine iE ?_))) <;> conv => whnf)
     refine ⟨by rw [hla]; exact hij, ?_⟩
     refine EndN.atC 0 ?_ rfl rfl rfl rfl (by first | rfl | (repeat' (first | rfl | refine bLtRow (row_allI _ _ _) ?_ | refine bLtRow (row_allB _ _ _) ?_ | refine bLtMp ?_ | refine bLtDead ?_ | refine bLtCells rfl ?_)))
     conv => whnf
     refine And.intro ?_ ?_ <;> conv => whnf
     all_goals repeat' ((first | (refine gV ?_; first | refine vE ?_ | refine vI ?_) | exact True.intro) <;> conv => whnf)
    | false =>
     rw [hb] at hr; rw [hb, Bool.false_and] at hij; rw [hij]
     conv => whnf
     repeat' ((first | (refine gF ?_; refine CallN.fn (hr) ?_) | (refine gC ?_; first | refine cN ?_ | refine .not ?_ | (refine gD ?_; first | refine cI ?_ | refine cJ ?_)) | (refine gI ?_; (refine gM ?_; refine iE ?_)) | refine RetP.nrm ?_) <;> conv => whnf)
     all_goals rfl
   ·rw [decide_eq_false h1, Bool.false_and] at hij; rw [hij]
    conv => whnf
    repeat' ((first | (refine gC ?_; first | refine cY ?_ | (refine gD ?_; refine cI ?_)) | (refine gI ?_; (refine gM ?_; refine iE ?_)) | refine RetP.nrm ?_) <;> conv => whnf)
    all_goals rfl
  ·rw [List.drop_length, stB] at hij; rw [hij]
   conv => whnf
   repeat' ((first | (refine gC ?_; (refine gD ?_; refine cJ ?_)) | refine RetP.nrm ?_) <;> conv => whnf)
   all_goals rfl
 ·rw [decide_eq_false h5]; refine Fun.of (op_store_Right (by simp) ?_) rfl rfl
  conv => whnf
  conv => whnf
  repeat' ((first | (refine gC ?_; (refine gD ?_; refine cI ?_)) | (refine gL ?_; refine .map ?_) | refine RetP.nrm ?_) <;> conv => whnf)
  all_goals rfl
end Go.CK
