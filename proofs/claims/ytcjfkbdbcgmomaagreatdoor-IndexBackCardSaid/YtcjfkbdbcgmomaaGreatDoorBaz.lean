/-
  Texts of this claim joined (wip/gen/bundle.py), those declarations only that are needed: IxN IxX IxY. By an AI agent.
-/
import Derived.Test.YtcjfkbdbcgmomaaGreatDoorBay
import Derived.Test.YtcjfkbdbcgmomaaGreatDoorBaw
import Derived.Lib.SliceRun
import Derived.Lib.JoinLaws
import Derived.Lib.AppendZeros
import Derived.Lib.Overlaps
import Derived.Shelf.Spec.SlicesInsert
set_option linter.unusedSimpArgs false
set_option linter.unusedVariables false
namespace Go.CK
open Go.AM Go.Proofs
def IxAt (V : Nat -> Prop) (bs : List Box) (p : Nat) (acc : List Ac) (its : List It) : Prop :=
 ∃ bi ki t kt cs, IdxG bs p acc its (fun _ => its) bi ki t kt cs ∧ ¬ V bi ∧ ¬ V t ∧ (∀ c ∈ cs, ¬ V c) ∧ t ≠ bi
set_option maxRecDepth 100000 in
set_option maxHeartbeats 2000000 in
theorem newIx_ok {V : Nat -> Prop} {bs : List Box} {l : List Ac} {its : List It} (hV : ∀ b, V b -> b ≤ bs.length) (ha : AllOk l its) (hr : ∀ a ∈ l, a.right = true) (hs : rightSt its = true) (har : ∀ i ∈ its, i.atom.args.length ≤ 10000000) :
  AM.Sem Tryz.prog 11 [slA It.av its, slA Ac.av l] bs fun r bs' => r = .tup [.ptr bs.length 0, .int .i64 0] ∧ IxAt V bs' bs.length l its ∧ Pre bs bs' := by
 have hl := ha.accs; have hp := ha.poss; have hfew := ha.few; have hcn := containsNew_ok (l := l) (by omega) fun a ha => by have := hp a ha; omega
 rw [show (l.any fun x => !x.right) = false from List.any_eq_false.2 fun x hx => by simp [hr x hx]] at hcn
 have hsr := stRight_ok (l := its) (by omega) har
 rw [hs] at hsr; refine opS_index_New (by simp) ?_
 conv => whnf
 try dsimp only
 repeat' ((first | (refine gF ?_; first | refine CallN.fn (hsr) ?_ | refine CallN.fn (hcn) ?_) | (refine gC ?_; first | refine cY ?_ | refine cN ?_ | refine .not ?_) | (refine gL ?_; refine .map ?_)) <;> (conv => whnf; try dsimp only))
 refine LoopP.by (fb := false) (fun st_ (a : Nat × List Box) => ⟨[(0, slA It.av its), (6, .ptr bs.length 0), (20, slA Ac.av l), (21, .int .i64 l.length), (22, .int .i64 (a.1 : Int))], a.2, bs.length⟩)
  (fun a => a.1 ≤ l.length ∧ ∃ ra ka bi t k cs, cs.length = a.1 ∧ a.2[bs.length]? = some (.cells [.bsl ra a.1 ka, .bsl bi 0 0, .bsl t cs.length k]) ∧ TabsAt a.2 t k cs ∧ Pre bs a.2 ∧ bs.length < ra ∧ ra ≠ t ∧ a.2[ra]? = some (rowF Ac.av 3 ka (l.take a.1)) ∧ a.1 ≤ ka ∧ bs.length < t ∧ (∀ c ∈ cs, bs.length < c) ∧ cs.Nodup ∧ bs.length < bi ∧ bi ≠ ra ∧ bi ≠ t ∧ a.2[bi]? = some (.row []))
  (fun a => l.length - a.1) (0, bs ++ [.cells [.bsl (bs.length + 1) 0 0, .bsl (bs.length + 2) 0 0, .bsl (bs.length + 3) 0 0], .row [], .row [], .row []]) ⟨Nat.zero_le _, bs.length + 1, 0, bs.length + 2, bs.length + 3, 0, [], rfl, by simp, ⟨by simp [rowF, cellsOf], Nat.le_refl _, Nat.zero_le _, fun c hc => by cases hc⟩, ⟨by simp, fun b hb => by rw [List.getElem?_append_left hb]⟩, by omega, by omega, by simp [rowF, cellsOf], Nat.le_refl _, by omega, (fun c hc => by cases hc), List.nodup_nil, by omega, by omega, by omega, by simp⟩ ?_ ?_
 ·refine EndN.rowNilAt (p := bs.length) (j := 0) (cs := [.sl .full [], .sl .full [], .sl .full []]) (by simp) rfl ?_
  rw [List.set_append_right _ _ (Nat.le_refl _), Nat.sub_self]; simp only [List.length_append, List.length_cons, List.length_nil, List.set_cons_zero, List.set_cons_succ, List.append_assoc, List.cons_append, List.nil_append]; refine EndN.rowNilAt (p := bs.length) (j := 1) (cs := [.bsl (bs.length + 1) 0 0, .sl .full [], .sl .full []]) (by simp) rfl ?_
  rw [List.set_append_right _ _ (Nat.le_refl _), Nat.sub_self]; simp only [List.length_append, List.length_cons, List.length_nil, List.set_cons_zero, List.set_cons_succ, List.append_assoc, List.cons_append, List.nil_append]; refine EndN.rowNilAt (p := bs.length) (j := 2) (cs := [.bsl (bs.length + 1) 0 0, .bsl (bs.length + 2) 0 0, .sl .full []]) (by simp) rfl ?_
  rw [List.set_append_right _ _ (Nat.le_refl _), Nat.sub_self]; simp only [List.length_append, List.length_cons, List.length_nil, List.set_cons_zero, List.set_cons_succ, List.append_assoc, List.cons_append, List.nil_append]; exact ⟨Weak.refl _⟩
 ·rintro ⟨j, b2⟩ ⟨q1, ra, ka, bi, t, k, cs, q2, q3, hTA, q4, q5, q6, q7, q8, q9, q10, q11, q12, q13, q14, q15⟩; dsimp only at q1 q2 q3 hTA q4 q5 q6 q7 q8 q9 q10 q11 q12 q13 q14 q15; have hpj : ∀ x, l[j]? = some x -> x.positions.length ≤ 1000000 := fun x hx => hp x (List.mem_of_getElem? hx)
  conv => whnf
  try dsimp only
  repeat' ((first | (refine gC ?_; refine CondN.lt (fun hc => ?_) (fun hc => ?_)) | (refine gL ?_; refine .map ?_) | (refine gI ?_; (refine gM ?_; refine iH fun x hx => ?_)) | (refine gB ?_; refine .last ?_) | refine BxSet.last ?_) <;> (conv => whnf; try dsimp only))
  ·conv => whnf
   try dsimp only
   repeat' ((first | (refine gF ?_; refine CallN.fn (cloneI_ok (l := x.positions) (by have := hpj x hx; omega)) ?_) | (refine gB ?_; refine .last ?_) | refine BxSet.last ?_) <;> (conv => whnf; try dsimp only))
   have hlt : bs.length < b2.length := (List.getElem?_eq_some_iff.1 q3).1; have hstr : boxCells b2 bs.length = some [.bsl ra j ka, .bsl bi 0 0, .bsl t cs.length k] := by simp [boxCells, q3, Box.cs?]
   refine BxAt.of (by rw [boxCells_append, if_neg (by omega)]; exact hstr) ?_
   conv => whnf
   try dsimp only
   repeat' ((refine gB ?_; refine .last ?_) <;> (conv => whnf; try dsimp only))
   refine BsrN.one plainAc (fun y => ⟨rfl, rfl⟩) (x := x) rfl ?_
   conv => whnf
   try dsimp only
   repeat' ((refine gPr ?_; refine pT ?_) <;> (conv => whnf; try dsimp only))
   have hra := (List.getElem?_eq_some_iff.1 q7).1; have ht := (List.getElem?_eq_some_iff.1 hTA.row).1; refine appRows (plain_p0 plainAc) (l := l.take j) (l2 := [x]) (k := ka) (k2 := 1) (by rw [List.append_assoc, List.getElem?_append_left hra]; exact q7) (by simp) (by simp; omega) rfl q8 (by omega) fun k1 hk1 => ?_
   conv => whnf
   refine ⟨.inr ?_, ?_⟩
   ·conv => whnf
    repeat' (first | exact True.intro | refine And.intro (cellsD_kill (by omega) (by first | (simp; done) | (simp; omega))) ?_)
   conv => whnf
   try dsimp only
   skip; obtain ⟨B4, hB4⟩ : ∃ B4, B4 = (b2 ++ [Box.cells [AV.str x.name, AV.int IntKind.i64 x.arity, AV.sl Cap.no (List.map intA x.positions)]] ++ [rowF Ac.av 3 1 [x]]).set ra Box.dead ++ [rowF Ac.av 3 k1 (List.take j l ++ [x])] := ⟨_, rfl⟩; have hlen4 : B4.length = b2.length + 3 := by rw [hB4]; simp
   have hold4 : ∀ b, b < b2.length -> b ≠ ra -> B4[b]? = b2[b]? := fun b hb hne => by
    rw [hB4, List.getElem?_append_left (by simp; omega), List.getElem?_set_ne (Ne.symm hne), List.append_assoc, List.getElem?_append_left hb]
   have hrow4 : B4[b2.length + 2]? = some (rowF Ac.av 3 k1 (l.take (j + 1))) := by
    rw [hB4, List.getElem?_append_right (by simp), List.take_add_one, hx]
    simp
   rw [show (b2 ++ [Box.cells [AV.str x.name, AV.int IntKind.i64 x.arity, AV.sl Cap.no (List.map intA x.positions)]] ++ [rowF Ac.av 3 1 [x]]).length = b2.length + 2 by simp, ← hB4]
   have hl1 : (List.take j l ++ [x]).length = j + 1 := by simp; omega
   rw [hl1] at hk1 ⊢; clear hB4; refine BxAt.of (cs := [.bsl ra j ka, .bsl bi 0 0, .bsl t cs.length k]) (by simp [boxCells, hold4 bs.length hlt (by omega), q3, Box.cs?]) ?_
   conv => whnf
   try dsimp only
   skip; refine ⟨?_⟩; obtain ⟨B5, hB5⟩ : ∃ B5, B5 = B4.set bs.length (Box.cells [AV.bsl (b2.length + 2) (j + 1) k1, AV.bsl bi 0 0, AV.bsl t cs.length k]) := ⟨_, rfl⟩; rw [← hB5]; have hlen5 : B5.length = b2.length + 3 := by rw [hB5, List.length_set, hlen4]
   have hstr5 : B5[bs.length]? = some (.cells [.bsl (b2.length + 2) (j + 1) k1, .bsl bi 0 0, .bsl t cs.length k]) := by rw [hB5]; simp [List.getElem?_set]; omega
   have hold5 : ∀ b, b ≠ bs.length -> B5[b]? = B4[b]? := fun b hb => by rw [hB5, List.getElem?_set_ne (Ne.symm hb)]
   clear hB5
   conv => whnf
   try dsimp only
   skip; refine BxAt.of (cs := [.bsl (b2.length + 2) (j + 1) k1, .bsl bi 0 0, .bsl t cs.length k]) (by simp [boxCells, hstr5, Box.cs?]) ?_
   conv => whnf
   try dsimp only
   skip; refine BsrN.mpt (c := B5.length) rfl ?_
   conv => whnf
   try dsimp only
   skip
   have htr5 : B5[t]? = some (rowF AV.mpt 1 k cs) := by
    rw [hold5 t (by omega), hold4 t ht (Ne.symm q6)]; exact hTA.row
   have htl5 : t < B5.length := by omega
   refine appRows plain0M (l := cs) (l2 := [B5.length]) (k := k) (k2 := 1) (by rw [List.append_assoc, List.getElem?_append_left htl5]; exact htr5) (by simp) rfl rfl hTA.le (by omega) fun k2 hk2 => ?_
   conv => whnf
   try dsimp only
   skip; obtain ⟨B6, hB6⟩ : ∃ B6, B6 = (B5 ++ [Box.mp []] ++ [rowF AV.mpt 1 1 [B5.length]]).set t Box.dead ++ [rowF AV.mpt 1 k2 (cs ++ [B5.length])] := ⟨_, rfl⟩; have hlen6 : B6.length = B5.length + 3 := by rw [hB6]; simp
   have hold6 : ∀ b, b < B5.length -> b ≠ t -> B6[b]? = B5[b]? := fun b hb hne => by
    rw [hB6, List.getElem?_append_left (by simp; omega), List.getElem?_set_ne (Ne.symm hne), List.append_assoc, List.getElem?_append_left hb]
   have hrow6 : B6[B5.length + 2]? = some (rowF AV.mpt 1 k2 (cs ++ [B5.length])) := by
    rw [hB6, List.getElem?_append_right (by simp)]
    simp
   have hmp6 : B6[B5.length]? = some (.mp []) := by
    rw [hB6, List.getElem?_append_left (by simp), List.getElem?_set_ne (by omega), List.append_assoc, List.getElem?_append_right (Nat.le_refl _)]
    simp
   rw [show (B5 ++ [Box.mp []] ++ [rowF AV.mpt 1 1 [B5.length]]).length = B5.length + 2 by simp, ← hB6]
   clear hB6; refine BxAt.of (cs := [.bsl (b2.length + 2) (j + 1) k1, .bsl bi 0 0, .bsl t cs.length k]) (by simp [boxCells, hold6 bs.length (by omega) (by omega), hstr5, Box.cs?]) ?_
   conv => whnf
   try dsimp only
   skip; refine ⟨?_⟩; obtain ⟨B7, hB7⟩ : ∃ B7, B7 = (B6.set bs.length (Box.cells [AV.bsl (b2.length + 2) (j + 1) k1, AV.bsl bi 0 0, AV.bsl (B5.length + 2) (cs ++ [B5.length]).length k2])) := ⟨_, rfl⟩; rw [← hB7]; have hlen7 : B7.length = b2.length + 6 := by rw [hB7, List.length_set]; omega
   have hstr7 : B7[bs.length]? = some (.cells [.bsl (b2.length + 2) (j + 1) k1, .bsl bi 0 0, .bsl (B5.length + 2) (cs ++ [B5.length]).length k2]) := by rw [hB7]; simp [List.getElem?_set]; omega
   have hold7 : ∀ b, b ≠ bs.length -> B7[b]? = B6[b]? := fun b hb => by rw [hB7, List.getElem?_set_ne (Ne.symm hb)]
   clear hB7
   conv => whnf
   try dsimp only
   repeat' ((refine gW ?_; refine wI ?_) <;> (conv => whnf; try dsimp only))
   have hmp7 : B7[B5.length]? = some (.mp []) := by rw [hold7 _ (by omega)]; exact hmp6
   have hb2 : ∀ b, b < b2.length -> b ≠ bs.length -> b ≠ ra -> b ≠ t -> (B7.set B5.length (.tab ⟨[], 0, []⟩))[b]? = b2[b]? := fun b h1 h2 h3 h4 => by
    rw [List.getElem?_set_ne (by omega), hold7 b h2, hold6 b (by omega) h4, hold5 b h2, hold4 b h1 h3]
   have hbi7 : bi < b2.length := (List.getElem?_eq_some_iff.1 q15).1; refine ⟨(j + 1, B7.set B5.length (.tab ⟨[], 0, []⟩)), ⟨⟨?_, b2.length + 2, k1, bi, B5.length + 2, k2, cs ++ [B5.length], ?_, ?_, ⟨?_, ?_, ?_, ?_⟩, ?_, ?_, ?_, ?_, ?_, ?_, ?_, ?_, ?_, ?_, ?_, ?_⟩, ?_⟩, ?_⟩
   ·dsimp only; omega
   ·simp [q2]
   ·dsimp only; rw [List.getElem?_set_ne (by omega)]
    exact hstr7
   ·dsimp only; rw [List.getElem?_set_ne (by omega), hold7 _ (by omega)]
    exact hrow6
   ·simpa using hk2
   ·simp; omega
   ·intro c hc; dsimp only; rcases List.mem_append.1 hc with hc | hc
    ·obtain ⟨y, m, h1, h2⟩ := hTA.tab c hc; have hcl := (List.getElem?_eq_some_iff.1 h1).1; have hcp := q10 c hc; refine ⟨y, m, ?_, h2⟩; rw [hb2 c hcl (by omega) (fun e => by rw [e, q7] at h1; cases h1) (fun e => by rw [e, hTA.row] at h1; cases h1)]
     exact h1
    ·simp at hc; subst hc; exact ⟨⟨[], 0, []⟩, [], by rw [List.getElem?_set_self (by omega)], ⟨rfl, (fun _ h => by cases h), (fun _ h => by cases h), List.nodup_nil, List.nodup_nil, (fun _ h => by cases h)⟩⟩
   ·refine ⟨by dsimp only; rw [List.length_set]; omega, fun b hb => ?_⟩
    dsimp only; rw [hb2 b (by have := q4.1; omega) (by omega) (by omega) (by omega)]
    exact q4.2 b hb
   ·omega
   ·omega
   ·dsimp only; rw [List.getElem?_set_ne (by omega), hold7 _ (by omega), hold6 _ (by omega) (by omega), hold5 _ (by omega)]
    exact hrow4
   ·exact hk1
   ·omega
   ·intro c hc; rcases List.mem_append.1 hc with hc | hc
    ·exact q10 c hc
    ·simp at hc; omega
   ·refine List.nodup_append.2 ⟨q11, by simp, fun a ha b hb => ?_⟩
    simp at hb; subst hb; obtain ⟨y, m, h1, h2⟩ := hTA.tab a ha; have hcl := (List.getElem?_eq_some_iff.1 h1).1; omega
   ·exact q12
   ·omega
   ·omega
   ·dsimp only; rw [hb2 bi hbi7 (by omega) q13 q14]
    exact q15
   ·dsimp only; omega
   ·refine EndN.toTab B5.length hmp7 ?_; refine EndN.atS ?_ rfl rfl
    conv => whnf
    repeat' ((first | (refine gV ?_; first | refine vE ?_ | refine vI ?_) | exact True.intro) <;> conv => whnf)
  ·obtain rfl : j = l.length := by omega
   rw [List.take_of_length_le (Nat.le_refl _)] at q7; have hpl : bs.length < b2.length := (List.getElem?_eq_some_iff.1 q3).1; obtain ⟨b3, hb3⟩ : ∃ b3, b3 = (b2.set ra .dead).set bs.length (.cells [slA Ac.av l, .bsl bi 0 0, .bsl t cs.length k]) := ⟨_, rfl⟩; have h3 : ∀ b, b ≠ ra -> b ≠ bs.length -> b3[b]? = b2[b]? := fun b h1 h2 => by rw [hb3, List.getElem?_set_ne (Ne.symm h2), List.getElem?_set_ne (Ne.symm h1)]
   have hI0 : IdxT b3 bs.length l [] (fun _ _ => True) bi 0 t k cs := by
    refine ⟨by rw [hb3, List.getElem?_set_self (by rw [List.length_set]; exact hpl)]; rfl, by rw [h3 bi q13 (by omega), q15]; simp [rowF, cellsOf], Nat.le_refl _, by rw [h3 t (Ne.symm q6) (by omega)]; exact hTA.row, hTA.le, q2, q11, fun i c hc => ?_⟩
    have hcm := List.mem_of_getElem? hc; obtain ⟨y, m, h1, h2⟩ := hTA.tab c hcm; exact ⟨y, m, by rw [h3 c (fun e => by rw [e, q7] at h1; cases h1) (by have := q10 c hcm; omega)]; exact h1, h2, trivial⟩
   have hP3 : Pre bs b3 := ⟨by rw [hb3]; simpa using q4.1, fun b hb => by rw [h3 b (by omega) (by omega)]; exact q4.2 b hb⟩
   refine LoopP.by (fb := false) (fun st_ (a : Nat × List Box) => ⟨[(6, .ptr bs.length 0), (51, slA It.av its), (52, .int .i64 its.length), (53, .int .i64 (a.1 : Int))], a.2, bs.length⟩)
    (fun a => a.1 ≤ its.length ∧ ∃ bj kj, IdxT a.2 bs.length l (its.take a.1) (fun _ _ => True) bj kj t k cs ∧ Pre bs a.2 ∧ bs.length < bj ∧ t ≠ bj ∧ t < a.2.length)
    (fun a => its.length - a.1) (0, b3) ⟨Nat.zero_le _, bi, 0, by simpa using hI0, hP3, q12, Ne.symm q14, (List.getElem?_eq_some_iff.1 hI0.tabs).1⟩ ?_ ?_
   ·refine EndN.frozeBx plainAc bs.length 0 (b := ra) (m := l.length) (k := ka) (l := l) q3 rfl q7 (Nat.le_refl _) ?_; rw [List.take_length]; simp only [List.set_cons_zero]; rw [show (Box.cells [AV.sl Cap.no (l.map Ac.av), .bsl bi 0 0, .bsl t cs.length k]) = .cells [slA Ac.av l, .bsl bi 0 0, .bsl t cs.length k] from rfl, ← hb3]; exact ⟨Weak.refl _⟩
   ·rintro ⟨j, b4⟩ ⟨r1, bj, kj, r2, r3, r4, r5, r6⟩; dsimp only at r1 r2 r3 r4 r5 r6; have hlt4 : bs.length < b4.length := (List.getElem?_eq_some_iff.1 r2.str).1; have hbj4 : bj < b4.length := (List.getElem?_eq_some_iff.1 r2.items).1; have hln : (its.take j).length = j := by rw [List.length_take]; omega
    have hstr4 := r2.str; rw [hln] at hstr4
    by_cases hj : j < its.length
    ·obtain ⟨i, hi⟩ : ∃ i, its[j]? = some i := ⟨_, List.getElem?_eq_getElem hj⟩
     conv => whnf
     try dsimp only
     repeat' ((first | (refine gC ?_; (refine gD ?_; refine cI ?_)) | (refine gI ?_; (refine gM ?_; refine iE ?_)) | (refine gB ?_; refine .last ?_) | refine BxSet.last ?_) <;> (conv => whnf; try dsimp only))
     have hb0 : boxCells b4 bs.length = some [slA Ac.av l, .bsl bj j kj, .bsl t cs.length k] := by simp [boxCells, hstr4, Box.cs?]
     refine BxAt.of (by rw [boxCells_append, if_neg (by omega)]; exact hb0) ?_
     conv => whnf
     try dsimp only
     repeat' ((first | (refine gG ?_; refine CallP.fn (own_ok i (ha.ent i (List.mem_of_getElem? hi)).nds) ?_) | (refine gB ?_; refine .last ?_)) <;> (conv => whnf; try dsimp only))
     refine BsrN.one plainIt (fun y => ⟨rfl, rfl⟩) (x := i) rfl ?_
     conv => whnf
     try dsimp only
     repeat' ((refine gPr ?_; refine pT ?_) <;> (conv => whnf; try dsimp only))
     refine appRows (plain_p0 plainIt) (l := its.take j) (l2 := [i]) (k := kj) (k2 := 1) (by rw [List.append_assoc, List.getElem?_append_left hbj4]; exact r2.items) (by simp) (by simp; omega) rfl (by have := r2.le; omega) (by omega) fun k1 hk1 => ?_
     conv => whnf
     refine ⟨.inr ?_, ?_⟩
     ·conv => whnf
      repeat' (first | exact True.intro | refine And.intro (cellsD_kill (by omega) (by first | (simp; done) | (simp; omega))) ?_)
     conv => whnf
     try dsimp only
     skip; obtain ⟨B5, hB5⟩ : ∃ B5, B5 = (b4 ++ [Box.cells [AV.int IntKind.i64 i.id, AV.str i.atom.name, AV.sl Cap.no (i.atom.args.map Tm.av)]] ++ [rowF It.av 3 1 [i]]).set bj Box.dead ++ [rowF It.av 3 k1 (its.take j ++ [i])] := ⟨_, rfl⟩; have hlen5 : B5.length = b4.length + 3 := by rw [hB5]; simp
     have hold5 : ∀ b, b < b4.length -> b ≠ bj -> B5[b]? = b4[b]? := fun b hb hne => by
      rw [hB5, List.getElem?_append_left (by simp; omega), List.getElem?_set_ne (Ne.symm hne), List.append_assoc, List.getElem?_append_left hb]
     have hrow5 : B5[b4.length + 2]? = some (rowF It.av 3 k1 (its.take (j + 1))) := by
      rw [hB5, List.getElem?_append_right (by simp), List.take_add_one, hi]
      simp
     rw [show (b4 ++ [Box.cells [AV.int IntKind.i64 i.id, AV.str i.atom.name, AV.sl Cap.no (List.map Tm.av i.atom.args)]] ++ [rowF It.av 3 1 [i]]).length = b4.length + 2 by simp, ← hB5]
     have hl1 : (its.take j ++ [i]).length = j + 1 := by simp; omega
     rw [hl1] at hk1 ⊢; clear hB5; refine BxAt.of (cs := [slA Ac.av l, .bsl bj j kj, .bsl t cs.length k]) (by simp [boxCells, hold5 bs.length hlt4 (by omega), hstr4, Box.cs?]) ?_
     conv => whnf
     try dsimp only
     skip; refine ⟨?_⟩; obtain ⟨B6, hB6⟩ : ∃ B6, B6 = B5.set bs.length (Box.cells [.sl .no (l.map Ac.av), AV.bsl (b4.length + 2) (j + 1) k1, AV.bsl t cs.length k]) := ⟨_, rfl⟩; rw [← hB6]; have hlen6 : B6.length = b4.length + 3 := by rw [hB6, List.length_set, hlen5]
     have hstr6 : B6[bs.length]? = some (.cells [slA Ac.av l, .bsl (b4.length + 2) (j + 1) k1, .bsl t cs.length k]) := by rw [hB6, List.getElem?_set_self (by omega)]
     have hold6 : ∀ b, b ≠ bs.length -> B6[b]? = B5[b]? := fun b hb => by rw [hB6, List.getElem?_set_ne (Ne.symm hb)]
     clear hB6; have hln1 : (its.take (j + 1)).length = j + 1 := by rw [List.length_take]; omega
     have hb6 : ∀ b, b < b4.length -> b ≠ bs.length -> b ≠ bj -> B6[b]? = b4[b]? := fun b h1 h2 h3 => by rw [hold6 b h2, hold5 b h1 h3]
     conv => whnf
     try dsimp only
     repeat' ((refine gW ?_; refine wI ?_) <;> (conv => whnf; try dsimp only))
     refine ⟨(j + 1, B6), ⟨⟨by dsimp only; omega, b4.length + 2, k1, ⟨by rw [hln1]; exact hstr6, by dsimp only; rw [hold6 _ (by omega)]; exact hrow5, by rw [hln1]; exact hk1, ?_, r2.tle, r2.len, r2.nod, fun c d hd => ?_⟩, ⟨by dsimp only; have := r3.1; omega, fun b hb => ?_⟩, by omega, by omega, by dsimp only; omega⟩, by dsimp only; omega⟩, ?_⟩
     ·dsimp only; rw [hb6 t (List.getElem?_eq_some_iff.1 r2.tabs).1 (by omega) r5]
      exact r2.tabs
     ·dsimp only; obtain ⟨x, m, h1, h2, h3⟩ := r2.tab c d hd; have hdm := List.mem_of_getElem? hd; obtain ⟨n1, n2, n3⟩ := r2.ne hdm; exact ⟨x, m, by rw [hb6 d (List.getElem?_eq_some_iff.1 h1).1 n1 n2]; exact h1, h2, trivial⟩
     ·dsimp only; rw [hb6 b (by have := r3.1; omega) (by omega) (by omega)]
      exact r3.2 b hb
     refine EndN.atS ?_ rfl rfl
     conv => whnf
     repeat' ((first | (refine gV ?_; first | refine vE ?_ | refine vI ?_) | exact True.intro) <;> conv => whnf)
    ·obtain rfl : j = its.length := by omega
     rw [List.take_of_length_le (Nat.le_refl _)] at r2
     conv => whnf
     try dsimp only
     repeat' ((refine gC ?_; (refine gD ?_; refine cJ ?_)) <;> (conv => whnf; try dsimp only))
     refine CallN.raw (ixRebuild_ok r2 ha) ?_; rintro r b5 ⟨rfl, s1, s2, s3⟩
     conv => whnf
     try dsimp only
     skip; refine ⟨_, Weak.refl _, .inl ⟨rfl, ⟨bj, kj, t, k, cs, s1, (fun h => by have := hV _ h; omega), (fun h => by have := hV _ h; omega), (fun c hc h => by have := hV _ h; have := q10 c hc; omega), r5⟩, ⟨by have := r3.1; exact Nat.le_trans this s2, fun b hb => ?_⟩⟩⟩
     rw [s3 b (by have := r3.1; omega) (fun hc => by have := q10 b hc; omega)]
     exact r3.2 b hb
end Go.CK
namespace Go.CK
open Go.AM Go.Proofs
theorem ixCmp_ok {i : It} {id : Int} : Fun Tryz.prog 100 [i.av, .int .i64 id] (.int .i64 (cmpI i.id id)) := by
 refine Fun.of (op_p_index_Index_find_1 (by simp) ?_) rfl rfl
 conv => whnf
 conv => whnf
 repeat' ((first | (refine gF ?_; refine CallN.fn (cmpI_ok) ?_) | refine RetP.nrm ?_) <;> conv => whnf)
def posI (l : List It) (id : Int) : Nat := l.countP fun x => decide (x.id < id)
def hasI (l : List It) (id : Int) : Bool := l.any fun x => decide (x.id = id)
theorem wU64 {n : Int} {K : Int -> Prop} (k : K n) (h : 0 ≤ n ∧ n ≤ 18446744073709551615) : WrapN .u64 n K := ⟨by rw [IntWalk.u64_in n h]; exact k⟩
theorem half_eq (i j : Nat) : ((i : Int) + (j : Int)) / 2 ^ min (Int.toNat 1) IntKind.u64.bits = (((i + j) / 2 : Nat) : Int) := by
 rw [show (min (Int.toNat 1) IntKind.u64.bits) = 1 from rfl]; omega
theorem cmpI_lt {x y : Int} : cmpI x y < 0 ↔ x < y := by unfold cmpI; split <;> rename_i h <;> first | (split <;> omega) | omega
theorem posI_at {l : List It} {id : Int} {i : Nat} (h1 : ∀ k x, k < i -> l[k]? = some x -> x.id < id) (h2 : ∀ k x, i ≤ k -> l[k]? = some x -> id ≤ x.id) (hi : i ≤ l.length) : posI l id = i := by
 have e : l.countP (fun x => decide (x.id < id)) = (l.take i).countP (fun x => decide (x.id < id)) + (l.drop i).countP (fun x => decide (x.id < id)) := by rw [← List.countP_append, List.take_append_drop]
 have e1 : (l.take i).countP (fun x => decide (x.id < id)) = i := by
  rw [List.countP_eq_length.2 fun x hx => ?_, List.length_take, Nat.min_eq_left hi]; obtain ⟨k, hk⟩ := List.getElem?_of_mem hx; rw [List.getElem?_take] at hk; split at hk
  ·exact decide_eq_true (h1 k x (by assumption) hk)
  ·cases hk
 have e2 : (l.drop i).countP (fun x => decide (x.id < id)) = 0 := List.countP_eq_zero.2 fun x hx => by
  obtain ⟨k, hk⟩ := List.getElem?_of_mem hx; rw [List.getElem?_drop] at hk; have := h2 (i + k) x (by omega) hk
  simp; omega
 rw [posI, e, e1, e2]; rfl
set_option maxRecDepth 100000 in
theorem ixSearch_ok {bs : List Box} {bi ki : Nat} {l : List It} {id : Int} (hb : bs[bi]? = some (rowF It.av 3 ki l)) (ha : Asc l) (hl : l.length ≤ 1000000) :
  AM.Sem Tryz.prog 99 [.bsl bi l.length ki, .int .i64 id, .fn (.func 100) [] []] bs fun r bs' => r = .tup [.int .i64 (posI l id), .bool (hasI l id)] ∧ bs' = bs := by
 refine opS_slices_BinarySearchFunc_api_Item_api_Item_int (by simp) ?_
 conv => whnf
 try dsimp only
 skip
 refine LoopP.by (fb := false) (fun st_ (a : Nat × Nat) => ⟨[(0, .bsl bi l.length ki), (1, .int .i64 id), (2, .fn (.func 100) [] []), (8, .int .i64 l.length), (9, .int .i64 (a.1 : Int)), (10, .int .i64 (a.2 : Int))], bs, bs.length⟩)
  (fun a => a.1 ≤ a.2 ∧ a.2 ≤ l.length ∧ (∀ k x, k < a.1 -> l[k]? = some x -> x.id < id) ∧ ∀ k x, a.2 ≤ k -> l[k]? = some x -> id ≤ x.id) (fun a => a.2 - a.1) (0, l.length)
  ⟨Nat.zero_le _, Nat.le_refl _, fun k x hk => absurd hk (Nat.not_lt_zero _), fun k x hk hx => absurd (List.getElem?_eq_some_iff.1 hx).1 (by dsimp only at hk; omega)⟩ ?_ ?_
 ·refine EndN.atS ?_ rfl rfl
  conv => whnf
  repeat' ((first | (refine gV ?_; first | refine vE ?_ | refine vI ?_) | exact True.intro) <;> conv => whnf)
 ·rintro ⟨i, j⟩ ⟨q1, q2, q3, q4⟩; dsimp only at q1 q2 q3 q4
  by_cases hij : i < j
  ·obtain ⟨m, hm⟩ : ∃ m, m = (i + j) / 2 := ⟨_, rfl⟩; obtain ⟨x, hx⟩ : ∃ x, l[m]? = some x := ⟨_, List.getElem?_eq_getElem (by omega)⟩
   conv => whnf
   try dsimp only
   repeat' ((first | (refine gC ?_; (refine gD ?_; refine cI ?_)) | (refine gW ?_; refine wI ?_)) <;> (conv => whnf; try dsimp only))
   refine wU64 ?_ (by omega)
   conv => whnf
   try dsimp only
   repeat' ((refine gN ?_; refine nS ?_) <;> (conv => whnf; try dsimp only))
   rw [half_eq, ← hm]
   conv => whnf
   try dsimp only
   repeat' ((first | (refine gW ?_; refine wI ?_) | (refine gN ?_; refine nS ?_)) <;> (conv => whnf; try dsimp only))
   refine ElN.elem plainIt (l := l) (x := x) hb (by simpa using hx) ?_
   conv => whnf
   try dsimp only
   repeat' ((first | (refine gF ?_; refine CallN.fn (ixCmp_ok) ?_) | (refine gC ?_; refine CondN.lt (fun hc => ?_) (fun hc => ?_)) | (refine gW ?_; refine wI ?_) | (refine gH ?_; refine hB ?_)) <;> (conv => whnf; try dsimp only))
   ·have hlt : x.id < id := cmpI_lt.1 (by assumption)
    refine ⟨(m + 1, j), ⟨⟨by dsimp only; omega, q2, fun k y hk hy => ?_, q4⟩, by dsimp only; omega⟩, ?_⟩
    ·dsimp only at hk; rcases Nat.lt_or_ge k m with h | h
     ·have h1 := List.pairwise_iff_getElem.1 ha k m (List.getElem?_eq_some_iff.1 hy).1 (List.getElem?_eq_some_iff.1 hx).1 h; rw [(List.getElem?_eq_some_iff.1 hy).2, (List.getElem?_eq_some_iff.1 hx).2] at h1; omega
     ·obtain rfl : k = m := by omega
      rw [hx] at hy; cases hy; exact hlt
    ·refine EndN.atS ?_ rfl rfl
     conv => whnf
     repeat' ((first | (refine gV ?_; first | refine vE ?_ | refine vI ?_) | exact True.intro) <;> conv => whnf)
   ·have hlt : ¬ x.id < id := fun h => absurd (cmpI_lt.2 h) (by omega)
    refine ⟨(i, m), ⟨⟨by dsimp only; omega, by dsimp only; omega, q3, fun k y hk hy => ?_⟩, by dsimp only; omega⟩, ?_⟩
    ·dsimp only at hk; rcases Nat.lt_or_ge m k with h | h
     ·have h1 := List.pairwise_iff_getElem.1 ha m k (List.getElem?_eq_some_iff.1 hx).1 (List.getElem?_eq_some_iff.1 hy).1 h; rw [(List.getElem?_eq_some_iff.1 hy).2, (List.getElem?_eq_some_iff.1 hx).2] at h1; omega
     ·obtain rfl : k = m := by omega
      rw [hx] at hy; cases hy; omega
    ·refine EndN.atS ?_ rfl rfl
     conv => whnf
     repeat' ((first | (refine gV ?_; refine vE ?_) | exact True.intro) <;> conv => whnf)
  ·obtain rfl : i = j := by omega
   have hp := posI_at q3 q4 q2
   conv => whnf
   try dsimp only
   repeat' ((first | (refine gC ?_; first | (refine gD ?_; first | refine cI ?_ | refine cJ ?_) | refine CondN.lt (fun hc => ?_) (fun hc => ?_)) | (refine gN ?_; refine nS ?_)) <;> (conv => whnf; try dsimp only))
   ·obtain ⟨x, hx⟩ : ∃ x, l[i]? = some x := ⟨_, List.getElem?_eq_getElem (by omega)⟩
    refine ElN.elem plainIt (l := l) (x := x) hb (by simpa using hx) ?_
    conv => whnf
    try dsimp only
    repeat' ((first | (refine gF ?_; refine CallN.fn (ixCmp_ok) ?_) | (refine gC ?_; (refine gD ?_; refine cI ?_)) | (refine gH ?_; refine hB ?_)) <;> (conv => whnf; try dsimp only))
    have hh : hasI l id = decide (cmpI x.id id = 0) := by
     by_cases e : x.id = id
     ·rw [decide_eq_true (cmpI_z.2 e)]; exact List.any_eq_true.2 ⟨x, List.mem_of_getElem? hx, decide_eq_true e⟩
     ·rw [decide_eq_false (fun h => e (cmpI_z.1 h)), hasI, List.any_eq_false]; intro y hy; obtain ⟨k, hk⟩ := List.getElem?_of_mem hy
      have hne : ¬ y.id = id := fun e2 => by
       rcases Nat.lt_trichotomy k i with h | h | h
       ·have := q3 k y h hk; omega
       ·subst h; rw [hx] at hk; cases hk; exact e e2
       ·have h1 := List.pairwise_iff_getElem.1 ha i k (List.getElem?_eq_some_iff.1 hx).1 (List.getElem?_eq_some_iff.1 hk).1 h; rw [(List.getElem?_eq_some_iff.1 hk).2, (List.getElem?_eq_some_iff.1 hx).2] at h1; have := q4 i x (Nat.le_refl _) hx; omega
      simpa using hne
    rw [hp, hh]; exact ⟨_, Weak.refl _, .inl ⟨rfl, rfl⟩⟩
   ·have hh : hasI l id = false := by
     rw [hasI, List.any_eq_false]; intro x hx; obtain ⟨k, hk⟩ := List.getElem?_of_mem hx; have := q3 k x (by have := (List.getElem?_eq_some_iff.1 hk).1; omega) hk
     simp; omega
    rw [hp, hh]; exact ⟨_, Weak.refl _, .inl ⟨rfl, rfl⟩⟩
set_option maxRecDepth 100000 in
theorem ixFind_ok {bs : List Box} {p : Nat} {acc : List Ac} {its : List It} {f : Nat -> List It} {bi ki t kt : Nat} {cs : List Nat} {id : Int} (h : IdxG bs p acc its f bi ki t kt cs) (ha : Asc its) (hl : its.length ≤ 1000000) :
  AM.Sem Tryz.prog 48 [.ptr p 0, .int .i64 id] bs fun r bs' => r = .tup [.int .i64 (posI its id), .bool (hasI its id)] ∧ bs' = bs := by
 have hb0 : boxCells bs p = some [slA Ac.av acc, .bsl bi its.length ki, .bsl t cs.length kt] := by simp [boxCells, h.str, Box.cs?]
 refine opS_p_index_Index_find (by simp) ?_
 conv => whnf
 try dsimp only
 repeat' ((refine gB ?_; refine .of (by assumption) ?_) <;> (conv => whnf; try dsimp only))
 refine CallN.raw (ixSearch_ok h.items ha hl) ?_; rintro r b' ⟨rfl, rfl⟩
 conv => whnf
 try dsimp only
 skip; exact ⟨_, Weak.refl _, .inl ⟨rfl, rfl⟩⟩
theorem insIt_at {l : List It} (h : Asc l) (i : It) : insIt l i = l.take (posI l i.id) ++ i :: l.drop (posI l i.id) := by
 unfold insIt
 have e : l.filter (fun x => decide (x.id < i.id)) = l.take (posI l i.id) ∧ l.filter (fun x => !decide (x.id < i.id)) = l.drop (posI l i.id) := by
  unfold posI
  induction l with
  | nil => exact ⟨rfl, rfl⟩
  | cons a l ih =>
   rw [Asc, List.pairwise_cons] at h; obtain ⟨i1, i2⟩ := ih h.2
   by_cases hx : a.id < i.id
   ·simp only [List.filter_cons, List.countP_cons, hx, decide_true, if_true, Bool.not_true, Bool.false_eq_true, if_false, List.take_succ_cons, List.drop_succ_cons]; exact ⟨by rw [i1], i2⟩
   ·have h0 : ∀ x ∈ l, ¬ x.id < i.id := fun x hm => by have := h.1 x hm; omega
    have hc : l.countP (fun x => decide (x.id < i.id)) = 0 := List.countP_eq_zero.2 fun x hm => by simpa using h0 x hm
    have hf : l.filter (fun x => decide (x.id < i.id)) = [] := List.filter_eq_nil_iff.2 fun x hm => by simpa using h0 x hm
    have hg : l.filter (fun x => !decide (x.id < i.id)) = l := List.filter_eq_self.2 fun x hm => by simpa using h0 x hm
    simp only [List.filter_cons, List.countP_cons, hx, decide_false, Bool.false_eq_true, if_false, Bool.not_false, if_true, hc, hf, hg]; exact ⟨rfl, rfl⟩
 rw [e.1, e.2]
theorem posI_le (l : List It) (id : Int) : posI l id ≤ l.length := List.countP_le_length
end Go.CK
namespace Go.AM
open Go.CK Go.RowKit Go.Proofs Go.Lib
variable {P : Program}
theorem run_copy_z (w : World) (dT sT ty elem : TypeId) (z b o dLen dCap : Nat) (a : Addr) (sLen sCap : Nat) (cs : List Value)
  (hu : P.underlying dT = some (.slice elem)) (hs : (P.info? elem).map (·.size) = some z) (hn : cs.length = Nat.min sLen dLen * z)
  (hsrc : ∀ j v, cs[j]? = some v -> w.cell? (a.add j) = some v) (hc : ∀ j, j < cs.length -> (w.cell? ⟨b, o + j, none⟩).isSome = true) (hf : ∀ j, j < cs.length -> w.frozen? ⟨b, o + j, none⟩ = false) (h1 : ∀ v ∈ cs, v.oneCell' = true) :
  (Builtin.copy_ #[dT, sT] ty #[.slice (some ⟨b, o, none⟩) dLen dCap, .slice (some a) sLen sCap]).run P w = .ok (goInt (Nat.min sLen dLen)) (w.setCells b o cs) := by
 have hl := run_loadCells_list (P := P) w a cs hsrc; have hst := run_storeCells_cells (P := P) b o cs 0 w (by simpa using hc) (by simpa using hf) h1
 cases hq : P.info? elem with
 | none => simp [hq] at hs
 | some i =>
  have hi : i.size = z := by simpa [hq] using hs
  simp [Builtin.copy_, run_underlying hu, Builtin.lenOf, Builtin.firstCells, sizeOf, typeInfo, hq, hi, ← hn, hl, hst]
theorem Tryz.infoIt : (Tryz.prog.info? 28).map (fun i => (i.zero, i.size, i.bytes)) = some (some (.agg #[.int .i64 0, .string ⟨#[]⟩, .slice none 0 0]), 3, 48) := by kernel_rfl
set_option maxHeartbeats 1000000 in
set_option maxRecDepth 100000 in
theorem ins3_shift (b n c i vb vc : Nat) (us xs : List Value) (w : World) (hi : i < n) (hroom : n + 1 ≤ c) (hbig : n ≤ 1000000) (hvb : vb ≠ b) (hus : us.length = n * 3) (hxs : xs.length = 3)
  (hcs : ∀ j v, us[j]? = some v -> w.cell? ⟨b, j, none⟩ = some v) (hsp : ∀ j, j < c * 3 -> (w.cell? ⟨b, j, none⟩).isSome = true) (hfz : ∀ j, w.frozen? ⟨b, j, none⟩ = false)
  (hvs : ∀ j v, xs[j]? = some v -> w.cell? ⟨vb, j, none⟩ = some v) (h1c : ∀ v ∈ us, v.oneCell' = true) (h1v : ∀ v ∈ xs, v.oneCell' = true)
  (tA tB : TypeId) (kA kB : Nat) (hsa : w.shape? vb = some (tA, kA)) (hsb : w.shape? b = some (tB, kB)) (hkB : kB ≠ 0) (hfa : ∀ j, w.frozen? ⟨vb, j, none⟩ = false) :
  Calls Tryz.prog 50 #[.slice (some ⟨b, 0, none⟩) n c, .int .i64 i, .slice (some ⟨vb, 0, none⟩) 1 vc] w fun e w' =>
   e = .returned (.slice (some ⟨b, 0, none⟩) (n + 1) c) ∧ w' = (w.drew.setCells b ((i + 1) * 3) (us.drop (i * 3))).setCells b (i * 3) xs := by
 have hz2 : ¬ ((i : Int) = (n : Int)) := by omega
 have hin : i ≤ n := by omega
 obtain ⟨i0, hi0, hz0, hz1, hzb⟩ := info_parts Tryz.infoIt; have hsz : (Tryz.prog.info? 28).map (·.size) = some 3 := by rw [hi0]; simp [hz1]
 have hov : ∀ lb cb, (callFunc 103 #[.slice (some ⟨vb, 0, none⟩) 1 vc, .slice (some ⟨b, (i + 1) * 3, none⟩) lb cb]).run Tryz.prog w = .ok (.value (.bool false)) w := fun lb cb => by
  rw [run_callFunc_extern Tryz.func103 (by kernel_rfl) (by kernel_rfl) (by kernel_rfl) (e := Extern.SlicesOverlaps.overlaps #[22, 22] #[4]) (by kernel_rfl),
   Lib.run_overlaps_apart w 22 4 28 Tryz.underlying22 3 Tryz.sizeOf28 ⟨vb, 0, none⟩ ⟨b, (i + 1) * 3, none⟩ 1 vc lb cb hvb tA tB kA kB hsa hsb hkB (hfa 0) (hfa kA)]
  rfl
 have mixed : Tryz.prog.follows .mixedOrders = true := by kernel_rfl
 have hdl : (us.drop (i * 3)).length = (n - i) * 3 := by rw [List.length_drop, hus, Nat.sub_mul]
 have hb1 : (0 : Int) ≤ (i : Int) + 1 := by omega
 have hw1 : IntKind.i64.wrap ((i : Int) + 1) = (i : Int) + 1 := by rw [IntKind.wrap_i64]; omega
 have htn : ((i : Int) + 1).toNat = i + 1 := by omega
 have hb2 : ¬ (c = i + 1) := by omega
 have hb3 : (i : Int) ≤ (n : Int) + 1 := by omega
 have hb4 : ¬ (c = i) := by omega
 have hmn : ∀ a b : Nat, a = b -> goInt a = goInt b := fun a b e => by rw [e]
 have hcp1 : ∀ ty dc sc, (Builtin.copy_ #[22, 22] ty #[.slice (some ⟨b, (i + 1) * 3, none⟩) (n - i) dc, .slice (some ⟨b, i * 3, none⟩) (n + 1 - i) sc]).run Tryz.prog w.drew = .ok (goInt ((n - i : Nat) : Int)) (w.drew.setCells b ((i + 1) * 3) (us.drop (i * 3))) := fun ty dc sc => by
  have h := run_copy_z (P := Tryz.prog) w.drew 22 22 ty 28 3 b ((i + 1) * 3) (n - i) dc ⟨b, i * 3, none⟩ (n + 1 - i) sc (us.drop (i * 3)) Tryz.underlying22 hsz (by rw [hdl]; rw [show Nat.min (n + 1 - i) (n - i) = n - i from Nat.min_eq_right (by omega)])
   (fun j v hj => by rw [Addr.add_lit]; exact hcs (i * 3 + j) v (by rwa [List.getElem?_drop] at hj))
   (fun j hj => hsp _ (by rw [hdl] at hj; omega)) (fun j hj => hfz _) (fun v hv => h1c v (List.mem_of_mem_drop hv))
  rw [h]; rw [show Nat.min (n + 1 - i) (n - i) = n - i from Nat.min_eq_right (by omega)]
 obtain ⟨W1, hW1⟩ : ∃ W1, W1 = w.drew.setCells b ((i + 1) * 3) (us.drop (i * 3)) := ⟨_, rfl⟩
 have hsp1 : ∀ k, k < c * 3 -> (W1.cell? ⟨b, k, none⟩).isSome = true := fun k hk => by
  rw [hW1]; exact Go.Proofs.isSome_setCells b (us.drop (i * 3)) ((i + 1) * 3) w.drew (fun j hj => hsp _ (by rw [hdl] at hj; omega)) k (hsp k hk)
 have hcp2 : ∀ (W : World), (∀ x, W.cell? x = W1.cell? x) -> (∀ x, W.frozen? x = W1.frozen? x) -> ∀ ty dc, (Builtin.copy_ #[22, 22] ty #[.slice (some ⟨b, i * 3, none⟩) (n + 1 - i) dc, .slice (some ⟨vb, 0, none⟩) 1 vc]).run Tryz.prog W = .ok (goInt ((1 : Nat) : Int)) (W.setCells b (i * 3) xs) := fun W hWc hWf ty dc => by
  have h := run_copy_z (P := Tryz.prog) W 22 22 ty 28 3 b (i * 3) (n + 1 - i) dc ⟨vb, 0, none⟩ 1 vc xs Tryz.underlying22 hsz (by rw [hxs, show Nat.min 1 (n + 1 - i) = 1 from Nat.min_eq_left (by omega)])
   (fun j v hj => by
    rw [Addr.add_lit, Nat.zero_add, hWc, hW1, World.cell?_setCells_out b _ _ _ _ (fun h _ => absurd h hvb)]; exact hvs j v hj)
   (fun j hj => by rw [hWc]; exact hsp1 _ (by omega)) (fun j hj => by rw [hWf, hW1, World.frozen?_setCells]; exact hfz _) h1v
  rw [h]; rw [show Nat.min 1 (n + 1 - i) = 1 from Nat.min_eq_left (by omega)]
 rw [← hW1] at hcp1
 go_enter Tryz.func50, Tryz.ntmps50
 go_wp2_with (simp only [hov])
 go_region_law_o (refine step_copy_runI rfl _ _ 22 22 rfl _ _ (by simp [Act.eval, Act.put]) (by simp [Act.eval, Act.put]) (hcp1 _ _ _) ?_)
 go_wp2_with (at_builtin; refine wpList_copy_runI _ rfl _ _ 22 22 rfl _ _ rfl rfl (hcp2 _ (fun _ => rfl) (fun _ => rfl) _ _) ?_)
 go_ret
 first | exact ⟨rfl, rfl⟩ | exact ⟨rfl, by rw [hW1]⟩
set_option maxHeartbeats 1000000 in
set_option maxRecDepth 100000 in
theorem ins3_end (base : Option Addr) (n c vb vc : Nat) (w : World) (hnc : n ≤ c) (hbig : n ≤ 1000000) {v' : Value} {w' : World}
  (hr : ∀ ty, (Builtin.append_ #[22, 22] ty #[.slice base n c, .slice (some ⟨vb, 0, none⟩) 1 vc]).run Tryz.prog w = .ok v' w') :
  Calls Tryz.prog 50 #[.slice base n c, .int .i64 n, .slice (some ⟨vb, 0, none⟩) 1 vc] w fun e w2 => e = .returned v' ∧ w2 = w' := by
 have mixed : Tryz.prog.follows .mixedOrders = true := by kernel_rfl
 go_enter Tryz.func50, Tryz.ntmps50
 cases base with
 | none =>
  go_wp2_with (at_builtin; refine Lib.wpList_append_run _ rfl _ _ _ _ rfl _ _ rfl rfl _ _ (hr _) ?_)
  all_goals (go_ret; exact ⟨rfl, rfl⟩)
 | some a =>
  obtain ⟨ab, ao, asp⟩ := a
  go_wp2_with (at_builtin; refine Lib.wpList_append_run _ rfl _ _ _ _ rfl _ _ rfl rfl _ _ (hr _) ?_)
  all_goals (go_ret; exact ⟨rfl, rfl⟩)
def zIt : Value := .agg #[.int .i64 0, .string ⟨#[]⟩, .slice none 0 0]
theorem zIt_cells (n : Nat) : (Builtin.zeroCells zIt.cells n).size = n * 3 := by
 rw [size_zeroCells]; rfl
set_option maxHeartbeats 2000000 in
set_option maxRecDepth 100000 in
theorem ins3_grow (b n c i vb vc : Nat) (us xs : List Value) (w : World) (hi : i < n) (hnc : n ≤ c) (hroom : c < n + 1) (hbig : n ≤ 1000000) (hus : us.length = n * 3) (hxs : xs.length = 3)
  (hcs : ∀ j v, us[j]? = some v -> w.cell? ⟨b, j, none⟩ = some v) (hvs : ∀ j v, xs[j]? = some v -> w.cell? ⟨vb, j, none⟩ = some v) (h1c : ∀ v ∈ us, v.oneCell' = true) (h1v : ∀ v ∈ xs, v.oneCell' = true) :
  Calls Tryz.prog 50 #[.slice (some ⟨b, 0, none⟩) n c, .int .i64 i, .slice (some ⟨vb, 0, none⟩) 1 vc] w fun e w' => ∃ G ROW, n + 1 ≤ G ∧ ROW = (us.take (i * 3)).toArray ++ Builtin.zeroCells zIt.cells (n + 1 - i) ++ Builtin.zeroCells zIt.cells (G - (n + 1)) ∧
   e = .returned (.slice (some ⟨w.heap.size, 0, none⟩) (n + 1) G) ∧
   w' = (((w.alloc (.cells ROW 28)).drew.setCells w.heap.size (i * 3) xs).drew).setCells w.heap.size ((i + 1) * 3) (us.drop (i * 3)) := by
 have hz2 : ¬ ((i : Int) = (n : Int)) := by omega
 have hz3 : (c : Int) < (n : Int) + 1 := by omega
 have hin : i ≤ n := by omega
 obtain ⟨i0, hi0, hz0, hz1, hzb⟩ := info_parts Tryz.infoIt; have hsz : (Tryz.prog.info? 28).map (·.size) = some 3 := by rw [hi0]; simp [hz1]
 have hbw : b < w.heap.size := block_lt_of_cell (hcs 0 _ (List.getElem?_eq_getElem (by omega)))
 have hvw : vb < w.heap.size := block_lt_of_cell (hvs 0 _ (List.getElem?_eq_getElem (by omega)))
 have mixed : Tryz.prog.follows .mixedOrders = true := by kernel_rfl
 have hkk : (n : Int) + 1 - (i : Int) = ((n + 1 - i : Nat) : Int) := by omega
 have hik : i + (n + 1 - i) = n + 1 := by omega
 have htl : (us.take (i * 3)).length = i * 3 := by rw [List.length_take]; omega
 have hold : (Builtin.firstCells i0.size i (.slice (some ⟨b, 0, none⟩) i c)).run Tryz.prog w.drew = .ok (us.take (i * 3)).toArray w.drew := by
  rw [hz1]
  exact run_firstCells_some w.drew 3 i ⟨b, 0, none⟩ i c (us.take (i * 3)) htl (fun j v hj => by
   rw [Addr.add_lit, Nat.zero_add]; rw [List.getElem?_take] at hj; split at hj
   ·exact hcs j v hj
   ·cases hj)
 obtain ⟨G, hG⟩ : ∃ G, G = grownCap w (n + 1) c 28 := ⟨_, rfl⟩; have hGn : n + 1 ≤ G := by rw [hG]; exact grownCap_ge w _ _ _
 have hG63 : G ≤ 9223372036854775807 := by
  have := grownCap_le_maxLen w (n + 1) c 28 (by unfold maxLen; omega)
  rw [← hG] at this; unfold maxLen at this; omega
 obtain ⟨ROW, hROW⟩ : ∃ ROW : Array Value, ROW = (us.take (i * 3)).toArray ++ Builtin.zeroCells zIt.cells (n + 1 - i) ++ Builtin.zeroCells zIt.cells (G - (n + 1)) := ⟨_, rfl⟩
 have hrz : ∀ ty, (Builtin.append_ #[22, 3] ty #[.slice (some ⟨b, 0, none⟩) i c, .int .i64 ((n : Int) + 1 - (i : Int))]).run Tryz.prog w =
   .ok (.slice (some ⟨w.heap.size, 0, none⟩) (n + 1) G) (w.drew.alloc (.cells ROW 28)) := fun ty => by
  have h := Lib.run_append_grow_zeros w 22 3 ty 28 i0 _ .i64 .i64 Tryz.underlying22 Tryz.underlying3 hi0 hz0 (some ⟨b, 0, none⟩) i c (us.take (i * 3)) hold (n + 1 - i) (by omega) (by omega) (by omega) (by omega) (by rw [hzb]; omega) (by rw [hzb, hik]; exact growslice_fits hroom (by omega))
  rw [hik, ← hG] at h; rw [hkk, hROW]; exact h
 have hRl : ROW.size = G * 3 := by
  rw [hROW]; simp only [Array.size_append, List.size_toArray, zIt_cells, htl, Nat.sub_mul]; omega
 obtain ⟨W1, hW1⟩ : ∃ W1, W1 = w.drew.alloc (.cells ROW 28) := ⟨_, rfl⟩
 have hN : ∀ j, j < G * 3 -> (W1.cell? ⟨w.heap.size, j, none⟩).isSome = true := fun j hj => by
  rw [hW1, World.cell?_alloc_at (w := w.drew) ROW _ w.heap.size j rfl, Array.getElem?_eq_getElem (by omega)]; rfl
 have hNf : ∀ j, W1.frozen? ⟨w.heap.size, j, none⟩ = false := fun j => by rw [hW1]; exact World.frozen?_alloc_at (w := w.drew) ROW _ w.heap.size j rfl
 have hOb : ∀ j v, w.cell? ⟨b, j, none⟩ = some v -> W1.cell? ⟨b, j, none⟩ = some v := fun j v h => by rw [hW1, World.cell?_alloc_past (w := w.drew) _ b j hbw]; exact h
 have hOv : ∀ j v, w.cell? ⟨vb, j, none⟩ = some v -> W1.cell? ⟨vb, j, none⟩ = some v := fun j v h => by rw [hW1, World.cell?_alloc_past (w := w.drew) _ vb j hvw]; exact h
 have hcpA : ∀ (W : World), (∀ x, W.cell? x = W1.cell? x) -> (∀ x, W.frozen? x = W1.frozen? x) -> ∀ ty dc, (Builtin.copy_ #[22, 22] ty #[.slice (some ⟨w.heap.size, i * 3, none⟩) (n + 1 - i) dc, .slice (some ⟨vb, 0, none⟩) 1 vc]).run Tryz.prog W = .ok (goInt ((1 : Nat) : Int)) (W.setCells w.heap.size (i * 3) xs) := fun W hWc hWf ty dc => by
  have h := run_copy_z (P := Tryz.prog) W 22 22 ty 28 3 w.heap.size (i * 3) (n + 1 - i) dc ⟨vb, 0, none⟩ 1 vc xs Tryz.underlying22 hsz (by rw [hxs, show Nat.min 1 (n + 1 - i) = 1 from Nat.min_eq_left (by omega)])
   (fun j v hj => by rw [Addr.add_lit, Nat.zero_add, hWc]; exact hOv _ v (hvs j v hj))
   (fun j hj => by rw [hWc]; exact hN _ (by omega)) (fun j hj => by rw [hWf]; exact hNf _) h1v
  rw [h]; rw [show Nat.min 1 (n + 1 - i) = 1 from Nat.min_eq_left (by omega)]
 have hGi : ¬ (G = i) := by omega
 have hGim : ¬ (G = i + 1) := by omega
 have hci : ¬ (c = i) := by omega
 have hbN : b ≠ w.heap.size := by omega
 have hdl : (us.drop (i * 3)).length = (n - i) * 3 := by rw [List.length_drop, hus, Nat.sub_mul]
 have hcpB : ∀ (W : World), (∀ x, W.cell? x = (W1.setCells w.heap.size (i * 3) xs).cell? x) -> (∀ x, W.frozen? x = (W1.setCells w.heap.size (i * 3) xs).frozen? x) -> ∀ ty dc sc, (Builtin.copy_ #[22, 22] ty #[.slice (some ⟨w.heap.size, (i + 1) * 3, none⟩) (n - i) dc, .slice (some ⟨b, i * 3, none⟩) (n - i) sc]).run Tryz.prog W = .ok (goInt ((n - i : Nat) : Int)) (W.setCells w.heap.size ((i + 1) * 3) (us.drop (i * 3))) := fun W hWc hWf ty dc sc => by
  have h := run_copy_z (P := Tryz.prog) W 22 22 ty 28 3 w.heap.size ((i + 1) * 3) (n - i) dc ⟨b, i * 3, none⟩ (n - i) sc (us.drop (i * 3)) Tryz.underlying22 hsz (by rw [hdl, show Nat.min (n - i) (n - i) = n - i from Nat.min_self _])
   (fun j v hj => by
    rw [Addr.add_lit, hWc, World.cell?_setCells_out _ _ _ _ _ (fun h _ => absurd h hbN)]; exact hOb _ v (hcs (i * 3 + j) v (by rwa [List.getElem?_drop] at hj)))
   (fun j hj => by rw [hWc]; exact Go.Proofs.isSome_setCells _ _ _ _ (fun t ht => hN _ (by omega)) _ (hN _ (by omega)))
   (fun j hj => by rw [hWf, World.frozen?_setCells]; exact hNf _) (fun v hv => h1c v (List.mem_of_mem_drop hv))
  rw [h]; rw [show Nat.min (n - i) (n - i) = n - i from Nat.min_self _]
 have hb1 : (0 : Int) ≤ (i : Int) + 1 := by omega
 have hw1 : IntKind.i64.wrap ((i : Int) + 1) = (i : Int) + 1 := by rw [IntKind.wrap_i64]; omega
 have htn : ((i : Int) + 1).toNat = i + 1 := by omega
 refine Calls.mono (R := fun e w' => e = .returned (.slice (some ⟨w.heap.size, 0, none⟩) (n + 1) G) ∧ w' = (((w.alloc (.cells ROW 28)).drew.setCells w.heap.size (i * 3) xs).drew).setCells w.heap.size ((i + 1) * 3) (us.drop (i * 3))) ?_ fun e w' h => ⟨G, ROW, hGn, hROW, h⟩; rw [← hW1] at hrz; subst hW1; have hE1 : ∀ x, ((w.alloc (.cells ROW 28)).drew).cell? x = (w.drew.alloc (.cells ROW 28)).cell? x := fun x => rfl; have hE2 : ∀ x, ((w.alloc (.cells ROW 28)).drew).frozen? x = (w.drew.alloc (.cells ROW 28)).frozen? x := fun x => rfl; have hF1 : ∀ x, (((w.alloc (.cells ROW 28)).drew.setCells w.heap.size (i * 3) xs).drew).cell? x = ((w.drew.alloc (.cells ROW 28)).setCells w.heap.size (i * 3) xs).cell? x := fun x => rfl; have hF2 : ∀ x, (((w.alloc (.cells ROW 28)).drew.setCells w.heap.size (i * 3) xs).drew).frozen? x = ((w.drew.alloc (.cells ROW 28)).setCells w.heap.size (i * 3) xs).frozen? x := fun x => rfl; clear hkk hik hold hROW hG hRl
 go_enter Tryz.func50, Tryz.ntmps50
 go_wp2_with (first
  | (at_builtin; refine Lib.wpList_append_run _ rfl _ _ _ _ rfl _ _ rfl rfl _ _ (hrz _) ?_)
  | (at_builtin; refine wpList_copy_runI _ rfl _ _ 22 22 rfl _ _ rfl rfl (hcpA _ hE1 hE2 _ _) ?_)
  | (at_builtin; refine wpList_copy_runI _ rfl _ _ 22 22 rfl _ _ rfl rfl (hcpB _ (fun _ => rfl) (fun _ => rfl) _ _ _) ?_))
 go_region_law_o (refine step_copy_runI rfl _ _ 22 22 rfl (.slice (some ⟨w.heap.size, (i + 1) * 3, none⟩) (n - i) (G - (i + 1))) (.slice (some ⟨b, i * 3, none⟩) (n - i) (c - i)) (by simp [Act.eval, Act.put]) (by simp [Act.eval, Act.put]) (hcpB _ hF1 hF2 3 (G - (i + 1)) (c - i)) ?_)
 go_wp2
 go_ret
 exact ⟨rfl, rfl⟩
theorem run_clear_z (w : World) (t e ty : TypeId) (z : Value) (zs : List Value) (ht : P.underlying t = some (.slice e)) (hv : ∀ w, (zeroValue e).run P w = .ok z w) (hz : (Builtin.zeroCells z.cells 1).toList = zs) (h1 : ∀ v ∈ zs, v.oneCell' = true) (b o c : Nat)
  (hc : ∀ j, j < zs.length -> (w.cell? ⟨b, o + j, none⟩).isSome = true) (hf : ∀ j, j < zs.length -> w.frozen? ⟨b, o + j, none⟩ = false) :
  (Builtin.clear_ #[t] ty #[.slice (some ⟨b, o, none⟩) 1 c]).run P w = .ok (.tuple #[]) (w.setCells b o zs) := by
 have hst := run_storeCells_cells (P := P) b o zs 0 w (by simpa using hc) (by simpa using hf) h1
 simp only [Nat.add_zero] at hst; simp [Builtin.clear_, run_underlying ht, hv, hz, hst]
def zl3 : List Value := [.int .i64 0, .string ⟨#[]⟩, .slice none 0 0]
set_option maxHeartbeats 2000000 in
set_option maxRecDepth 100000 in
theorem del3 (b n c i : Nat) (us : List Value) (w : World) (hi : i < n) (hnc : n ≤ c) (hbig : n ≤ 1000000) (hus : us.length = n * 3)
  (hcs : ∀ j v, us[j]? = some v -> w.cell? ⟨b, j, none⟩ = some v) (hsp : ∀ j, j < c * 3 -> (w.cell? ⟨b, j, none⟩).isSome = true) (hfz : ∀ j, w.frozen? ⟨b, j, none⟩ = false) (h1c : ∀ v ∈ us, v.oneCell' = true) :
  Calls Tryz.prog 56 #[.slice (some ⟨b, 0, none⟩) n c, .int .i64 i, .int .i64 ((i : Int) + 1)] w fun e w' =>
   e = .returned (.slice (some ⟨b, 0, none⟩) (n - 1) c) ∧ w' = (w.drew.setCells b (i * 3) (us.drop ((i + 1) * 3))).setCells b ((n - 1) * 3) zl3 := by
 have hz2 : ¬ ((i : Int) = (i : Int) + 1) := by omega
 have hin : i ≤ n := by omega
 obtain ⟨i0, hi0, hz0, hz1, hzb⟩ := info_parts Tryz.infoIt; have mixed : Tryz.prog.follows .mixedOrders = true := by kernel_rfl
 have hb1 : (0 : Int) ≤ (i : Int) + 1 := by omega
 have htn : ((i : Int) + 1).toNat = i + 1 := by omega
 have hb3 : (i : Int) + 1 ≤ (n : Int) := by omega
 obtain ⟨news, hnews⟩ : ∃ news, news = us.drop ((i + 1) * 3) := ⟨_, rfl⟩; have hlen : news.length = (n - (i + 1)) * 3 := by rw [hnews, List.length_drop, hus, Nat.sub_mul]
 obtain ⟨A, hA, hsrc⟩ : ∃ A : Addr, (if c = i + 1 then some (⟨b, 0, none⟩ : Addr) else some ⟨b, (i + 1) * 3, none⟩) = some A ∧ Hid (∀ t u, news[t]? = some u -> w.drew.cell? (A.add t) = some u) := by
  by_cases h : c = i + 1
  ·refine ⟨⟨b, 0, none⟩, by simp [h], fun t u hu => ?_⟩
   have h0 : news.length = 0 := by rw [hlen]; omega
   rw [List.length_eq_zero_iff.1 h0] at hu; simp at hu
  ·refine ⟨⟨b, (i + 1) * 3, none⟩, by simp [h], fun t u hu => ?_⟩
   rw [Addr.add_lit]; exact hcs _ u (by rw [hnews, List.getElem?_drop] at hu; exact hu)
 have s1 : Hid (news.length = (n - (i + 1)) * 3) := hlen; have s2 : Hid (∀ u ∈ news, u.oneCell' = true) := fun u hu => h1c u (List.mem_of_mem_drop (by rw [hnews] at hu; exact hu))
 have s3 : Hid (∀ t, t < news.length -> (w.drew.cell? ⟨b, 0 + i * 3 + t, none⟩).isSome = true ∧ w.drew.frozen? ⟨b, 0 + i * 3 + t, none⟩ = false) := fun t ht => by
  rw [hlen] at ht; exact ⟨hsp _ (by omega), hfz _⟩
 obtain ⟨W1, hW1⟩ : ∃ W1, W1 = w.drew.setCells b (0 + i * 3) news := ⟨_, rfl⟩
 have hsp1 : ∀ k, k < c * 3 -> (W1.cell? ⟨b, k, none⟩).isSome = true := fun k hk => by
  rw [hW1]; exact Go.Proofs.isSome_setCells b news (0 + i * 3) w.drew (fun j hj => hsp _ (by rw [hlen] at hj; omega)) k (hsp k hk)
 have hfz1 : ∀ k, W1.frozen? ⟨b, k, none⟩ = false := fun k => by rw [hW1, World.frozen?_setCells]; exact hfz _
 obtain ⟨m, hm⟩ : ∃ m, m = i + (n - (i + 1)) := ⟨_, rfl⟩; have hm1 : m = n - 1 := by omega
 have hcl : ∀ ty, (Builtin.clear_ #[22] ty #[.slice (some ⟨b, (i + (n - (i + 1))) * 3, none⟩) (n - (i + (n - (i + 1)))) (c - (i + (n - (i + 1))))]).run Tryz.prog W1 = .ok (.tuple #[]) (W1.setCells b ((n - 1) * 3) zl3) := fun ty => by
  rw [← hm, hm1, show n - (n - 1) = 1 by omega]
  exact run_clear_z (P := Tryz.prog) W1 22 28 ty zIt zl3 Tryz.underlying22 (fun w => Tryz.zeroValue28 w) (by kernel_rfl) (by intro v hv; simp [zl3] at hv; rcases hv with rfl | rfl | rfl <;> rfl) b ((n - 1) * 3) _ (fun j hj => hsp1 _ (by simp [zl3] at hj; omega)) (fun j hj => hfz1 _)
 have hW : Hid (W1 = w.drew.setCells b (0 + i * 3) news) := hW1; have hic : i ≤ c := by omega
 have hjc : i + 1 ≤ c := by omega
 have hgoal : Aside ((W1.setCells b ((n - 1) * 3) zl3) = (w.drew.setCells b (i * 3) (us.drop ((i + 1) * 3))).setCells b ((n - 1) * 3) zl3) := by
  show _ = _; rw [hW1, hnews, Nat.zero_add]
 have hgo2 : Aside (i + (n - (i + 1)) = n - 1) := by show _ = _; omega
 clear hW1 hsp1 hfz1 hnews hlen hm hm1 hsp hfz hcs h1c hus
 go_enter Tryz.func56, Tryz.ntmps56
 go_wp2_with fail
 go_region_law_o (refine step_append_room rfl (.tmp 22) (.tmp 25) 22 rfl 28 i0 3 Tryz.underlying22 hi0 hz1 b 0 i c (by simp [Act.eval, Act.put]) A (n - (i + 1)) (c - (i + 1)) news (by simp [Act.eval, Act.put, hA, htn]) s1.out hsrc.out s2.out (by omega) s3.out ?_; rw [← hW.out])
 go_wp2
 go_ret
 exact ⟨by rw [hgo2.out]; rfl, hgoal.out⟩
end Go.AM
