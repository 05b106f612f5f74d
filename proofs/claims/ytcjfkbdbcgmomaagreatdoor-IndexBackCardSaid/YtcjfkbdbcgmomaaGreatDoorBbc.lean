/-
  Texts of this claim joined (wip/gen/bundle.py), those declarations only that are needed: IxLc IxLd IxLe FunC Read RdIx. By an AI agent.
-/
import Derived.Test.YtcjfkbdbcgmomaaGreatDoorBbb
import Derived.Test.YtcjfkbdbcgmomaaGreatDoorBaq
import Derived.Test.YtcjfkbdbcgmomaaGreatDoorRows
import Derived.ProofKit
import Derived.OpenShut
import Derived.ShutString
import Derived.ChangeOld
import Derived.JoinedCond
import Derived.Deep.Slices
import Derived.Lib.SmallJoins
import Derived.Lib.LaidTab
set_option linter.unusedSimpArgs false
set_option linter.unusedVariables false
namespace Go.CK
open Go.AM Go.Proofs
set_option maxRecDepth 100000 in
theorem newBad_ok {l : List It} {acc : List Ac} (hl : l.length ≤ 1000000) (hl2 : ∀ i ∈ l, i.atom.args.length ≤ 10000000) (hal : acc.length ≤ 1000000) (hap : ∀ a ∈ acc, a.positions.length ≤ 1000000) (h : (rightSt l && acc.all Ac.right) = false) : Fun Tryz.prog 11 [slA It.av l, slA Ac.av acc] (.tup [.nptr, .int .i64 2]) := by
 have hs := stRight_ok (l := l) (by omega) hl2
 have hcn := containsNew_ok (l := acc) (by omega) fun a ha => by have := hap a ha; omega
 cases h1 : rightSt l with
 | false =>
  rw [h1] at hs; refine Fun.of (opS_index_New (by simp) ?_) rfl rfl
  conv => whnf
  conv => whnf
  repeat' ((first | (refine gF ?_; refine CallN.fn (hs) ?_) | (refine gC ?_; first | refine cY ?_ | refine cN ?_ | refine .not ?_) | refine RetP.nrm ?_) <;> conv => whnf)
 | true =>
  rw [h1] at hs; rw [h1, Bool.true_and] at h
  have h2 : (acc.any fun x => !x.right) = true := by
   rw [List.any_eq_true]; obtain ⟨x, hx, hr⟩ := List.all_eq_false.1 h; exact ⟨x, hx, by simpa using hr⟩
  rw [h2] at hcn; refine Fun.of (opS_index_New (by simp) ?_) rfl rfl
  conv => whnf
  conv => whnf
  repeat' ((first | (refine gF ?_; first | refine CallN.fn (hs) ?_ | refine CallN.fn (hcn) ?_) | (refine gC ?_; first | refine cY ?_ | refine .not ?_) | refine RetP.nrm ?_) <;> conv => whnf)
theorem Fun3_ok (s : ByteArray) (l : List Tm) (hl : l.length ≤ 1000) : Fun Tryz.prog 39 [.str s, .sl .no (l.map Tm.av)] (Tm.mk 2 0 s l).avw := by
 refine Fun.of (op_constraintref03_Fun (by simp) ?_) rfl rfl
 conv => whnf
 conv => whnf
 repeat' ((first | (refine gN ?_; refine nS ?_) | refine RetP.nrm ?_) <;> conv => whnf)
 all_goals first | rfl | (simp [lim,glim]; omega)
def funT (s : ByteArray) : Tm := .mk 2 0 s []
def eI (id : Int) (a b : ByteArray) : It := ⟨id, ⟨⟨⟨[101]⟩⟩, [funT a, funT b]⟩⟩
theorem e20_ok (id : Int) (a b : ByteArray) : Fun Tryz.prog 35 [.int .i64 id, .str a, .str b] (eI id a b).av := by
 have h1 := Fun3_ok a [] (by simp)
 have h2 := Fun3_ok b [] (by simp)
 refine Fun.of (op_constraintlaw20_e (by simp) ?_) rfl rfl
 conv => whnf
 conv => whnf
 repeat' ((first | (refine gF ?_; first | refine CallN.fn (h1) ?_ | refine CallN.fn (h2) ?_) | refine RetP.nrm ?_) <;> conv => whnf)
 rfl
theorem same19_ok (l : List It) (hl : l.length ≤ 1000000) : Fun Tryz.prog 15 [slA It.av l, slA It.av l] (.bool true) := by
 refine Fun.of (op_constraintref19_Same (by simp) ?_) rfl rfl
 conv => whnf
 conv => whnf
 repeat' ((first | (refine gC ?_; first | refine .not ?_ | (refine gD ?_; refine cI ?_)) | (refine gL ?_; refine .map ?_)) <;> conv => whnf)
 refine LoopP.by (fb := true) (fun _ (j : Nat) => ⟨[(0, slA It.av l), (1, slA It.av l), (5, .int .i64 (j : Int))], [], 0⟩) (fun j => j ≤ l.length) (fun j => l.length - j) 0 (Nat.zero_le _) ?_ ?_
 ·exact endz
 ·intro j hj0
  by_cases hj : j < l.length
  ·obtain ⟨x, hx⟩ : ∃ x, l[j]? = some x := ⟨_, List.getElem?_eq_getElem hj⟩; have hs := refSameAtom_ok (a := x.atom) (b := x.atom); rw [At.cmp_refl] at hs
   conv => whnf
   repeat' ((first | (refine gG ?_; refine CallP.fn (hs) ?_) | (refine gC ?_; first | refine .not ?_ | (refine gD ?_; refine cI ?_)) | (refine gW ?_; refine wI ?_) | (refine gL ?_; refine .map ?_) | (refine gI ?_; (refine gM ?_; refine iE ?_))) <;> conv => whnf)
   refine ⟨j + 1, ⟨hj, by omega⟩, ?_⟩
   exact endz
  ·obtain rfl : j = l.length := by omega
   conv => whnf
   repeat' ((first | (refine gC ?_; (refine gD ?_; refine cJ ?_)) | (refine gL ?_; refine .map ?_) | refine RetP.nrm ?_) <;> conv => whnf)
end Go.CK
namespace Go.CK
open Go.AM Go.Proofs
def exAcc : List Ac := [⟨⟨⟨[101]⟩⟩, 2, [0]⟩, ⟨⟨⟨[101]⟩⟩, 2, []⟩]
def exL : List It := [eI 1 ⟨⟨[97]⟩⟩ ⟨⟨[98]⟩⟩, eI 2 ⟨⟨[97]⟩⟩ ⟨⟨[99]⟩⟩, eI 4 ⟨⟨[98]⟩⟩ ⟨⟨[98]⟩⟩]
theorem exOk : (rightSt exL && exAcc.all Ac.right) = true := by kernel_rfl
theorem exBad : (rightSt [] && [(⟨⟨⟨[101]⟩⟩, 2, [2]⟩ : Ac)].all Ac.right) = false := by kernel_rfl
theorem exFew : (exL.all fewI && exAcc.all fewA) = true := by kernel_rfl
theorem exF1 : findR exAcc exL 0 [funT ⟨⟨[97]⟩⟩] = [1, 2] := by kernel_rfl
theorem exF2 : findR exAcc exL 1 [] = [1, 2, 4] := by kernel_rfl
theorem exI1 : insR exL (eI 3 ⟨⟨[97]⟩⟩ ⟨⟨[97]⟩⟩) = 0 := by kernel_rfl
theorem exI2 : insR (insIt exL (eI 3 ⟨⟨[97]⟩⟩ ⟨⟨[97]⟩⟩)) (eI 3 ⟨⟨[98]⟩⟩ ⟨⟨[97]⟩⟩) = 8 := by kernel_rfl
theorem exF3 : findR exAcc (insIt exL (eI 3 ⟨⟨[97]⟩⟩ ⟨⟨[97]⟩⟩)) 0 [funT ⟨⟨[97]⟩⟩] = [1, 2, 3] := by kernel_rfl
theorem exD1 : hasI (insIt exL (eI 3 ⟨⟨[97]⟩⟩ ⟨⟨[97]⟩⟩)) 1 = true := by kernel_rfl
theorem exD2 : hasI (delI (insIt exL (eI 3 ⟨⟨[97]⟩⟩ ⟨⟨[97]⟩⟩)) 1) 1 = false := by kernel_rfl
theorem exD3 : (delI (delI (insIt exL (eI 3 ⟨⟨[97]⟩⟩ ⟨⟨[97]⟩⟩)) 1) 1).length = 3 := by kernel_rfl
theorem exIo : ∀ i ∈ exL, Tm.ios i.atom.args := by
 intro i hi; simp [exL] at hi; rcases hi with rfl | rfl | rfl <;> simp [eI, funT, Tm.ios, Tm.io, IntOk]
theorem eI_few (id : Int) : fewI (eI id ⟨⟨[97]⟩⟩ ⟨⟨[97]⟩⟩) = true ∧ fewI (eI id ⟨⟨[98]⟩⟩ ⟨⟨[97]⟩⟩) = true ∧ fewI (eI id ⟨⟨[97]⟩⟩ ⟨⟨[98]⟩⟩) = true := by
 have h1 : fewI (eI 0 ⟨⟨[97]⟩⟩ ⟨⟨[97]⟩⟩) = true := by kernel_rfl
 have h2 : fewI (eI 0 ⟨⟨[98]⟩⟩ ⟨⟨[97]⟩⟩) = true := by kernel_rfl
 have h3 : fewI (eI 0 ⟨⟨[97]⟩⟩ ⟨⟨[98]⟩⟩) = true := by kernel_rfl
 exact ⟨h1, h2, h3⟩
theorem eI_io (id : Int) (a b : ByteArray) : Tm.ios (eI id a b).atom.args := by simp [eI, funT, Tm.ios, Tm.io, IntOk]
set_option maxRecDepth 100000 in
set_option maxHeartbeats 2000000 in
theorem example20_ok : Fun Tryz.prog 10 [] (.bool true) := by
 have hal := exOk; rw [Bool.and_eq_true] at hal; have hfw := exFew; rw [Bool.and_eq_true] at hfw; have hr : ∀ a ∈ exAcc, a.right = true := fun a ha => List.all_eq_true.1 hal.2 a ha; have hfa : ∀ a ∈ exAcc, fewA a = true := fun a ha => List.all_eq_true.1 hfw.2 a ha; have hA0 : AllOk exAcc exL := allOk_few hr hfa (fun i hi => ⟨List.all_eq_true.1 hfw.1 i hi, exIo i hi⟩) (rightSt_asc hal.1) (by decide) (by decide)
 have e1 := e20_ok 1 ⟨⟨[97]⟩⟩ ⟨⟨[98]⟩⟩; have e2 := e20_ok 2 ⟨⟨[97]⟩⟩ ⟨⟨[99]⟩⟩; have e4 := e20_ok 4 ⟨⟨[98]⟩⟩ ⟨⟨[98]⟩⟩; have ha := Fun3_ok ⟨⟨[97]⟩⟩ [] (by simp)
 refine Fun.of (opS_constraintlaw20_exampleHolds (by simp) ?_) rfl rfl
 conv => whnf
 try dsimp only
 repeat' ((refine gF ?_; first | refine CallN.fn (e1) ?_ | refine CallN.fn (e2) ?_ | refine CallN.fn (e4) ?_) <;> (conv => whnf; try dsimp only))
 refine CallN.of (newIx_ok (V := fun _ => False) (bs := []) (its := exL) (l := exAcc) (fun _ h => h.elim) hA0 hr hal.1 (by intro i hi; simp [exL] at hi; rcases hi with rfl | rfl | rfl <;> simp [eI])) ?_
 rintro r b1 ⟨rfl, hI1, _⟩
 have hs : ∀ a : List Int, Fun Tryz.prog 17 [slA intA a, slA intA a] (.bool true) := fun a => by
  have := sameInts_ok (a := a) (b := a); simpa using this
 have hs1 := hs [1, 2]; have hs2 := hs [1, 2, 4]; have hs3 := hs [1, 2, 3]; have hbad := newBad_ok (l := []) (acc := [⟨⟨⟨[101]⟩⟩, 2, [2]⟩]) (by decide) (by simp) (by decide) (by simp) exBad
 have hio : Tm.ios [funT ⟨⟨[97]⟩⟩] := by simp [funT, Tm.ios, Tm.io, IntOk]
 have hkl : (txtL [funT ⟨⟨[97]⟩⟩]).length ≤ 100000000 := by
  have h : Nat.ble (txtL [funT ⟨⟨[97]⟩⟩]).length 100 = true := by kernel_rfl
  have := Nat.le_of_ble_eq_true h; omega
 conv => whnf
 try dsimp only
 repeat' ((first | (refine gF ?_; refine CallN.fn (ha) ?_) | (refine gC ?_; first | refine cN ?_ | refine .not ?_ | (refine gD ?_; refine cI ?_))) <;> (conv => whnf; try dsimp only))
 refine CallN.of (ixFindM_ok (k := 0) (key := [funT ⟨⟨[97]⟩⟩]) hI1 hA0 hio hkl (by simp)) ?_
 rintro r b2 ⟨rfl, rfl⟩; rw [exF1]
 conv => whnf
 try dsimp only
 repeat' ((first | (refine gF ?_; refine CallN.fn (hs1) ?_) | (refine gC ?_; first | refine cY ?_ | refine .not ?_ | (refine gD ?_; refine cI ?_))) <;> (conv => whnf; try dsimp only))
 refine CallN.of (ixFindM_ok (k := 1) (key := []) hI1 hA0 trivial (by simp [txtL]) (by simp)) ?_
 rintro r b3 ⟨rfl, rfl⟩; rw [exF2]; have e3 := e20_ok 3 ⟨⟨[97]⟩⟩ ⟨⟨[97]⟩⟩; have e3b := e20_ok 3 ⟨⟨[98]⟩⟩ ⟨⟨[97]⟩⟩; obtain ⟨f3, f3b, _⟩ := eI_few 3; have hE3 := entOk_few hr hfa f3 (eI_io 3 ⟨⟨[97]⟩⟩ ⟨⟨[97]⟩⟩); have hE3b := entOk_few hr hfa f3b (eI_io 3 ⟨⟨[98]⟩⟩ ⟨⟨[97]⟩⟩); have hA1 : AllOk exAcc (insIt exL (eI 3 ⟨⟨[97]⟩⟩ ⟨⟨[97]⟩⟩)) := hA0.ins hE3 (by kernel_rfl) (by decide)
 conv => whnf
 try dsimp only
 repeat' ((first | (refine gF ?_; first | refine CallN.fn (hs2) ?_ | refine CallN.fn (hbad) ?_ | refine CallN.fn (e3) ?_) | (refine gC ?_; first | refine cY ?_ | refine .not ?_)) <;> (conv => whnf; try dsimp only))
 refine CallN.of (ixInsert_ok (V := fun _ => False) hI1 (fun _ h => h.elim) hA0 hE3 (by simp [eI])) ?_
 rintro r b4 ⟨rfl, hI4, _, _⟩; rw [exI1] at hI4 ⊢; rw [if_pos rfl] at hI4
 conv => whnf
 try dsimp only
 repeat' ((first | (refine gF ?_; refine CallN.fn (e3b) ?_) | (refine gC ?_; (refine gD ?_; refine cI ?_))) <;> (conv => whnf; try dsimp only))
 refine CallN.of (ixInsert_ok (V := fun _ => False) hI4 (fun _ h => h.elim) hA1 hE3b (by simp [eI])) ?_
 rintro r b5 ⟨rfl, hI5, _, _⟩; rw [exI2] at hI5 ⊢; rw [if_neg (by decide)] at hI5
 conv => whnf
 try dsimp only
 repeat' ((first | (refine gF ?_; refine CallN.fn (ha) ?_) | (refine gC ?_; (refine gD ?_; refine cI ?_))) <;> (conv => whnf; try dsimp only))
 refine CallN.of (ixFindM_ok (k := 0) (key := [funT ⟨⟨[97]⟩⟩]) hI5 hA1 hio hkl (by simp)) ?_
 rintro r b6 ⟨rfl, rfl⟩; rw [exF3]
 conv => whnf
 try dsimp only
 repeat' ((first | (refine gF ?_; refine CallN.fn (hs3) ?_) | (refine gC ?_; first | refine cY ?_ | (refine gD ?_; refine cI ?_))) <;> (conv => whnf; try dsimp only))
 refine CallN.of (ixDelete_ok (V := fun _ => False) (id := 1) hI5 (fun _ h => h.elim) hA1) ?_; rintro r b7 ⟨rfl, hI7, _, _⟩; rw [exD1]
 conv => whnf
 try dsimp only
 repeat' ((refine gC ?_; refine cY ?_) <;> (conv => whnf; try dsimp only))
 refine CallN.of (ixDelete_ok (V := fun _ => False) (id := 1) hI7 (fun _ h => h.elim) (hA1.del 1)) ?_; rintro r b8 ⟨rfl, hI8, _, _⟩; rw [exD2]
 conv => whnf
 try dsimp only
 repeat' ((refine gC ?_; first | refine cY ?_ | refine cN ?_ | refine .not ?_) <;> (conv => whnf; try dsimp only))
 refine CallN.of (ixItems_ok hI8 ((hA1.del 1).del 1)) ?_; rintro r b9 ⟨rfl, _⟩; have hl3 := exD3
 conv => whnf
 try dsimp only
 repeat' ((first | (refine gC ?_; first | refine cN ?_ | refine .not ?_ | (refine gD ?_; refine cI ?_)) | (refine gL ?_; refine .map ?_)) <;> (conv => whnf; try dsimp only))
 exact ⟨_, Weak.refl _, .inl rfl⟩
end Go.CK
namespace Go.CK
open Go.AM Go.Proofs
theorem insR_zero {l : List It} {i : It} (h : insR l i = 0) : hasI l i.id = false ∧ l.length < 500 := by
 unfold insR at h; split at h
 ·cases h
 ·split at h
  ·cases h
  ·split at h
   ·cases h
   ·split at h
    ·cases h
    ·rename_i h1 h2 h3 h4; exact ⟨by simpa using h3, by omega⟩
theorem fewP_parts {l : List It} {acc : List Ac} {ops : List Op20} (h : fewP l acc ops = true) : l.length ≤ 15 ∧ acc.length ≤ 6 ∧ ops.length ≤ 30 ∧ (∀ i ∈ l, fewI i = true) ∧ (∀ a ∈ acc, fewA a = true) ∧ ∀ o ∈ ops, fewO o = true := by
 simp only [fewP, Bool.and_eq_true, decide_eq_true_eq, List.all_eq_true] at h; exact ⟨h.1, h.2.1, h.2.2.1, h.2.2.2.1, h.2.2.2.2.1, h.2.2.2.2.2⟩
theorem fewO_parts {o : Op20} (h : fewO o = true) (hio : Tm.ios o.key) : fewI o.item = true ∧ (txtL o.key).length ≤ 100000000 ∧ o.key.length ≤ 30 := by
 simp only [fewO, Bool.and_eq_true, decide_eq_true_eq, Bool.not_eq_true', decide_eq_false_iff_not] at h; have h1 := Int.not_lt.1 h.2.2.1; have h2 := txt_weigh hio (by omega) h1
 refine ⟨h.2.1, by omega, ?_⟩
 unfold weighI at h1; split at h1
 ·omega
 ·rename_i hc; omega
set_option maxRecDepth 100000 in
set_option maxHeartbeats 4000000 in
theorem indexBack_law {l : List It} {acc : List Ac} {o : Op20} (hl : ∀ i ∈ l, Tm.ios i.atom.args) (hoi : Tm.ios o.item.atom.args) (hok : Tm.ios o.key) : Fun Tryz.prog 3 [slA It.av l, slA Ac.av acc, o.av] (.bool true) := by
 have hfw := few_ok l acc [o]; have hex := example20_ok
 cases hb : fewP l acc [o] with
 | false =>
  rw [hb] at hfw; refine Fun.of (opS_constraintlaw20_IndexBack (by simp) ?_) rfl rfl
  conv => whnf
  try dsimp only
  repeat' ((first | (refine gF ?_; first | refine CallN.fn (hfw) ?_ | refine CallN.fn (hex) ?_) | (refine gC ?_; first | refine cN ?_ | refine .not ?_) | (refine gB ?_; refine .last ?_)) <;> (conv => whnf; try dsimp only))
  exact ⟨_, Weak.refl _, .inl rfl⟩
 | true =>
  rw [hb] at hfw; obtain ⟨p1, p2, _, p4, p5, p6⟩ := fewP_parts hb; obtain ⟨o1, o2, o3⟩ := fewO_parts (p6 o (by simp)) hok
  have hargs : ∀ i ∈ l, i.atom.args.length ≤ 10000000 := fun i hi => by have := fewI_args (p4 i hi); omega
  have hpos : ∀ a ∈ acc, a.positions.length ≤ 1000000 := fun a ha => by
   have := p5 a ha; simp only [fewA, Bool.and_eq_true, decide_eq_true_eq] at this; omega
  cases hR : rightSt l && acc.all Ac.right with
  | false =>
   have hbad := newBad_ok (by omega) hargs (by omega) hpos hR
   refine Fun.of (opS_constraintlaw20_IndexBack (by simp) ?_) rfl rfl
   conv => whnf
   try dsimp only
   repeat' ((first | (refine gF ?_; first | refine CallN.fn (hfw) ?_ | refine CallN.fn (hex) ?_ | refine CallN.fn (hbad) ?_) | (refine gC ?_; first | refine cY ?_ | refine .not ?_ | (refine gD ?_; refine cJ ?_)) | (refine gB ?_; refine .last ?_)) <;> (conv => whnf; try dsimp only))
   exact ⟨_, Weak.refl _, .inl rfl⟩
  | true =>
   rw [Bool.and_eq_true] at hR; have hr : ∀ a ∈ acc, a.right = true := fun a ha => List.all_eq_true.1 hR.2 a ha; have hA0 : AllOk acc l := allOk_few hr p5 (fun i hi => ⟨p4 i hi, hl i hi⟩) (rightSt_asc hR.1) (by omega) (by omega)
   have hE := entOk_few hr p5 o1 hoi; have hsm := same19_ok l (by omega)
   have hs := sameInts_ok (a := findR acc l o.n o.key) (b := findR acc l o.n o.key); rw [decide_eq_true rfl] at hs; refine Fun.of (opS_constraintlaw20_IndexBack (by simp) ?_) rfl rfl
   obtain ⟨OC, hOC⟩ : ∃ OC, OC = [AV.int IntKind.i64 o.kind, AV.int IntKind.i64 o.n, AV.int IntKind.i64 o.item.id, AV.str o.item.atom.name, AV.sl Cap.no (List.map Tm.av o.item.atom.args), AV.sl Cap.no (List.map Tm.av o.key), AV.sl Cap.no (List.map Bnd.av o.binds)] := ⟨_, rfl⟩; have hbx : ∀ {b : List Box}, b[0]? = some (.cells OC) -> boxCells b 0 = some [AV.int IntKind.i64 o.kind, AV.int IntKind.i64 o.n, AV.int IntKind.i64 o.item.id, AV.str o.item.atom.name, AV.sl Cap.no (List.map Tm.av o.item.atom.args), AV.sl Cap.no (List.map Tm.av o.key), AV.sl Cap.no (List.map Bnd.av o.binds)] := fun h => by rw [hOC] at h; simp [boxCells, h, Box.cs?]
   conv => whnf
   try dsimp only
   repeat' ((first | (refine gF ?_; refine CallN.fn (hfw) ?_) | (refine gC ?_; first | refine cY ?_ | refine .not ?_) | (refine gB ?_; refine .last ?_)) <;> (conv => whnf; try dsimp only))
   refine CallN.of (newIx_ok (V := fun b => b < 1) (its := l) (l := acc) (fun b h => by simp; omega) hA0 hr hR.1 hargs) ?_
   rintro r b1 ⟨rfl, hI1, hP1⟩; have c1 : b1[0]? = some (.cells OC) := by rw [hP1.2 0 (by simp), hOC]; rfl
   have d1 := hbx c1
   conv => whnf
   try dsimp only
   repeat' ((refine gC ?_; first | refine cN ?_ | refine .not ?_ | (refine gD ?_; refine cI ?_)) <;> (conv => whnf; try dsimp only))
   refine CallN.of (ixItems_ok hI1 hA0) ?_; rintro r b2 ⟨rfl, hP2⟩; have l1 : 0 < b1.length := (List.getElem?_eq_some_iff.1 c1).1; have hI2 := hI1.pre hP2; have c2 : b2[0]? = some (.cells OC) := by rw [hP2.2 0 l1]; exact c1
   have d2 := hbx c2
   conv => whnf
   try dsimp only
   repeat' ((refine gB ?_; refine .of (by assumption) ?_) <;> (conv => whnf; try dsimp only))
   refine CallN.of (ixFindM_ok (k := o.n) (key := o.key) hI2 hA0 hok o2 (by omega)) ?_
   rintro r b3 ⟨rfl, rfl⟩
   conv => whnf
   try dsimp only
   repeat' ((refine gB ?_; refine .of (by assumption) ?_) <;> (conv => whnf; try dsimp only))
   have l2 : 0 < b3.length := (List.getElem?_eq_some_iff.1 c2).1; refine CallN.of (ixInsert_ok (V := fun b => b < 1) (i := o.item) hI2 (fun b h => by omega) hA0 hE (by have := fewI_args o1; omega)) ?_
   rintro r b4 ⟨rfl, hI4, hl4, hP4⟩; have c4 : b4[0]? = some (.cells OC) := by rw [hP4 0 l2 (by omega) (by simp)]; exact c2
   have d4 := hbx c4
   by_cases hg : insR l o.item = 0
   ·obtain ⟨hh, _⟩ := insR_zero hg; rw [if_pos hg] at hI4; rw [hg]; have hA4 : AllOk acc (insIt l o.item) := hA0.ins hE hh (by omega)
    have hlen := insIt_len l o.item
    conv => whnf
    try dsimp only
    repeat' ((refine gC ?_; first | refine .not ?_ | (refine gD ?_; refine cI ?_)) <;> (conv => whnf; try dsimp only))
    refine CallN.of (ixItems_ok hI4 hA4) ?_; rintro r b5 ⟨rfl, hP5⟩; have hI5 := hI4.pre hP5; have l4 : 0 < b4.length := (List.getElem?_eq_some_iff.1 c4).1; have c5 : b5[0]? = some (.cells OC) := by rw [hP5.2 0 l4]; exact c4
    have d5 := hbx c5; have l5 : 0 < b5.length := (List.getElem?_eq_some_iff.1 c5).1
    conv => whnf
    try dsimp only
    repeat' ((first | (refine gL ?_; refine .map ?_) | (refine gB ?_; refine .of (by assumption) ?_)) <;> (conv => whnf; try dsimp only))
    refine CallN.of (ixDelete_ok (V := fun b => b < 1) (id := o.item.id) hI5 (fun b h => by omega) hA4) ?_
    rintro r b6 ⟨rfl, hI6, hl6, hP6⟩; have c6 : b6[0]? = some (.cells OC) := by rw [hP6 0 l5 (by omega) (by simp)]; exact c5
    have d6 := hbx c6; rw [has_ins]; rw [del_ins (rightSt_asc hR.1) hh] at hI6
    conv => whnf
    try dsimp only
    repeat' ((first | (refine gC ?_; first | refine cY ?_ | (refine gD ?_; refine cI ?_)) | (refine gW ?_; refine wI ?_) | (refine gL ?_; refine .map ?_)) <;> (conv => whnf; try dsimp only))
    refine CallN.of (ixItems_ok hI6 hA0) ?_; rintro r b7 ⟨rfl, hP7⟩; have hI7 := hI6.pre hP7; have l6 : 0 < b6.length := (List.getElem?_eq_some_iff.1 c6).1; have c7 : b7[0]? = some (.cells OC) := by rw [hP7.2 0 l6]; exact c6
    have d7 := hbx c7
    conv => whnf
    try dsimp only
    repeat' ((first | (refine gF ?_; refine CallN.fn (hsm) ?_) | (refine gC ?_; refine cY ?_) | (refine gB ?_; refine .of (by assumption) ?_)) <;> (conv => whnf; try dsimp only))
    refine CallN.of (ixFindM_ok (k := o.n) (key := o.key) hI7 hA0 hok o2 (by omega)) ?_
    rintro r b8 ⟨rfl, rfl⟩
    conv => whnf
    try dsimp only
    repeat' ((first | (refine gF ?_; first | refine CallN.fn (hs) ?_ | refine CallN.fn (hex) ?_) | (refine gC ?_; refine cY ?_)) <;> (conv => whnf; try dsimp only))
    exact ⟨_, Weak.refl _, .inl rfl⟩
   ·rw [if_neg hg] at hI4
    conv => whnf
    try dsimp only
    repeat' ((refine gC ?_; first | refine .not ?_ | (refine gD ?_; refine cJ ?_)) <;> (conv => whnf; try dsimp only))
    refine CallN.of (ixItems_ok hI4 hA0) ?_; rintro r b5 ⟨rfl, hP5⟩
    conv => whnf
    try dsimp only
    repeat' ((first | (refine gF ?_; first | refine CallN.fn (hsm) ?_ | refine CallN.fn (hex) ?_) | (refine gC ?_; refine cY ?_)) <;> (conv => whnf; try dsimp only))
    exact ⟨_, Weak.refl _, .inl rfl⟩
end Go.CK
namespace Go.CK
open Go.RowKit Go.AM
def AllFV (M : Hp) : List AV -> List Value -> Prop
 | [], [] => True
 | x :: xs, v :: vs => FV M x v ∧ AllFV M xs vs
 | _, _ => False
theorem AllFV.len {M : Hp} : ∀ {xs : List AV} {vs : List Value}, AllFV M xs vs -> vs.length = xs.length
 | [], [], _ => rfl
 | _ :: xs, _ :: vs, h => by simp [AllFV.len h.2]
 | [], _ :: _, h => h.elim
 | _ :: _, [], h => h.elim
theorem AllFV.get {M : Hp} : ∀ {xs : List AV} {vs : List Value}, AllFV M xs vs -> ∀ j (h : j < xs.length) v, vs[j]? = some v -> FV M xs[j] v
 | [], [], _, j, h, _, _ => by cases h
 | _ :: xs, _ :: vs, h, 0, _, v, hv => by
  simp only [List.getElem?_cons_zero, Option.some.injEq] at hv
  subst hv; exact h.1
 | _ :: xs, _ :: vs, h, j + 1, hj, v, hv => AllFV.get h.2 j (by simpa using hj) v (by simpa using hv)
 | [], _ :: _, h, _, _, _, _ => h.elim
 | _ :: _, [], h, _, _, _, _ => h.elim
theorem Fun.calls {P : Program} {f : FuncId} {vals : List AV} {b : Bool} (h : Fun P f vals (.bool b)) {w : World} (ht : ∃ T fz, w.heap[KB]? = some (.cells KV.toArray T fz)) {args : List Value} (ha : AllFV (Hp.of w) vals args) :
  Calls P f args.toArray w fun e w' => e = .returned (.bool b) ∧ Ext w w' := by
 refine (((h []).mono (Q' := fun r _ => r = .bool b) fun r bs hq => hq.1).calls (Hp.le_refl _) (Kn.of ht) ha.len ha.get).mono ?_; rintro e w' ⟨v, r, bs', M', σ, n, rfl, rfl, hv, hx, _⟩; exact ⟨by rw [hv.inv_bool], hx⟩
end Go.CK
namespace Go.CK
open Go.RowKit Go.Proofs Go.ChangeShapes Go.WideShapes Go.ChangeAt
open Go.Proofs.YtcjfkbdbcgmomaaGreatDoor.Rows (uptoBulk uptoBulkAll uptoSmall)
theorem bulk_one {H : Type} (d : DataW H) : 1 ≤ uptoBulk d := by
 cases d with
 | lit l => cases l <;> simp [uptoBulk]
 | nil => simp [uptoBulk]
 | ptr d => simp [uptoBulk]
 | slice elems spare => simp [uptoBulk]
 | agg parts => simp [uptoBulk]
 | iface t d => simp [uptoBulk]
 | map entries => simp [uptoBulk]
 | held h => simp [uptoBulk]
theorem bulk_part {H : Type} {d : DataW H} {l : List (DataW H)} (h : d ∈ l) : uptoBulk d ≤ uptoBulkAll l := by
 induction l with
 | nil => cases h
 | cons x r ih =>
  simp only [uptoBulkAll]
  cases List.mem_cons.1 h with
  | inl e => subst e; omega
  | inr e => have := ih e; omega
theorem bulk_len {H : Type} (l : List (DataW H)) : l.length ≤ uptoBulkAll l := by
 induction l with
 | nil => simp [uptoBulkAll]
 | cons x r ih => have := bulk_one x; simp only [uptoBulkAll, List.length_cons]; omega
theorem bulk_bound {H : Type} {l : List (DataW H)} (hk : uptoSmall H l = true) : uptoBulkAll l ≤ 1048576 := of_decide_eq_true hk
section
variable {H : Type} {enc : TypeId × Value -> H} {P : Program} {W : World} {spare : Nat -> Bool} {held : Bool}
theorem sl_of {α : Type} {T e : TypeId} {sz N : Nat} (hu : P.underlying T = some (.slice e)) (hsz : P.cellsOf e = sz) (hp : 0 < sz) (R : List Value -> α -> Prop) (hN : 0 ≤ N)
  (ih : ∀ (cs : List Value) (d : DataW H) (ps : List MemPlace) (fuel : Nat), DataW.trod enc P W 0 spare held fuel e cs = some (d, ps) -> uptoBulk d < N -> ∃ x, R cs x)
  {fuel : Nat} {cs : List Value} {d : DataW H} {ps : List MemPlace} (h : DataW.trod enc P W 0 spare held fuel T cs = some (d, ps)) (hb : uptoBulk d ≤ N) :
  ∃ (a : Option Addr) (l : List α) (cap : Nat), cs = [.slice a l.length cap] ∧ l.length ≤ cap ∧ Sl (Hp.of W) sz R a l ∧ l.length ≤ N := by
 subst hsz; rcases Deep.open_slice hu h with ⟨rfl, _⟩ | ⟨a, len, cap, m, n, D, Pl, rfl, _, hlc, hcm, hm, hx, hel⟩
 ·exact ⟨none, [], 0, rfl, by simp, Sl.nil, by simp⟩
 ·simp only [Prod.mk.injEq] at hx; obtain ⟨rfl, _⟩ := hx; have hlm : len ≤ m := by rw [hm]; split <;> omega
  simp only [uptoBulk] at hb; have hlen := bulk_len ((List.range len).map D); rw [List.length_map, List.length_range] at hlen
  have hD : ∀ i, i < len -> ∃ x cs', W.cells? 0 (a.add (i * P.cellsOf e)) (P.cellsOf e) = some cs' ∧ R cs' x := fun i hi => by
   obtain ⟨cs', h1, h2⟩ := hel i (by omega)
   have hbi : uptoBulk (D i) ≤ uptoBulkAll ((List.range len).map D) := bulk_part (List.mem_map.2 ⟨i, by simpa using hi, rfl⟩)
   obtain ⟨x, hx⟩ := ih cs' (D i) (Pl i) n h2 (by omega)
   exact ⟨x, cs', h1, hx⟩
  refine ⟨some a, List.ofFn (fun i : Fin len => (hD i.1 i.2).choose), cap, by simp, by simpa using hlc, ⟨by simp only [List.length_ofFn];unfold maxLen at hcm;unfold lim;omega, fun i hi => ?_⟩, by simp; omega⟩
  rw [List.length_ofFn] at hi
  have hspot : a.spot = none := by
   obtain ⟨cs', h1, _⟩ := hel 0 (by omega)
   obtain ⟨_, h2, h3⟩ := World.cells?_some h1; have h4 := h3 0 hp; rw [List.getElem?_eq_getElem (by omega)] at h4
   simp only [Nat.zero_mul] at h4; have h5 : (a.add 0).add 0 = a := by simp [Addr.add]
   rw [h5] at h4
   cases hs : a.spot with
   | none => rfl
   | some k =>
    simp only [World.cell?, hs] at h4; split at h4 <;> simp at h4
  obtain ⟨cs', h1, h2⟩ := (hD i hi).choose_spec; obtain ⟨_, h3, h4⟩ := World.cells?_some h1; have ha : a = ⟨a.block, a.off, none⟩ := by cases a; simp only at hspot; subst hspot; rfl
  refine ⟨a.block, a.off, cs', by rw [← ha], h3, fun j x hj => ?_, by simpa using h2⟩
  have hj2 : j < P.cellsOf e := by rw [← h3]; exact (List.getElem?_eq_some_iff.1 hj).1
  have h5 := h4 j hj2; rw [Deep.add_add] at h5
  have h6 : a.add (i * P.cellsOf e + j) = ⟨a.block, a.off + i * P.cellsOf e + j, none⟩ := by
   unfold Addr.add; split
   ·rename_i h0; rw [ha]; simp; omega
   ·simp
  rw [h6, hj] at h5; exact h5
end
theorem cellsInt : Tryz.prog.cellsOf 3 = 1 := by kernel_rfl
theorem cellsStr : Tryz.prog.cellsOf 9 = 1 := by kernel_rfl
theorem cellsTms : Tryz.prog.cellsOf 24 = 1 := by kernel_rfl
theorem cellsTm : Tryz.prog.cellsOf 81 = 4 := by kernel_rfl
section
variable {H : Type} {enc : TypeId × Value -> H} {W : World} {spare : Nat -> Bool} {held : Bool}
theorem int_of {fuel : Nat} {cs : List Value} {d : DataW H} {ps : List MemPlace} (h : DataW.trod enc Tryz.prog W 0 spare held fuel 3 cs = some (d, ps)) : ∃ n, cs = [.int .i64 n] ∧ IntOk n := by
 obtain ⟨n, h1, _, h3⟩ := DataW.trod_int Tryz.underlying3 h; exact ⟨n, h1, IntOk.of_wf h3⟩
theorem str_of {N fuel : Nat} {cs : List Value} {d : DataW H} {ps : List MemPlace} (h : DataW.trod enc Tryz.prog W 0 spare held fuel 9 cs = some (d, ps)) (hb : uptoBulk d ≤ N) : ∃ s : ByteArray, cs = [.string s] ∧ s.size ≤ lim := by
 obtain⟨s,h1,_,h3⟩:=DataW.trod_string Tryz.underlying9 h;exact ⟨s,h1,by unfold maxLen at h3;unfold lim;omega⟩
set_option maxRecDepth 100000 in
theorem tm_of : ∀ (N : Nat), 0 ≤ N -> ∀ (cs : List Value) (d : DataW H) (ps : List MemPlace) (fuel : Nat), DataW.trod enc Tryz.prog W 0 spare held fuel 81 cs = some (d, ps) -> uptoBulk d ≤ N -> ∃ t, RTm (Hp.of W) cs t := by
 intro N
 induction N using Nat.strongRecOn with
 | _ N ih =>
 intro hN cs d ps fuel h hb; obtain ⟨y0, y1, y2, y3, n, hx, hl, h0, h1, h2, h3⟩ := Joins.trod_struct4 Tryz.underlying81 h; simp only [Prod.mk.injEq] at hx; obtain ⟨rfl, _⟩ := hx; rw [cellsTm] at hl
 match cs, hl with
 | [c0, c1, c2, c3], _ =>
  simp only [cellsInt, cellsStr, cellsTms, List.drop_zero, List.drop_succ_cons, List.take_succ_cons, List.take_zero] at h0 h1 h2 h3; simp only [uptoBulk, uptoBulkAll] at hb; have := bulk_one y3.1; obtain ⟨k, e0, ik⟩ := int_of h0; obtain ⟨m, e1, im⟩ := int_of h1; obtain ⟨s, e2, is⟩ := str_of (N := N) h2 (by omega)
  obtain ⟨a, l, cap, e3, hlc, hsl, _⟩ := sl_of (N := N - 1) Tryz.underlying24 cellsTm (by omega) (RTm (Hp.of W)) (by omega) (fun cs d ps fuel h hb => ih (N - 1) (by omega) (by omega) cs d ps fuel h (by omega)) h3 (by omega)
  simp only [List.cons.injEq, and_true] at e0 e1 e2 e3; subst e0; subst e1; subst e2; subst e3; exact ⟨.mk k m s l, RTm.intro ik im is hlc hsl⟩
end
end Go.CK
namespace Go.CK
open Go.RowKit Go.Proofs Go.ChangeShapes Go.WideShapes Go.ChangeAt Go.AM
open Go.Proofs.YtcjfkbdbcgmomaaGreatDoor.Rows (uptoBulk uptoBulkAll uptoSmall)
section
variable {H : Type} {enc : TypeId × Value -> H} {W : World} {spare : Nat -> Bool} {held : Bool}
set_option maxRecDepth 100000 in
theorem ltm_of (N : Nat) (hN : 0 ≤ N) (cs : List Value) (d : DataW H) (ps : List MemPlace) (fuel : Nat) (h : DataW.trod enc Tryz.prog W 0 spare held fuel 24 cs = some (d, ps)) (hb : uptoBulk d ≤ N) : ∃ x, RSl 4 RTm (Hp.of W) cs x := by
 obtain ⟨a, l, k, e, h1, h2, _⟩ := sl_of (N := N) Tryz.underlying24 cellsTm (by omega) (RTm (Hp.of W)) hN (fun cs d ps fuel h hb => tm_of N hN cs d ps fuel h (by omega)) h hb
 exact ⟨l, a, k, e, h1, h2⟩
theorem cells_At : Tryz.prog.cellsOf 26 = 2 := by kernel_rfl
set_option maxRecDepth 100000 in
theorem at_of (N : Nat) (hN : 0 ≤ N) (cs : List Value) (d : DataW H) (ps : List MemPlace) (fuel : Nat) (h : DataW.trod enc Tryz.prog W 0 spare held fuel 26 cs = some (d, ps)) (hb : uptoBulk d ≤ N) : ∃ x, RAt (Hp.of W) cs x := by
 obtain ⟨y0, y1, n, hx, hl, h0, h1⟩ := trod_struct2 Tryz.underlying26 h; simp only [Prod.mk.injEq] at hx; obtain ⟨rfl, _⟩ := hx; rw [cells_At] at hl
 match cs, hl with
 | [c0, c1], _ =>
  simp only [cellsStr, cellsTms, List.drop_zero, List.drop_succ_cons, List.take_succ_cons, List.take_zero] at h0 h1; simp only [uptoBulk, uptoBulkAll] at hb; obtain ⟨v0, e0, i0⟩ := str_of (N := N) h0 (by omega)
  obtain ⟨v1, a1, k1, e1, l1, s1⟩ := ltm_of N hN _ _ _ _ h1 (by omega)
  simp only [List.cons.injEq, and_true] at e0 e1; subst e0; subst e1; exact ⟨⟨v0, v1⟩, a1, k1, rfl, i0, l1, s1⟩
theorem cells_It : Tryz.prog.cellsOf 28 = 3 := by kernel_rfl
set_option maxRecDepth 100000 in
theorem it_of (N : Nat) (hN : 0 ≤ N) (cs : List Value) (d : DataW H) (ps : List MemPlace) (fuel : Nat) (h : DataW.trod enc Tryz.prog W 0 spare held fuel 28 cs = some (d, ps)) (hb : uptoBulk d ≤ N) : ∃ x, RIt (Hp.of W) cs x := by
 obtain ⟨y0, y1, n, hx, hl, h0, h1⟩ := trod_struct2 Tryz.underlying28 h; simp only [Prod.mk.injEq] at hx; obtain ⟨rfl, _⟩ := hx; rw [cells_It] at hl
 match cs, hl with
 | [c0, c1, c2], _ =>
  simp only [cellsInt, cells_At, List.drop_zero, List.drop_succ_cons, List.take_succ_cons, List.take_zero] at h0 h1; simp only [uptoBulk, uptoBulkAll] at hb; obtain ⟨v0, e0, i0⟩ := int_of h0; obtain ⟨v1, e1⟩ := at_of N hN _ _ _ _ h1 (by omega)
  simp only [List.cons.injEq, and_true] at e0; subst e0; exact ⟨⟨v0, v1⟩, _, rfl, i0, e1⟩
set_option maxRecDepth 100000 in
theorem lit_of (N : Nat) (hN : 0 ≤ N) (cs : List Value) (d : DataW H) (ps : List MemPlace) (fuel : Nat) (h : DataW.trod enc Tryz.prog W 0 spare held fuel 22 cs = some (d, ps)) (hb : uptoBulk d ≤ N) : ∃ x, RSl 3 RIt (Hp.of W) cs x := by
 obtain ⟨a, l, k, e, h1, h2, _⟩ := sl_of (N := N) Tryz.underlying22 cells_It (by omega) (RIt (Hp.of W)) hN (fun cs d ps fuel h hb => it_of N hN cs d ps fuel h (by omega)) h hb
 exact ⟨l, a, k, e, h1, h2⟩
set_option maxRecDepth 100000 in
theorem lint_of (N : Nat) (hN : 0 ≤ N) (cs : List Value) (d : DataW H) (ps : List MemPlace) (fuel : Nat) (h : DataW.trod enc Tryz.prog W 0 spare held fuel 41 cs = some (d, ps)) (hb : uptoBulk d ≤ N) : ∃ x, RSl 1 RInt (Hp.of W) cs x := by
 obtain ⟨a, l, k, e, h1, h2, _⟩ := sl_of (N := N) Tryz.underlying41 cellsInt (by omega) (RInt (Hp.of W)) hN (fun cs d ps fuel h _ => let ⟨n, e, i⟩ := int_of h; ⟨n, e, i⟩) h hb
 exact ⟨l, a, k, e, h1, h2⟩
theorem cells_Lint : Tryz.prog.cellsOf 41 = 1 := by kernel_rfl
theorem cells_Ac : Tryz.prog.cellsOf 70 = 3 := by kernel_rfl
set_option maxRecDepth 100000 in
theorem ac_of (N : Nat) (hN : 0 ≤ N) (cs : List Value) (d : DataW H) (ps : List MemPlace) (fuel : Nat) (h : DataW.trod enc Tryz.prog W 0 spare held fuel 70 cs = some (d, ps)) (hb : uptoBulk d ≤ N) : ∃ x, RAc (Hp.of W) cs x := by
 obtain ⟨y0, y1, y2, n, hx, hl, h0, h1, h2⟩ := Deep.trod_struct3 Tryz.underlying70 h; simp only [Prod.mk.injEq] at hx; obtain ⟨rfl, _⟩ := hx; rw [cells_Ac] at hl
 match cs, hl with
 | [c0, c1, c2], _ =>
  simp only [cellsStr, cellsInt, cells_Lint, List.drop_zero, List.drop_succ_cons, List.take_succ_cons, List.take_zero] at h0 h1 h2; simp only [uptoBulk, uptoBulkAll] at hb; obtain ⟨v0, e0, i0⟩ := str_of (N := N) h0 (by omega)
  obtain ⟨v1, e1, i1⟩ := int_of h1; obtain ⟨v2, a2, k2, e2, l2, s2⟩ := lint_of N hN _ _ _ _ h2 (by omega)
  simp only [List.cons.injEq, and_true] at e0 e1 e2; subst e0; subst e1; subst e2; exact ⟨⟨v0, v1, v2⟩, a2, k2, rfl, i0, i1, l2, s2⟩
set_option maxRecDepth 100000 in
theorem lac_of (N : Nat) (hN : 0 ≤ N) (cs : List Value) (d : DataW H) (ps : List MemPlace) (fuel : Nat) (h : DataW.trod enc Tryz.prog W 0 spare held fuel 23 cs = some (d, ps)) (hb : uptoBulk d ≤ N) : ∃ x, RSl 3 RAc (Hp.of W) cs x := by
 obtain ⟨a, l, k, e, h1, h2, _⟩ := sl_of (N := N) Tryz.underlying23 cells_Ac (by omega) (RAc (Hp.of W)) hN (fun cs d ps fuel h hb => ac_of N hN cs d ps fuel h (by omega)) h hb
 exact ⟨l, a, k, e, h1, h2⟩
theorem cells_Bd : Tryz.prog.cellsOf 102 = 5 := by kernel_rfl
set_option maxRecDepth 100000 in
theorem bd_of (N : Nat) (hN : 0 ≤ N) (cs : List Value) (d : DataW H) (ps : List MemPlace) (fuel : Nat) (h : DataW.trod enc Tryz.prog W 0 spare held fuel 102 cs = some (d, ps)) (hb : uptoBulk d ≤ N) : ∃ x, RBd (Hp.of W) cs x := by
 obtain ⟨y0, y1, n, hx, hl, h0, h1⟩ := trod_struct2 Tryz.underlying102 h; simp only [Prod.mk.injEq] at hx; obtain ⟨rfl, _⟩ := hx; rw [cells_Bd] at hl
 match cs, hl with
 | [c0, c1, c2, c3, c4], _ =>
  simp only [cellsInt, cellsTm, List.drop_zero, List.drop_succ_cons, List.take_succ_cons, List.take_zero] at h0 h1; simp only [uptoBulk, uptoBulkAll] at hb; obtain ⟨v0, e0, i0⟩ := int_of h0; obtain ⟨v1, e1⟩ := tm_of N hN _ _ _ _ h1 (by omega)
  simp only [List.cons.injEq, and_true] at e0; subst e0; exact ⟨⟨v0, v1⟩, _, rfl, i0, e1⟩
set_option maxRecDepth 100000 in
theorem lbd_of (N : Nat) (hN : 0 ≤ N) (cs : List Value) (d : DataW H) (ps : List MemPlace) (fuel : Nat) (h : DataW.trod enc Tryz.prog W 0 spare held fuel 30 cs = some (d, ps)) (hb : uptoBulk d ≤ N) : ∃ x, RSl 5 RBd (Hp.of W) cs x := by
 obtain ⟨a, l, k, e, h1, h2, _⟩ := sl_of (N := N) Tryz.underlying30 cells_Bd (by omega) (RBd (Hp.of W)) hN (fun cs d ps fuel h hb => bd_of N hN cs d ps fuel h (by omega)) h hb
 exact ⟨l, a, k, e, h1, h2⟩
theorem trod_struct5 {P : Program} {base : Nat} {t : TypeId} {f0 f1 f2 f3 f4 : Field} {fuel : Nat} {cs : List Value} {x : DataW H × List MemPlace} (ht : P.underlying t = some (.struct #[f0, f1, f2, f3, f4])) (h : DataW.trod enc P W base spare held fuel t cs = some x) :
  ∃ y0 y1 y2 y3 y4 n, x = (.agg [y0.1, y1.1, y2.1, y3.1, y4.1], y0.2 ++ (y1.2 ++ (y2.2 ++ (y3.2 ++ y4.2)))) ∧ cs.length = P.cellsOf t ∧ DataW.trod enc P W base spare held n f0.type ((cs.drop f0.offset).take (P.cellsOf f0.type)) = some y0 ∧ DataW.trod enc P W base spare held n f1.type ((cs.drop f1.offset).take (P.cellsOf f1.type)) = some y1 ∧ DataW.trod enc P W base spare held n f2.type ((cs.drop f2.offset).take (P.cellsOf f2.type)) = some y2 ∧ DataW.trod enc P W base spare held n f3.type ((cs.drop f3.offset).take (P.cellsOf f3.type)) = some y3 ∧ DataW.trod enc P W base spare held n f4.type ((cs.drop f4.offset).take (P.cellsOf f4.type)) = some y4 := by
 obtain ⟨xs, n, _, rfl, hl, hlen, hf⟩ := DataW.trod_struct ht h
 match xs, hlen with
 | [y0, y1, y2, y3, y4], _ => exact ⟨y0, y1, y2, y3, y4, n, by simp, hl, by simpa using hf 0 f0 rfl, by simpa using hf 1 f1 rfl, by simpa using hf 2 f2 rfl, by simpa using hf 3 f3 rfl, by simpa using hf 4 f4 rfl⟩
theorem RTm.io {M : Hp} {c : List Value} {t : Tm} (h : RTm M c t) : t.io := by
 induction h with
 | mk k n s a cap args es bo hk hn hs hl hc ha hsz hcell hr ih =>
  refine ⟨hk, hn, Tm.ios_mem.2 fun t ht => ?_⟩; obtain ⟨i, hi, rfl⟩ := List.mem_iff_getElem.1 ht; exact ih i hi
theorem RTms.ios {M : Hp} {a : Option Addr} {l : List Tm} (h : RTms M a l) : Tm.ios l := Tm.ios_mem.2 fun t ht => by
 obtain ⟨i, hi, rfl⟩ := List.mem_iff_getElem.1 ht; obtain ⟨_, _, _, _, _, _, hr⟩ := h.at_ i hi; exact hr.io
theorem RIt.ios {M : Hp} {c : List Value} {x : It} (h : RIt M c x) : Tm.ios x.atom.args := by
 obtain ⟨c1, _, _, a1, k1, _, _, _, hs⟩ := h; exact RTms.ios hs
def ROp (M : Hp) (c : List Value) (x : Op20) : Prop := CF M x.av.cells c ∧ (∀ u ∈ c, u.oneCell' = true) ∧ Tm.ios x.item.atom.args ∧ Tm.ios x.key
theorem ROp.fv {M : Hp} {c : List Value} {x : Op20} (h : ROp M c x) : FV M x.av (.agg c.toArray) := h.1.agg h.2.1
def bnd (b : Bd) : Bnd := ⟨b.var, b.term⟩
theorem bnd_av (l : List Bd) : (l.map bnd).map Bnd.av = l.map Bd.av := by rw [List.map_map]; rfl
theorem cells_Op : Tryz.prog.cellsOf 32 = 7 := by kernel_rfl
theorem cells_LTm : Tryz.prog.cellsOf 24 = 1 := by kernel_rfl
theorem cells_LBd : Tryz.prog.cellsOf 30 = 1 := by kernel_rfl
set_option maxRecDepth 100000 in
theorem op_of (N : Nat) (hN : 0 ≤ N) (cs : List Value) (d : DataW H) (ps : List MemPlace) (fuel : Nat) (h : DataW.trod enc Tryz.prog W 0 spare held fuel 32 cs = some (d, ps)) (hb : uptoBulk d ≤ N) : ∃ x, ROp (Hp.of W) cs x := by
 obtain ⟨y0, y1, y2, y3, y4, n, hx, hl, h0, h1, h2, h3, h4⟩ := trod_struct5 Tryz.underlying32 h; simp only [Prod.mk.injEq] at hx; obtain ⟨rfl, _⟩ := hx; rw [cells_Op] at hl
 match cs, hl with
 | [c0, c1, c2, c3, c4, c5, c6], _ =>
  simp only [cellsInt, cells_It, cells_LTm, cells_LBd, List.drop_zero, List.drop_succ_cons, List.take_succ_cons, List.take_zero] at h0 h1 h2 h3 h4; simp only [uptoBulk, uptoBulkAll] at hb; obtain ⟨v0, e0, i0⟩ := int_of h0; obtain ⟨v1, e1, i1⟩ := int_of h1; obtain ⟨v2, r2⟩ := it_of N hN _ _ _ _ h2 (by omega)
  obtain ⟨v3, r3⟩ := ltm_of N hN _ _ _ _ h3 (by omega)
  obtain ⟨v4, r4⟩ := lbd_of N hN _ _ _ _ h4 (by omega)
  simp only [List.cons.injEq, and_true] at e0 e1; subst e0; subst e1; have t := CF.app (CF.cons (FV.int .i64 v0) (CF.cons (FV.int .i64 v1) CF.nil)) (CF.app r2.cf.1 (CF.app (r3.cf (f := Tm.av) fun _ _ _ hc => RTm.cf hc).1 (r4.cf (f := Bd.av) fun _ _ _ hc => RBd.cf hc).1)); refine ⟨⟨v0, v1, v2, v3, v4.map bnd⟩, ?_, fun u hu => ?_, r2.ios, ?_⟩
  ·show CF _ (AV.cells (.agg [.int .i64 v0, .int .i64 v1, .int .i64 v2.id, .str v2.atom.name, .sl .no (v2.atom.args.map Tm.av), .sl .no (v3.map Tm.av), .sl .no ((v4.map bnd).map Bnd.av)])) _; rw [bnd_av]; exact t
  ·have h2 := r2.cf.2; have h3 := (r3.cf (f := Tm.av) fun _ _ _ hc => RTm.cf hc).2; have h4 := (r4.cf (f := Bd.av) fun _ _ _ hc => RBd.cf hc).2; simp only [List.mem_cons, List.not_mem_nil, or_false] at hu h2 h3 h4; rcases hu with rfl | rfl | rfl | rfl | rfl | rfl | rfl
   ·rfl
   ·rfl
   ·exact h2 _ (.inl rfl)
   ·exact h2 _ (.inr (.inl rfl))
   ·exact h2 _ (.inr (.inr rfl))
   ·exact h3 _ rfl
   ·exact h4 _ rfl
  ·obtain ⟨a, k, _, _, hs⟩ := r3; exact RTms.ios hs
end
theorem laidMet_tail {P : Program} {x : String × DataW Unit} {r : List (String × DataW Unit)} {W : World} (h : laidMet P (x :: r) W) : laidMet P r W := by
 obtain ⟨ps, ⟨g, t, cs, fuel, p, q, _, _, _, _, hq, rfl⟩, hn, hr⟩ := h; exact ⟨q, hq, (List.nodup_append.1 hn).2.1, fun b off hm => hr b off (List.mem_append_right _ hm)⟩
theorem tb_of {x y : String × DataW Unit} {W : World} (h : laidMet Tryz.prog [x, y, ("internal/strconv.uint64pow10", Lib.tabData .u64 Lib.pow10Tab)] W) : ∃ T fz, W.heap[AM.KB]? = some (.cells AM.KV.toArray T fz) := by
 have h1 : Lib.TabIs Tryz.prog W "internal/strconv.uint64pow10" .u64 Lib.pow10Tab := Lib.tabIs_of_head (g := 1) (t := 314) (n := 20) (by kernel_rfl) (by kernel_rfl) (by kernel_rfl) Tryz.underlying76 (by kernel_rfl) (by kernel_rfl) (laidMet_tail (laidMet_tail h))
 have hg : Tryz.prog.globalNamed "internal/strconv.uint64pow10" = some 1 := by kernel_rfl
 have hz : (Lib.pow10Tab.map fun z => Value.int .u64 z) = AM.KV := by kernel_rfl
 unfold Lib.TabIs World.var? at h1; rw [hg, Option.bind_some, hz] at h1; split at h1
 ·rename_i cs T fz e; cases h1; exact ⟨T, fz, e⟩
 ·cases h1
end Go.CK
