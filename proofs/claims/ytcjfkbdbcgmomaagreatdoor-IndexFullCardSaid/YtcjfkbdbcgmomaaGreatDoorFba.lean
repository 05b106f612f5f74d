/-
  Texts of this claim joined (wip/gen/bundle.py), those declarations only that are needed: IxLd IxLe IxLf FunC Read RdIx. By an AI agent.
-/
import Derived.Test.YtcjfkbdbcgmomaaGreatDoorFaz
import Derived.Test.YtcjfkbdbcgmomaaGreatDoorFaq
import Derived.Test.YtcjfkbdbcgmomaaGreatDoorRows
import Derived.ProofKit
import Derived.OpenShut
import Derived.ShutString
import Derived.ChangeOld
import Derived.JoinedCond
import Derived.Deep.Slices
import Derived.Lib.SmallJoins
import Derived.Lib.LaidTab
set_option linter.unusedSimpArgs false
set_option linter.unusedVariables false
namespace Go.CK
open Go.AM Go.Proofs
def exAcc : List Ac := [⟨⟨⟨[101]⟩⟩, 2, [0]⟩, ⟨⟨⟨[101]⟩⟩, 2, []⟩]
def exL : List It := [eI 1 ⟨⟨[97]⟩⟩ ⟨⟨[98]⟩⟩, eI 2 ⟨⟨[97]⟩⟩ ⟨⟨[99]⟩⟩, eI 4 ⟨⟨[98]⟩⟩ ⟨⟨[98]⟩⟩]
theorem exOk : (rightSt exL && exAcc.all Ac.right) = true := by kernel_rfl
theorem exBad : (rightSt [] && [(⟨⟨⟨[101]⟩⟩, 2, [2]⟩ : Ac)].all Ac.right) = false := by kernel_rfl
theorem exFew : (exL.all fewI && exAcc.all fewA) = true := by kernel_rfl
theorem exF1 : findR exAcc exL 0 [funT ⟨⟨[97]⟩⟩] = [1, 2] := by kernel_rfl
theorem exF2 : findR exAcc exL 1 [] = [1, 2, 4] := by kernel_rfl
theorem exI1 : insR exL (eI 3 ⟨⟨[97]⟩⟩ ⟨⟨[97]⟩⟩) = 0 := by kernel_rfl
theorem exI2 : insR (insIt exL (eI 3 ⟨⟨[97]⟩⟩ ⟨⟨[97]⟩⟩)) (eI 3 ⟨⟨[98]⟩⟩ ⟨⟨[97]⟩⟩) = 8 := by kernel_rfl
theorem exF3 : findR exAcc (insIt exL (eI 3 ⟨⟨[97]⟩⟩ ⟨⟨[97]⟩⟩)) 0 [funT ⟨⟨[97]⟩⟩] = [1, 2, 3] := by kernel_rfl
theorem exD1 : hasI (insIt exL (eI 3 ⟨⟨[97]⟩⟩ ⟨⟨[97]⟩⟩)) 1 = true := by kernel_rfl
theorem exD2 : hasI (delI (insIt exL (eI 3 ⟨⟨[97]⟩⟩ ⟨⟨[97]⟩⟩)) 1) 1 = false := by kernel_rfl
theorem exD3 : (delI (delI (insIt exL (eI 3 ⟨⟨[97]⟩⟩ ⟨⟨[97]⟩⟩)) 1) 1).length = 3 := by kernel_rfl
theorem exIo : ∀ i ∈ exL, Tm.ios i.atom.args := by
 intro i hi; simp [exL] at hi; rcases hi with rfl | rfl | rfl <;> simp [eI, funT, Tm.ios, Tm.io, IntOk]
theorem eI_few (id : Int) : fewI (eI id ⟨⟨[97]⟩⟩ ⟨⟨[97]⟩⟩) = true ∧ fewI (eI id ⟨⟨[98]⟩⟩ ⟨⟨[97]⟩⟩) = true ∧ fewI (eI id ⟨⟨[97]⟩⟩ ⟨⟨[98]⟩⟩) = true := by
 have h1 : fewI (eI 0 ⟨⟨[97]⟩⟩ ⟨⟨[97]⟩⟩) = true := by kernel_rfl
 have h2 : fewI (eI 0 ⟨⟨[98]⟩⟩ ⟨⟨[97]⟩⟩) = true := by kernel_rfl
 have h3 : fewI (eI 0 ⟨⟨[97]⟩⟩ ⟨⟨[98]⟩⟩) = true := by kernel_rfl
 exact ⟨h1, h2, h3⟩
theorem eI_io (id : Int) (a b : ByteArray) : Tm.ios (eI id a b).atom.args := by simp [eI, funT, Tm.ios, Tm.io, IntOk]
set_option maxRecDepth 100000 in
set_option maxHeartbeats 2000000 in
theorem example20_ok : Fun Tryz.prog 10 [] (.bool true) := by
 have hal := exOk; rw [Bool.and_eq_true] at hal; have hfw := exFew; rw [Bool.and_eq_true] at hfw; have hr : ∀ a ∈ exAcc, a.right = true := fun a ha => List.all_eq_true.1 hal.2 a ha; have hfa : ∀ a ∈ exAcc, fewA a = true := fun a ha => List.all_eq_true.1 hfw.2 a ha; have hA0 : AllOk exAcc exL := allOk_few hr hfa (fun i hi => ⟨List.all_eq_true.1 hfw.1 i hi, exIo i hi⟩) (rightSt_asc hal.1) (by decide) (by decide)
 have e1 := e20_ok 1 ⟨⟨[97]⟩⟩ ⟨⟨[98]⟩⟩; have e2 := e20_ok 2 ⟨⟨[97]⟩⟩ ⟨⟨[99]⟩⟩; have e4 := e20_ok 4 ⟨⟨[98]⟩⟩ ⟨⟨[98]⟩⟩; have ha := Fun3_ok ⟨⟨[97]⟩⟩ [] (by simp)
 refine Fun.of (opS_constraintlaw20_exampleHolds (by simp) ?_) rfl rfl
 conv => whnf
 try dsimp only
 repeat' ((refine gF ?_; first | refine CallN.fn (e1) ?_ | refine CallN.fn (e2) ?_ | refine CallN.fn (e4) ?_) <;> (conv => whnf; try dsimp only))
 refine CallN.of (newIx_ok (V := fun _ => False) (bs := []) (its := exL) (l := exAcc) (fun _ h => h.elim) hA0 hr hal.1 (by intro i hi; simp [exL] at hi; rcases hi with rfl | rfl | rfl <;> simp [eI])) ?_
 rintro r b1 ⟨rfl, hI1, _⟩
 have hs : ∀ a : List Int, Fun Tryz.prog 17 [slA intA a, slA intA a] (.bool true) := fun a => by
  have := sameInts_ok (a := a) (b := a); simpa using this
 have hs1 := hs [1, 2]; have hs2 := hs [1, 2, 4]; have hs3 := hs [1, 2, 3]; have hbad := newBad_ok (l := []) (acc := [⟨⟨⟨[101]⟩⟩, 2, [2]⟩]) (by decide) (by simp) (by decide) (by simp) exBad
 have hio : Tm.ios [funT ⟨⟨[97]⟩⟩] := by simp [funT, Tm.ios, Tm.io, IntOk]
 have hkl : (txtL [funT ⟨⟨[97]⟩⟩]).length ≤ 100000000 := by
  have h : Nat.ble (txtL [funT ⟨⟨[97]⟩⟩]).length 100 = true := by kernel_rfl
  have := Nat.le_of_ble_eq_true h; omega
 conv => whnf
 try dsimp only
 repeat' ((first | (refine gF ?_; refine CallN.fn (ha) ?_) | (refine gC ?_; first | refine cN ?_ | refine .not ?_ | (refine gD ?_; refine cI ?_))) <;> (conv => whnf; try dsimp only))
 refine CallN.of (ixFindM_ok (k := 0) (key := [funT ⟨⟨[97]⟩⟩]) hI1 hA0 hio hkl (by simp)) ?_
 rintro r b2 ⟨rfl, rfl⟩; rw [exF1]
 conv => whnf
 try dsimp only
 repeat' ((first | (refine gF ?_; refine CallN.fn (hs1) ?_) | (refine gC ?_; first | refine cY ?_ | refine .not ?_ | (refine gD ?_; refine cI ?_))) <;> (conv => whnf; try dsimp only))
 refine CallN.of (ixFindM_ok (k := 1) (key := []) hI1 hA0 trivial (by simp [txtL]) (by simp)) ?_
 rintro r b3 ⟨rfl, rfl⟩; rw [exF2]; have e3 := e20_ok 3 ⟨⟨[97]⟩⟩ ⟨⟨[97]⟩⟩; have e3b := e20_ok 3 ⟨⟨[98]⟩⟩ ⟨⟨[97]⟩⟩; obtain ⟨f3, f3b, _⟩ := eI_few 3; have hE3 := entOk_few hr hfa f3 (eI_io 3 ⟨⟨[97]⟩⟩ ⟨⟨[97]⟩⟩); have hE3b := entOk_few hr hfa f3b (eI_io 3 ⟨⟨[98]⟩⟩ ⟨⟨[97]⟩⟩); have hA1 : AllOk exAcc (insIt exL (eI 3 ⟨⟨[97]⟩⟩ ⟨⟨[97]⟩⟩)) := hA0.ins hE3 (by kernel_rfl) (by decide)
 conv => whnf
 try dsimp only
 repeat' ((first | (refine gF ?_; first | refine CallN.fn (hs2) ?_ | refine CallN.fn (hbad) ?_ | refine CallN.fn (e3) ?_) | (refine gC ?_; first | refine cY ?_ | refine .not ?_)) <;> (conv => whnf; try dsimp only))
 refine CallN.of (ixInsert_ok (V := fun _ => False) hI1 (fun _ h => h.elim) hA0 hE3 (by simp [eI])) ?_
 rintro r b4 ⟨rfl, hI4, _, _⟩; rw [exI1] at hI4 ⊢; rw [if_pos rfl] at hI4
 conv => whnf
 try dsimp only
 repeat' ((first | (refine gF ?_; refine CallN.fn (e3b) ?_) | (refine gC ?_; (refine gD ?_; refine cI ?_))) <;> (conv => whnf; try dsimp only))
 refine CallN.of (ixInsert_ok (V := fun _ => False) hI4 (fun _ h => h.elim) hA1 hE3b (by simp [eI])) ?_
 rintro r b5 ⟨rfl, hI5, _, _⟩; rw [exI2] at hI5 ⊢; rw [if_neg (by decide)] at hI5
 conv => whnf
 try dsimp only
 repeat' ((first | (refine gF ?_; refine CallN.fn (ha) ?_) | (refine gC ?_; (refine gD ?_; refine cI ?_))) <;> (conv => whnf; try dsimp only))
 refine CallN.of (ixFindM_ok (k := 0) (key := [funT ⟨⟨[97]⟩⟩]) hI5 hA1 hio hkl (by simp)) ?_
 rintro r b6 ⟨rfl, rfl⟩; rw [exF3]
 conv => whnf
 try dsimp only
 repeat' ((first | (refine gF ?_; refine CallN.fn (hs3) ?_) | (refine gC ?_; first | refine cY ?_ | (refine gD ?_; refine cI ?_))) <;> (conv => whnf; try dsimp only))
 refine CallN.of (ixDelete_ok (V := fun _ => False) (id := 1) hI5 (fun _ h => h.elim) hA1) ?_; rintro r b7 ⟨rfl, hI7, _, _⟩; rw [exD1]
 conv => whnf
 try dsimp only
 repeat' ((refine gC ?_; refine cY ?_) <;> (conv => whnf; try dsimp only))
 refine CallN.of (ixDelete_ok (V := fun _ => False) (id := 1) hI7 (fun _ h => h.elim) (hA1.del 1)) ?_; rintro r b8 ⟨rfl, hI8, _, _⟩; rw [exD2]
 conv => whnf
 try dsimp only
 repeat' ((refine gC ?_; first | refine cY ?_ | refine cN ?_ | refine .not ?_) <;> (conv => whnf; try dsimp only))
 refine CallN.of (ixItems_ok hI8 ((hA1.del 1).del 1)) ?_; rintro r b9 ⟨rfl, _⟩; have hl3 := exD3
 conv => whnf
 try dsimp only
 repeat' ((first | (refine gC ?_; first | refine cN ?_ | refine .not ?_ | (refine gD ?_; refine cI ?_)) | (refine gL ?_; refine .map ?_)) <;> (conv => whnf; try dsimp only))
 exact ⟨_, Weak.refl _, .inl rfl⟩
end Go.CK
namespace Go.CK
open Go.AM Go.Proofs
end Go.CK
namespace Go.CK
open Go.AM Go.Proofs
set_option maxRecDepth 100000 in
theorem nilApply_w (v : Value) (w : World) : Calls Tryz.prog 36 #[.pointer none, v] w fun e w' => e = .returned (.tuple #[]) ∧ w' = w := by
 go_enter Tryz.func36, Tryz.ntmps36
 go_wp2_with fail
 refine bodyPost_ret (results_none rfl _ _ _) rfl ?_; exact ⟨rfl, rfl⟩
theorem nilApply_ok : Fun Tryz.prog 36 [.nptr, .sl .no []] (.tup []) := by
 intro bs E G a0 w args lo hs hl hv
 obtain ⟨v, rfl⟩ : ∃ v, args = [.pointer none, v] := by
  match args, hl with
  | [x, y], _ =>
   have h0 := hv 0 (by simp) x rfl
   simp only [List.getElem_cons_zero] at h0; exact ⟨y, by rw [h0.inv_nptr]⟩
 refine (nilApply_w v w).mono ?_; rintro e w' ⟨rfl, rfl⟩; have h0 := hs.reAct (callE G bs w' 1) ⟨#[.tuple #[]], []⟩ (Fr.refl _ _ _ hs.fr.kn) rfl bs.length rfl (Nat.le_refl _) (fun _ _ => rfl) (fun B hB => .inl hB) rfl; exact ⟨_, _, _, _, rfl, ⟨rfl, rfl⟩, h0.put (k := 0) Nat.zero_lt_one (x := .tup []) (v := .tuple #[]) (.tup [] [] rfl fun j hj => by cases hj)⟩
def fullI (n : Int) (k : Nat) : It := eI (n + 1 + 2 * k) ⟨⟨[97]⟩⟩ ⟨⟨[98]⟩⟩
def fullL (n : Int) (i : Nat) : List It := (List.range i).map (fullI n)
theorem fullL_len (n : Int) (i : Nat) : (fullL n i).length = i := by simp [fullL]
theorem fullL_mem {n : Int} {i : Nat} {x : It} : x ∈ fullL n i ↔ ∃ k, k < i ∧ x = fullI n k := by
 simp only [fullL, List.mem_map, List.mem_range]; exact ⟨fun ⟨k, h, e⟩ => ⟨k, h, e.symm⟩, fun ⟨k, h, e⟩ => ⟨k, h, e.symm⟩⟩
theorem fullL_succ (n : Int) (i : Nat) : fullL n (i + 1) = fullL n i ++ [fullI n i] := by simp [fullL, List.range_succ]
theorem fullI_id (n : Int) (k : Nat) : (fullI n k).id = n + 1 + 2 * k := rfl
theorem full_ins (n : Int) (i : Nat) : insIt (fullL n i) (fullI n i) = fullL n (i + 1) := by
 rw [fullL_succ]; refine insIt_last fun x hx => ?_; obtain ⟨k, hk, rfl⟩ := fullL_mem.1 hx; rw [fullI_id, fullI_id]; omega
theorem full_ok (n : Int) : ∀ i, i ≤ 500 -> AllOk [] (fullL n i)
 | i, hi => by
  refine ⟨?_, by rw [fullL_len]; omega, fun x hx => ?_, by simp, fun c hc => by cases hc⟩
  ·unfold Asc fullL; rw [List.pairwise_map]; refine List.Pairwise.imp_of_mem (R := (· < ·)) ?_ List.pairwise_lt_range; intro a b _ _ hab; rw [fullI_id, fullI_id]; omega
  ·obtain ⟨k, hk, rfl⟩ := fullL_mem.1 hx; exact ⟨eI_io _ _ _, (fun c hc => by cases hc), fun c hc => by cases hc⟩
theorem full_ent (id : Int) (a b : ByteArray) : EntOk [] (eI id a b) := ⟨eI_io _ _ _, (fun c hc => by cases hc), fun c hc => by cases hc⟩
theorem full_right (id : Int) : (eI id ⟨⟨[97]⟩⟩ ⟨⟨[98]⟩⟩).atom.right = true := by
 have h : (eI 0 ⟨⟨[97]⟩⟩ ⟨⟨[98]⟩⟩).atom.right = true := by kernel_rfl
 exact h
theorem full_r0 {n : Int} (hn : 0 ≤ n) {i : Nat} (hi : i < 500) : insR (fullL n i) (fullI n i) = 0 := by
 have hh : hasI (fullL n i) (fullI n i).id = false := List.any_eq_false.2 fun x hx => by
  obtain ⟨k, hk, rfl⟩ := fullL_mem.1 hx; rw [fullI_id, fullI_id]; simp; omega
 rw [insR, if_neg (by rw [fullI_id]; omega), if_neg (by rw [show (fullI n i).atom.right = true from full_right _]; decide), if_neg (by rw [hh]; decide), if_neg (by rw [fullL_len]; omega)]
theorem full_r6 {n : Int} (hn : 0 ≤ n) : insR (fullL n 500) (eI (n + 2) ⟨⟨[97]⟩⟩ ⟨⟨[98]⟩⟩) = 6 := by
 have hh : hasI (fullL n 500) (eI (n + 2) ⟨⟨[97]⟩⟩ ⟨⟨[98]⟩⟩).id = false := List.any_eq_false.2 fun x hx => by
  obtain ⟨k, hk, rfl⟩ := fullL_mem.1 hx; rw [fullI_id]; show ¬ decide (n + 1 + 2 * (k : Int) = n + 2) = true; simp; omega
 rw [insR, if_neg (show ¬ (eI (n + 2) ⟨⟨[97]⟩⟩ ⟨⟨[98]⟩⟩).id < 1 by show ¬ n + 2 < 1; omega), if_neg (by rw [full_right]; decide), if_neg (by rw [hh]; decide), if_pos (by rw [fullL_len]; omega)]
theorem full_r8 {n : Int} (hn : 0 ≤ n) : insR (fullL n 500) (eI (n + 1) ⟨⟨[97]⟩⟩ ⟨⟨[98]⟩⟩) = 8 := by
 have hh : hasI (fullL n 500) (eI (n + 1) ⟨⟨[97]⟩⟩ ⟨⟨[98]⟩⟩).id = true := List.any_eq_true.2 ⟨fullI n 0, fullL_mem.2 ⟨0, by omega, rfl⟩, by
  rw [fullI_id]; show decide (n + 1 + 2 * ((0 : Nat) : Int) = n + 1) = true; simp⟩
 rw [insR, if_neg (show ¬ (eI (n + 1) ⟨⟨[97]⟩⟩ ⟨⟨[98]⟩⟩).id < 1 by show ¬ n + 1 < 1; omega), if_neg (by rw [full_right]; decide), if_pos hh]
set_option maxRecDepth 100000 in
set_option maxHeartbeats 4000000 in
theorem indexFull_law {n : Int} (h0 : 0 ≤ n) (h1 : n ≤ 255) : Fun Tryz.prog 8 [.int .u8 n] (.bool true) := by
 have hex := example20_ok; refine Fun.of (opS_constraintlaw20_IndexFull (by simp) ?_) rfl rfl
 conv => whnf
 try dsimp only
 skip; refine LoopP.by (fb := false) (fun _ (a : Nat × List Box) => ⟨[(0, .int .u8 n), (3, .ptr 0 0), (4, .int .i64 (a.1 : Int))], a.2, 0⟩) (fun a => a.1 ≤ 500 ∧ IxAt (fun _ => False) a.2 0 [] (fullL n a.1)) (fun a => 500 - a.1) (0, [.cells [.sl .no [], .bsl 2 0 0, .bsl 3 0 0], .dead, .row [], .row []]) ⟨Nat.zero_le _, 2, 0, 3, 0, [], ⟨rfl, rfl, Nat.le_refl _, rfl, Nat.le_refl _, rfl, List.nodup_nil, fun k c a hc => by simp at hc⟩, id, id, fun _ _ => id, by decide⟩ ?_ ?_
 ·refine EndN.rowNilAt (p := 0) (j := 0) (cs := [.sl .full [], .sl .full [], .sl .full []]) rfl rfl ?_; refine EndN.rowNilAt (p := 0) (j := 1) (cs := [.bsl 1 0 0, .sl .full [], .sl .full []]) rfl rfl ?_; refine EndN.rowNilAt (p := 0) (j := 2) (cs := [.bsl 1 0 0, .bsl 2 0 0, .sl .full []]) rfl rfl ?_; refine EndN.frozeBx plainAc 0 0 (b := 1) (m := 0) (k := 0) (k0 := 0) (l := []) rfl rfl rfl (Nat.le_refl _) ?_; exact ⟨Weak.refl _⟩
 ·rintro ⟨j, b2⟩ ⟨q1, q2⟩; dsimp only at q1 q2
  by_cases hj : j < 500
  ·have e1 := e20_ok (n + 1 + 2 * j) ⟨⟨[97]⟩⟩ ⟨⟨[98]⟩⟩
   conv => whnf
   try dsimp only
   repeat' ((first | (refine gF ?_; refine CallN.fn (e1) ?_) | (refine gC ?_; (refine gD ?_; refine cI ?_)) | (refine gW ?_; refine wI ?_)) <;> (conv => whnf; try dsimp only))
   refine CallN.of (ixInsert_ok (V := fun _ => False) (i := fullI n j) q2 (fun _ h => h.elim) (full_ok n j q1) (full_ent _ _ _) (by simp [fullI, eI])) ?_
   rintro r b3 ⟨rfl, hI3, _, _⟩; rw [full_r0 h0 hj] at hI3 ⊢; rw [if_pos rfl, full_ins] at hI3
   conv => whnf
   try dsimp only
   repeat' ((first | (refine gC ?_; first | refine .not ?_ | (refine gD ?_; refine cI ?_)) | (refine gW ?_; refine wI ?_)) <;> (conv => whnf; try dsimp only))
   refine ⟨(j + 1, b3), ⟨⟨hj, hI3⟩, by dsimp only; omega⟩, ?_⟩
   refine EndN.atS ?_ rfl rfl
   conv => whnf
   repeat' ((first | (refine gV ?_; first | refine vE ?_ | refine vI ?_) | exact True.intro) <;> conv => whnf)
  ·obtain rfl : j = 500 := by omega
   have e2 := e20_ok (n + 2) ⟨⟨[97]⟩⟩ ⟨⟨[98]⟩⟩; have e3 := e20_ok (n + 1) ⟨⟨[97]⟩⟩ ⟨⟨[98]⟩⟩; have e4 := e20_ok 1 ⟨⟨[97]⟩⟩ ⟨⟨[98]⟩⟩
   conv => whnf
   try dsimp only
   repeat' ((first | (refine gF ?_; refine CallN.fn (e2) ?_) | (refine gC ?_; (refine gD ?_; refine cJ ?_)) | (refine gW ?_; refine wI ?_)) <;> (conv => whnf; try dsimp only))
   refine CallN.of (ixInsert_ok (V := fun _ => False) (i := eI (n + 2) ⟨⟨[97]⟩⟩ ⟨⟨[98]⟩⟩) q2 (fun _ h => h.elim) (full_ok n 500 q1) (full_ent _ _ _) (by simp [eI])) ?_
   rintro r b3 ⟨rfl, hI3, _, _⟩; rw [full_r6 h0] at hI3 ⊢; rw [if_neg (by decide)] at hI3
   conv => whnf
   try dsimp only
   repeat' ((first | (refine gF ?_; refine CallN.fn (e3) ?_) | (refine gC ?_; first | refine .not ?_ | (refine gD ?_; refine cI ?_)) | (refine gW ?_; refine wI ?_)) <;> (conv => whnf; try dsimp only))
   refine CallN.of (ixInsert_ok (V := fun _ => False) (i := eI (n + 1) ⟨⟨[97]⟩⟩ ⟨⟨[98]⟩⟩) hI3 (fun _ h => h.elim) (full_ok n 500 q1) (full_ent _ _ _) (by simp [eI])) ?_
   rintro r b4 ⟨rfl, hI4, _, _⟩; rw [full_r8 h0] at hI4 ⊢; rw [if_neg (by decide)] at hI4
   conv => whnf
   try dsimp only
   repeat' ((refine gC ?_; first | refine .not ?_ | (refine gD ?_; refine cI ?_)) <;> (conv => whnf; try dsimp only))
   refine CallN.of (ixItems_ok hI4 (full_ok n 500 q1)) ?_; rintro r b5 ⟨rfl, hP5⟩; have hl5 := fullL_len n 500
   conv => whnf
   try dsimp only
   repeat' ((first | (refine gC ?_; first | refine .not ?_ | (refine gD ?_; refine cI ?_)) | (refine gL ?_; refine .map ?_)) <;> (conv => whnf; try dsimp only))
   refine CallN.of (ixFindM_ok (k := 0) (key := []) (hI4.pre hP5) (full_ok n 500 q1) trivial (by simp [txtL]) (by simp)) ?_
   rintro r b6 ⟨rfl, rfl⟩; rw [show findR [] (fullL n 500) 0 [] = [] from rfl]; have k1 := nilApply_ok; have k2 := nilInsert_ok (eI 1 ⟨⟨[97]⟩⟩ ⟨⟨[98]⟩⟩); have k3 := nilDelete_ok 1; have k4 := nilFind_ok 0 []; have k5 := nilItems_ok
   conv => whnf
   try dsimp only
   repeat' ((first | (refine gF ?_; first | refine CallN.fn (k1) ?_ | refine CallN.fn (e4) ?_ | refine CallN.fn (k2) ?_ | refine CallN.fn (k3) ?_ | refine CallN.fn (k4) ?_ | refine CallN.fn (k5) ?_ | refine CallN.fn (hex) ?_) | (refine gC ?_; first | refine cN ?_ | refine .not ?_ | (refine gD ?_; first | refine cI ?_ | refine cId ?_)) | (refine gL ?_; first | refine .map ?_ | refine .nil ?_)) <;> (conv => whnf; try dsimp only))
   exact ⟨_, Weak.refl _, .inl rfl⟩
end Go.CK
namespace Go.CK
open Go.RowKit Go.AM
def AllFV (M : Hp) : List AV -> List Value -> Prop
 | [], [] => True
 | x :: xs, v :: vs => FV M x v ∧ AllFV M xs vs
 | _, _ => False
theorem AllFV.len {M : Hp} : ∀ {xs : List AV} {vs : List Value}, AllFV M xs vs -> vs.length = xs.length
 | [], [], _ => rfl
 | _ :: xs, _ :: vs, h => by simp [AllFV.len h.2]
 | [], _ :: _, h => h.elim
 | _ :: _, [], h => h.elim
theorem AllFV.get {M : Hp} : ∀ {xs : List AV} {vs : List Value}, AllFV M xs vs -> ∀ j (h : j < xs.length) v, vs[j]? = some v -> FV M xs[j] v
 | [], [], _, j, h, _, _ => by cases h
 | _ :: xs, _ :: vs, h, 0, _, v, hv => by
  simp only [List.getElem?_cons_zero, Option.some.injEq] at hv
  subst hv; exact h.1
 | _ :: xs, _ :: vs, h, j + 1, hj, v, hv => AllFV.get h.2 j (by simpa using hj) v (by simpa using hv)
 | [], _ :: _, h, _, _, _, _ => h.elim
 | _ :: _, [], h, _, _, _, _ => h.elim
theorem Fun.calls {P : Program} {f : FuncId} {vals : List AV} {b : Bool} (h : Fun P f vals (.bool b)) {w : World} (ht : ∃ T fz, w.heap[KB]? = some (.cells KV.toArray T fz)) {args : List Value} (ha : AllFV (Hp.of w) vals args) :
  Calls P f args.toArray w fun e w' => e = .returned (.bool b) ∧ Ext w w' := by
 refine (((h []).mono (Q' := fun r _ => r = .bool b) fun r bs hq => hq.1).calls (Hp.le_refl _) (Kn.of ht) ha.len ha.get).mono ?_; rintro e w' ⟨v, r, bs', M', σ, n, rfl, rfl, hv, hx, _⟩; exact ⟨by rw [hv.inv_bool], hx⟩
end Go.CK
namespace Go.CK
open Go.RowKit Go.Proofs Go.ChangeShapes Go.WideShapes Go.ChangeAt
open Go.Proofs.YtcjfkbdbcgmomaaGreatDoor.Rows (uptoBulk uptoBulkAll uptoSmall)
theorem bulk_part {H : Type} {d : DataW H} {l : List (DataW H)} (h : d ∈ l) : uptoBulk d ≤ uptoBulkAll l := by
 induction l with
 | nil => cases h
 | cons x r ih =>
  simp only [uptoBulkAll]
  cases List.mem_cons.1 h with
  | inl e => subst e; omega
  | inr e => have := ih e; omega
theorem bulk_bound {H : Type} {l : List (DataW H)} (hk : uptoSmall H l = true) : uptoBulkAll l ≤ 1048576 := of_decide_eq_true hk
section
variable {H : Type} {enc : TypeId × Value -> H} {P : Program} {W : World} {spare : Nat -> Bool} {held : Bool}
end
section
variable {H : Type} {enc : TypeId × Value -> H} {W : World} {spare : Nat -> Bool} {held : Bool}
end
end Go.CK
namespace Go.CK
open Go.RowKit Go.Proofs Go.ChangeShapes Go.WideShapes Go.ChangeAt Go.AM
open Go.Proofs.YtcjfkbdbcgmomaaGreatDoor.Rows (uptoBulk uptoBulkAll uptoSmall)
section
variable {H : Type} {enc : TypeId × Value -> H} {W : World} {spare : Nat -> Bool} {held : Bool}
end
theorem laidMet_tail {P : Program} {x : String × DataW Unit} {r : List (String × DataW Unit)} {W : World} (h : laidMet P (x :: r) W) : laidMet P r W := by
 obtain ⟨ps, ⟨g, t, cs, fuel, p, q, _, _, _, _, hq, rfl⟩, hn, hr⟩ := h; exact ⟨q, hq, (List.nodup_append.1 hn).2.1, fun b off hm => hr b off (List.mem_append_right _ hm)⟩
theorem tb_of {x y : String × DataW Unit} {W : World} (h : laidMet Tryz.prog [x, y, ("internal/strconv.uint64pow10", Lib.tabData .u64 Lib.pow10Tab)] W) : ∃ T fz, W.heap[AM.KB]? = some (.cells AM.KV.toArray T fz) := by
 have h1 : Lib.TabIs Tryz.prog W "internal/strconv.uint64pow10" .u64 Lib.pow10Tab := Lib.tabIs_of_head (g := 1) (t := 314) (n := 20) (by kernel_rfl) (by kernel_rfl) (by kernel_rfl) Tryz.underlying76 (by kernel_rfl) (by kernel_rfl) (laidMet_tail (laidMet_tail h))
 have hg : Tryz.prog.globalNamed "internal/strconv.uint64pow10" = some 1 := by kernel_rfl
 have hz : (Lib.pow10Tab.map fun z => Value.int .u64 z) = AM.KV := by kernel_rfl
 unfold Lib.TabIs World.var? at h1; rw [hg, Option.bind_some, hz] at h1; split at h1
 ·rename_i cs T fz e; cases h1; exact ⟨T, fz, e⟩
 ·cases h1
end Go.CK
