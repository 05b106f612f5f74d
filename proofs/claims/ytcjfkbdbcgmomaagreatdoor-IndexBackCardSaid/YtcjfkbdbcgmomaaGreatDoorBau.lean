/-
  Texts of this claim joined (wip/gen/bundle.py), those declarations only that are needed: UnN UnP UnV IxR IxB RcChk IxC IxD IxE IxF RcIxa IxG. By an AI agent.
-/
import Derived.Test.YtcjfkbdbcgmomaaGreatDoorBat
import Derived.BigQuiet
import Derived.StillTailTactics
import Derived.Deep.RegionHeld3
import Derived.KernelRfl
import Derived.Lib.SpaceUEq
import Derived.Test.YtcjfkbdbcgmomaaGreatDoorBar
import Derived.Test.YtcjfkbdbcgmomaaGreatDoorProg
import Derived.Test.YtcjfkbdbcgmomaaGreatDoorBap
set_option linter.unusedSimpArgs false
set_option linter.unusedVariables false
namespace Go.CK
open Go.RowKit Go.Proofs
def clsN (c : Nat) : Nat := if 97 ≤ c ∧ c ≤ 122 then 1 else if (65 ≤ c ∧ c ≤ 90) ∨ c = 95 then 2 else if 48 ≤ c ∧ c ≤ 57 then 4 else 0
set_option maxHeartbeats 1000000 in
theorem of_any (c : Nat) (w : World) : Calls Tryz.prog 195 #[.int .u8 (c : Int)] w fun e w' => e = .returned (.int .u8 (clsN c : Int)) ∧ w' = w := by
 have d : ∀ (p : Prop) [Decidable p], p -> decide p = true := fun p _ h => decide_eq_true h
 by_cases h1 : (97 : Int) ≤ c
 ·by_cases h2 : (c : Int) ≤ 122
  ·have hv : clsN c = 1 := by unfold clsN; rw [if_pos ⟨by omega, by omega⟩]
   rw [hv]
   go_enter Tryz.func195, Tryz.ntmps195
   go_wp2_with fail
   go_ret
   exact ⟨rfl, rfl⟩
  ·have hv : clsN c = 0 := by unfold clsN; rw [if_neg (by omega), if_neg (by omega), if_neg (by omega)]
   rw [hv]; have h3 : (65 : Int) ≤ c := by omega
   have h4 : ¬ (c : Int) ≤ 90 := by omega
   have h5 : ¬ (c : Int) = 95 := by omega
   have h6 : (48 : Int) ≤ c := by omega
   have h7 : ¬ (c : Int) ≤ 57 := by omega
   go_enter Tryz.func195, Tryz.ntmps195
   go_wp2_with fail
   go_ret
   exact ⟨rfl, rfl⟩
 ·by_cases h3 : (65 : Int) ≤ c
  ·by_cases h4 : (c : Int) ≤ 90
   ·have hv : clsN c = 2 := by unfold clsN; rw [if_neg (by omega), if_pos (by omega)]
    rw [hv]
    go_enter Tryz.func195, Tryz.ntmps195
    go_wp2_with fail
    go_ret
    exact ⟨rfl, rfl⟩
   ·by_cases h5 : (c : Int) = 95
    ·have hv : clsN c = 2 := by unfold clsN; rw [if_neg (by omega), if_pos (by omega)]
     rw [hv]
     go_enter Tryz.func195, Tryz.ntmps195
     go_wp2_with fail
     go_ret
     exact ⟨rfl, rfl⟩
    ·have h6 : (48 : Int) ≤ c := by omega
     have h7 : ¬ (c : Int) ≤ 57 := by omega
     have hv : clsN c = 0 := by unfold clsN; rw [if_neg (by omega), if_neg (by omega), if_neg (by omega)]
     rw [hv]
     go_enter Tryz.func195, Tryz.ntmps195
     go_wp2_with fail
     go_ret
     exact ⟨rfl, rfl⟩
  ·have h5 : ¬ (c : Int) = 95 := by omega
   by_cases h6 : (48 : Int) ≤ c
   ·by_cases h7 : (c : Int) ≤ 57
    ·have hv : clsN c = 4 := by unfold clsN; rw [if_neg (by omega), if_neg (by omega), if_pos (by omega)]
     rw [hv]
     go_enter Tryz.func195, Tryz.ntmps195
     go_wp2_with fail
     go_ret
     exact ⟨rfl, rfl⟩
    ·have hv : clsN c = 0 := by unfold clsN; rw [if_neg (by omega), if_neg (by omega), if_neg (by omega)]
     rw [hv]
     go_enter Tryz.func195, Tryz.ntmps195
     go_wp2_with fail
     go_ret
     exact ⟨rfl, rfl⟩
   ·have hv : clsN c = 0 := by unfold clsN; rw [if_neg (by omega), if_neg (by omega), if_neg (by omega)]
    rw [hv]
    go_enter Tryz.func195, Tryz.ntmps195
    go_wp2_with fail
    go_ret
    exact ⟨rfl, rfl⟩
def badR (r : Nat) : Bool := decide (122 < r) || decide (clsN r = 0)
theorem cls_and (c : Nat) : ((clsN c : Int) = 0 ∧ clsN c = 0) ∨ ((clsN c = 1 ∨ clsN c = 2 ∨ clsN c = 4)) := by
 unfold clsN; split
 ·exact .inr (.inl rfl)
 ·split
  ·exact .inr (.inr (.inl rfl))
  ·split
   ·exact .inr (.inr (.inr rfl))
   ·exact .inl ⟨rfl, rfl⟩
set_option maxHeartbeats 1000000 in
theorem word1_any (r : Nat) (w : World) : Calls Tryz.prog 197 #[.int .i32 (r : Int)] w fun e w' => e = .returned (.bool (badR r)) ∧ w' = w := by
 by_cases h1 : (122 : Int) < r
 ·have hv : badR r = true := by unfold badR; rw [decide_eq_true (by omega : 122 < r)]; rfl
  rw [hv]
  go_enter Tryz.func197, Tryz.ntmps197
  go_wp2_with fail
  go_ret
  exact ⟨rfl, rfl⟩
 ·have hc := of_any (r : Nat) w; rcases cls_and r with ⟨_, h2⟩ | h2
  ·have hv : badR r = true := by unfold badR; rw [decide_eq_true h2, Bool.or_true]
   rw [hv]; rw [h2] at hc; have hc : Calls Tryz.prog 195 #[.int .u8 (r : Int)] w fun e w' => e = .returned (.int .u8 0) ∧ w' = w := hc
   go_enter Tryz.func197, Tryz.ntmps197
   go_wp2_with (go_at_call 195; refine hc.mono ?_; rintro e w' ⟨rfl, rfl⟩)
   go_ret
   exact ⟨rfl, rfl⟩
  ·have hv : badR r = false := by unfold badR; rw [decide_eq_false (by omega : ¬ 122 < r), decide_eq_false (by omega : ¬ clsN r = 0)]; rfl
   rw [hv]; rcases h2 with h2 | h2 | h2 <;> rw [h2] at hc
   ·have hc : Calls Tryz.prog 195 #[.int .u8 (r : Int)] w fun e w' => e = .returned (.int .u8 1) ∧ w' = w := hc
    go_enter Tryz.func197, Tryz.ntmps197
    go_wp2_with (go_at_call 195; refine hc.mono ?_; rintro e w' ⟨rfl, rfl⟩)
    go_ret
    exact ⟨rfl, rfl⟩
   ·have hc : Calls Tryz.prog 195 #[.int .u8 (r : Int)] w fun e w' => e = .returned (.int .u8 2) ∧ w' = w := hc
    go_enter Tryz.func197, Tryz.ntmps197
    go_wp2_with (go_at_call 195; refine hc.mono ?_; rintro e w' ⟨rfl, rfl⟩)
    go_ret
    exact ⟨rfl, rfl⟩
   ·have hc : Calls Tryz.prog 195 #[.int .u8 (r : Int)] w fun e w' => e = .returned (.int .u8 4) ∧ w' = w := hc
    go_enter Tryz.func197, Tryz.ntmps197
    go_wp2_with (go_at_call 195; refine hc.mono ?_; rintro e w' ⟨rfl, rfl⟩)
    go_ret
    exact ⟨rfl, rfl⟩
end Go.CK
namespace Go.AM
open Go.CK Go.RowKit Go.Proofs
theorem Fun.ofBelow {P : Program} {f : FuncId} {vals : List AV} {r : AV} {v : Value} (hr : ∀ M σ n, RV M σ n r v) (h : ∀ (M : Hp) (σ : Nat -> Nat) (n : Nat) (w : World) (args : List Value), M.le (Hp.of w) -> args.length = vals.length -> (∀ j (hj : j < vals.length) v, args[j]? = some v -> RV M σ n vals[j] v) -> Calls P f args.toArray w fun e w' => e = .returned v ∧ Below w.heap.size w w') : Fun P f vals r := by
 intro bs E G a0 w args lo hs hl hv; refine (h G.M G.σ bs.length w args hs.ok hl hv).mono ?_; rintro e w' ⟨rfl, hb⟩; have hMlt : ∀ B o u, G.M B o = some u -> B < w.heap.size := fun B o u hu => Hp.lt hs.ok hu; have h0 := hs.reAct (callE G bs w 1) ⟨#[v], []⟩ (Fr.refl _ _ _ hs.fr.kn) rfl bs.length rfl (Nat.le_refl _) (fun _ _ => rfl) (fun B hB => .inl hB) rfl; have h1 := h0.grow (M' := G.M) (w' := w') ⟨hb.os, hb.tape, hb.output, hb.size, Hp.le_refl _, fun B hB _ => hb.block B hB, fun _ _ _ _ => rfl⟩ (fun B o u hu => (hb.cell (p := ⟨B, o, none⟩) (hMlt B o u hu)).trans (hs.ok _ _ _ hu)); exact ⟨_, _, _, _, rfl, ⟨rfl, rfl⟩, h1.put (k := 0) Nat.zero_lt_one (x := r) (hr _ _ _)⟩
end Go.AM
namespace Go.CK
open Go.AM Go.RowKit Go.Proofs
theorem strContains_ok (s : ByteArray) (c : UInt8) : Fun Tryz.prog 232 [.str s, .str ⟨⟨[c]⟩⟩] (.bool (decide (0 ≤ Lib.indexByte s.data.toList c))) := by
 refine Fun.ofBelow (fun M σ n => .flat (.bool _)) fun M σ n w args hM hal hv => ?_
 obtain ⟨v1, v2, rfl⟩ : ∃ v1 v2, args = [v1, v2] := by
  match args, hal with
  | [v1, v2], _ => exact ⟨v1, v2, rfl⟩
 have h1 := hv 0 (by simp) v1 rfl
 have h2 := hv 1 (by simp) v2 rfl
 simp only [List.getElem_cons_zero, List.getElem_cons_succ] at h1 h2; obtain ⟨rfl, _⟩ := h1.inv_str; obtain ⟨rfl, _⟩ := h2.inv_str; refine (Any.strings_Contains_one Tryz.laysContains s c w).mono ?_; rintro e w' ⟨rfl, rfl⟩; exact ⟨rfl, Below.refl _ _⟩
theorem get0 {s : ByteArray} (h : 0 < s.size) : s.get! 0 = s[0]'h := by
 show s.data[0]! = s.data[0]; exact getElem!_pos s.data 0 h
def wordL (s : ByteArray) : Bool := decide (1 ≤ s.size ∧ s.size ≤ 40) && (decide (clsN (s.get! 0).toNat = 1) && decide (Lib.idxFunc badR true (s.extract 1 s.size) < 0))
set_option maxHeartbeats 1000000 in
theorem word_any (s : ByteArray) (hs : s.size ≤ 9223372036854775807) (w : World) : Calls Tryz.prog 148 #[.string s, .int .u8 1] w fun e w' => e = .returned (.bool (wordL s)) ∧ Below w.heap.size w w' := by
 by_cases h0 : s = ⟨⟨[]⟩⟩
 ·subst h0
  go_enter Tryz.func148, Tryz.ntmps148
  go_wp2_with fail
  go_ret
  exact ⟨rfl, Below.refl _ _⟩
 ·have hpos : 0 < s.size := Nat.pos_of_ne_zero fun e => h0 (ByteArray.ext (Array.eq_empty_of_size_eq_zero e))
  have h0' : (s.toList == ([] : List UInt8)) = false := by
   rw [beq_eq_false_iff_ne]; intro e; rw [ByteArray.toList_eq] at e; have : s.data.toList.length = 0 := by rw [e]; rfl
   rw [Array.length_toList] at this; exact absurd hpos (by rw [show s.size = s.data.size from rfl, this]; omega)
  by_cases h1 : (40 : Int) < s.size
  ·have hv : wordL s = false := by unfold wordL; rw [decide_eq_false (by omega)]; rfl
   rw [hv]
   go_enter Tryz.func148, Tryz.ntmps148
   go_wp2_with fail
   go_ret
   exact ⟨rfl, Below.refl _ _⟩
  ·have hg := get0 hpos; have hc := of_any (s[0]'hpos).toNat w
   by_cases h2 : clsN (s[0]'hpos).toNat = 1
   ·rw [h2] at hc; have hc : Calls Tryz.prog 195 #[.int .u8 ((s[0]'hpos).toNat : Int)] w fun e w' => e = .returned (.int .u8 1) ∧ w' = w := hc; have hi := Any.strings_IndexFunc Tryz.laysIndexFunc 197 #[] (enters_of Tryz.func197 (by kernel_rfl) rfl) badR (s.extract 1 s.size) w fun W x _ => (word1_any x W).mono fun e w' ⟨h1, h2⟩ => ⟨h1, 0, h2⟩
    have hv : wordL s = decide (Lib.idxFunc badR true (s.extract 1 s.size) < 0) := by unfold wordL; rw [hg, decide_eq_true (show 1 ≤ s.size ∧ s.size ≤ 40 by omega), decide_eq_true h2]; rfl
    rw [hv]
    go_enter Tryz.func148, Tryz.ntmps148
    go_wp2_with (first | (go_at_call 195; refine hc.mono ?_; rintro e w' ⟨rfl, rfl⟩) | (go_at_call 196; refine hi.mono ?_; rintro e w' ⟨rfl, hb⟩))
    go_ret
    exact ⟨rfl, hb⟩
   ·have hv : wordL s = false := by unfold wordL; rw [hg, decide_eq_false h2]; simp
    rw [hv]; rcases cls_and (s[0]'hpos).toNat with ⟨_, h3⟩ | h3 | h3 | h3
    ·rw [h3] at hc; have hc : Calls Tryz.prog 195 #[.int .u8 ((s[0]'hpos).toNat : Int)] w fun e w' => e = .returned (.int .u8 0) ∧ w' = w := hc
     go_enter Tryz.func148, Tryz.ntmps148
     go_wp2_with (go_at_call 195; refine hc.mono ?_; rintro e w' ⟨rfl, rfl⟩)
     go_ret
     exact ⟨rfl, Below.refl _ _⟩
    ·exact absurd h3 h2
    ·rw [h3] at hc; have hc : Calls Tryz.prog 195 #[.int .u8 ((s[0]'hpos).toNat : Int)] w fun e w' => e = .returned (.int .u8 2) ∧ w' = w := hc
     go_enter Tryz.func148, Tryz.ntmps148
     go_wp2_with (go_at_call 195; refine hc.mono ?_; rintro e w' ⟨rfl, rfl⟩)
     go_ret
     exact ⟨rfl, Below.refl _ _⟩
    ·rw [h3] at hc; have hc : Calls Tryz.prog 195 #[.int .u8 ((s[0]'hpos).toNat : Int)] w fun e w' => e = .returned (.int .u8 4) ∧ w' = w := hc
     go_enter Tryz.func148, Tryz.ntmps148
     go_wp2_with (go_at_call 195; refine hc.mono ?_; rintro e w' ⟨rfl, rfl⟩)
     go_ret
     exact ⟨rfl, Below.refl _ _⟩
end Go.CK
namespace Go.CK
open Go.AM Go.Proofs
def resB (s : ByteArray) : Bool := decide (s = ⟨⟨[99, 111, 110, 115, 116, 114, 97, 105, 110, 116]⟩⟩) || (decide (s = ⟨⟨[116, 114, 117, 101]⟩⟩) || (decide (s = ⟨⟨[102, 97, 105, 108]⟩⟩) || (decide (s = ⟨⟨[105, 115]⟩⟩) || (decide (s = ⟨⟨[105, 110, 116]⟩⟩) || decide (s = ⟨⟨[103, 114, 111, 117, 110, 100]⟩⟩)))))
theorem reserved_ok (s : ByteArray) : Fun Tryz.prog 149 [.str s] (.bool (resB s)) := by
 refine Fun.of (op_name_Reserved (by simp) ?_) rfl rfl
 conv => whnf
 conv => whnf
 repeat' ((first | (refine gC ?_; first | (refine gD ?_; refine cI ?_) | refine CondN.dec (fun hc => ?_) (fun hc => ?_)) | refine RetP.nrm ?_) <;> conv => whnf)
 all_goals (simp [resB, *])
theorem word_ok (s : ByteArray) : Fun Tryz.prog 148 [.str s, .int .u8 1] (.bool (wordL s)) := by
 refine Fun.ofBelow (fun M σ n => .flat (.bool _)) fun M σ n w args hM hal hv => ?_
 obtain ⟨v1, v2, rfl⟩ : ∃ v1 v2, args = [v1, v2] := by
  match args, hal with
  | [v1, v2], _ => exact ⟨v1, v2, rfl⟩
 have h1 := hv 0 (by simp) v1 rfl
 have h2 := hv 1 (by simp) v2 rfl
 simp only [List.getElem_cons_zero, List.getElem_cons_succ] at h1 h2; obtain ⟨rfl, hs⟩ := h1.inv_str; obtain rfl := h2.inv_int; exact word_any s (by ((try unfold glim at hs);(try unfold lim at hs)); omega) w
def nameR (s : ByteArray) : Bool := wordL s && !resB s
theorem right_ok (s : ByteArray) : Fun Tryz.prog 95 [.str s] (.bool (nameR s)) := by
 refine Fun.of (op_name_Right (by simp) ?_) rfl rfl
 conv => whnf
 conv => whnf
 repeat' ((first | (refine gF ?_; first | refine CallN.fn (word_ok _) ?_ | refine CallN.fn (reserved_ok _) ?_) | (refine gC ?_; first | refine cYa ?_ | refine cNa ?_ | refine CondN.any (fun hc => ?_) (fun hc => ?_)) | refine RetP.nrm ?_) <;> conv => whnf)
 all_goals (simp [nameR, *])
def operB (s : ByteArray) : Bool := decide (s = ⟨⟨[43]⟩⟩) || (decide (s = ⟨⟨[45]⟩⟩) || (decide (s = ⟨⟨[42]⟩⟩) || (decide (s = ⟨⟨[47]⟩⟩) || decide (s = ⟨⟨[37]⟩⟩))))
theorem oper_no {s : ByteArray} (h : ¬ s.size = 1) : operB s = false := by
 unfold operB; rw [decide_eq_false (by rintro rfl; exact h rfl), decide_eq_false (by rintro rfl; exact h rfl), decide_eq_false (by rintro rfl; exact h rfl), decide_eq_false (by rintro rfl; exact h rfl), decide_eq_false (by rintro rfl; exact h rfl)]
 rfl
theorem oper_one (c : UInt8) : decide (0 ≤ Lib.indexByte (⟨⟨[43, 45, 42, 47, 37]⟩⟩ : ByteArray).data.toList c) = operB ⟨⟨[c]⟩⟩ := by
 have e : ∀ d : UInt8, decide ((⟨⟨[c]⟩⟩ : ByteArray) = ⟨⟨[d]⟩⟩) = decide (c = d) := fun d => by rw [decide_eq_decide]; simp
 unfold operB; rw [e, e, e, e, e]; simp only [Lib.indexByte]
 by_cases h1 : c = 43
 ·subst h1; decide
 ·by_cases h2 : c = 45
  ·subst h2; decide
  ·by_cases h3 : c = 42
   ·subst h3; decide
   ·by_cases h4 : c = 47
    ·subst h4; decide
    ·by_cases h5 : c = 37
     ·subst h5; decide
     ·have f : ∀ d : UInt8, ¬ c = d -> (d == c) = false := fun d h => by rw [beq_eq_false_iff_ne]; exact fun e => h e.symm
      simp [h1, h2, h3, h4, h5, f 43 h1, f 45 h2, f 42 h3, f 47 h4, f 37 h5]
theorem oper_ok (s : ByteArray) : Fun Tryz.prog 200 [.str s] (.bool (operB s)) := by
 by_cases h1 : s.size = 1
 ·obtain ⟨c, rfl⟩ : ∃ c, s = ⟨⟨[c]⟩⟩ := by
   obtain ⟨⟨l⟩⟩ := s
   match l, h1 with
   | [c], _ => exact ⟨c, rfl⟩
  refine Fun.of (op_name_Operator (by simp) ?_) rfl rfl
  conv => whnf
  conv => whnf
  repeat' ((first | (refine gF ?_; refine CallN.fn (strContains_ok _ _) ?_) | (refine gC ?_; (refine gD ?_; refine cI ?_)) | refine RetP.nrm ?_) <;> conv => whnf)
  all_goals (refine congrArg AV.bool ?_; exact oper_one c)
 ·refine Fun.of (op_name_Operator (by simp) ?_) rfl rfl
  conv => whnf
  conv => whnf
  repeat' ((first | (refine gC ?_; (refine gD ?_; refine cJ ?_)) | refine RetP.nrm ?_) <;> conv => whnf)
  all_goals (refine congrArg AV.bool ?_; exact (oper_no h1).symm)
end Go.CK
namespace Go.CK
open Go.AM Go.Proofs
mutual
def Tm.form : Tm -> Bool
 | .mk k n s l => if k = 0 then decide (-2147483648 ≤ n ∧ n ≤ 2147483648 ∧ s = ⟨⟨[]⟩⟩ ∧ l.length = 0)
  else if k = 1 then decide (0 ≤ n ∧ n ≤ 1048576 ∧ s = ⟨⟨[]⟩⟩ ∧ l.length = 0)
  else if k = 2 then decide (n = 0 ∧ l.length ≤ 6) && ((nameR s || (operB s && decide (l.length = 2))) && Tm.forms l)
  else false
def Tm.forms : List Tm -> Bool
 | [] => true
 | t :: r => t.form && Tm.forms r
end
mutual
def Tm.sz : Tm -> Nat
 | .mk k _ _ l => 1 + (if k = 2 then Tm.szs l else 0)
def Tm.szs : List Tm -> Nat
 | [] => 0
 | t :: r => t.sz + Tm.szs r
end
mutual
def Tm.dep : Tm -> Nat
 | .mk k _ _ l => (if k = 2 then Tm.deps l else 0) + 1
def Tm.deps : List Tm -> Nat
 | [] => 0
 | t :: r => max t.dep (Tm.deps r)
end
def vB (n d : Int) (t : Tm) : Bool := t.form && decide ((t.sz : Int) ≤ n ∧ (t.dep : Int) ≤ d)
def vLB (n d : Int) (l : List Tm) : Bool := Tm.forms l && decide ((Tm.szs l : Int) ≤ n ∧ (Tm.deps l : Int) ≤ d)
theorem szs_snoc : ∀ (l : List Tm) (x : Tm), Tm.szs (l ++ [x]) = Tm.szs l + x.sz
 | [], x => by simp [Tm.szs]
 | y :: l, x => by simp only [List.cons_append, Tm.szs, szs_snoc l x]; omega
theorem forms_snoc : ∀ (l : List Tm) (x : Tm), Tm.forms (l ++ [x]) = (Tm.forms l && x.form)
 | [], x => by simp [Tm.forms]
 | y :: l, x => by simp only [List.cons_append, Tm.forms, forms_snoc l x, Bool.and_assoc]
theorem deps_snoc : ∀ (l : List Tm) (x : Tm), Tm.deps (l ++ [x]) = max (Tm.deps l) x.dep
 | [], x => by simp [Tm.deps]
 | y :: l, x => by simp only [List.cons_append, Tm.deps, deps_snoc l x]; omega
theorem szs_take : ∀ (l : List Tm) {j : Nat} {x : Tm}, l[j]? = some x -> Tm.szs (l.take j) + x.sz ≤ Tm.szs l
 | y :: l, 0, x, h => by simp at h; subst h; simp only [List.take_zero, Tm.szs]; omega
 | y :: l, j + 1, x, h => by
  have := szs_take l (j := j) (x := x) (by simpa using h)
  simp only [List.take_succ_cons, Tm.szs]; omega
 | [], j, x, h => by simp at h
theorem forms_mem : ∀ {l : List Tm} {x : Tm}, Tm.forms l = true -> x ∈ l -> x.form = true
 | y :: l, x, h, hm => by
  simp only [Tm.forms, Bool.and_eq_true] at h; rcases List.mem_cons.1 hm with rfl | hm
  ·exact h.1
  ·exact forms_mem h.2 hm
theorem deps_mem : ∀ {l : List Tm} {x : Tm}, x ∈ l -> x.dep ≤ Tm.deps l
 | y :: l, x, hm => by
  simp only [Tm.deps]; rcases List.mem_cons.1 hm with rfl | hm
  ·omega
  ·have := deps_mem hm; omega
theorem vLB_false {n d : Int} {l : List Tm} {j : Nat} {x : Tm} (hx : l[j]? = some x) (h : vB (n - Tm.szs (l.take j)) d x = false) : vLB n d l = false := by
 rw [Bool.eq_false_iff]; intro hv; unfold vLB at hv; rw [Bool.and_eq_true, decide_eq_true_eq] at hv; obtain ⟨h1, h2, h3⟩ := hv; have hm := List.mem_of_getElem? hx; have h4 := szs_take l hx; have h5 := deps_mem hm; unfold vB at h; rw [forms_mem h1 hm, Bool.true_and, decide_eq_false_iff_not] at h; apply h; omega
theorem vB_true {n d : Int} {t : Tm} (h : vB n d t = true) : t.form = true ∧ (t.sz : Int) ≤ n ∧ (t.dep : Int) ≤ d := by
 unfold vB at h; rw [Bool.and_eq_true, decide_eq_true_eq] at h; exact h
theorem sz_leaf {t : Tm} (h : ¬ t.kind = 2) : t.sz = 1 := by
 obtain ⟨k, i, s, l⟩ := t; simp only [Tm.kind] at h; rw [Tm.sz, if_neg h]
theorem dep_leaf {t : Tm} (h : ¬ t.kind = 2) : t.dep = 1 := by
 obtain ⟨k, i, s, l⟩ := t; simp only [Tm.kind] at h; rw [Tm.dep, if_neg h]
theorem sz_fun {t : Tm} (h : t.kind = 2) : t.sz = 1 + Tm.szs t.args := by
 obtain ⟨k, i, s, l⟩ := t; simp only [Tm.kind] at h; rw [Tm.sz, if_pos h]; rfl
theorem dep_fun {t : Tm} (h : t.kind = 2) : t.dep = Tm.deps t.args + 1 := by
 obtain ⟨k, i, s, l⟩ := t; simp only [Tm.kind] at h; rw [Tm.dep, if_pos h]; rfl
theorem form_0 {t : Tm} (h : t.kind = 0) : t.form = decide (-2147483648 ≤ t.num ∧ t.num ≤ 2147483648 ∧ t.name = ⟨⟨[]⟩⟩ ∧ t.args.length = 0) := by
 obtain ⟨k, i, s, l⟩ := t; simp only [Tm.kind] at h; rw [Tm.form, if_pos h]; rfl
theorem form_1 {t : Tm} (h : t.kind = 1) : t.form = decide (0 ≤ t.num ∧ t.num ≤ 1048576 ∧ t.name = ⟨⟨[]⟩⟩ ∧ t.args.length = 0) := by
 obtain ⟨k, i, s, l⟩ := t; simp only [Tm.kind] at h; rw [Tm.form, if_neg (by omega), if_pos h]; rfl
theorem form_2 {t : Tm} (h : t.kind = 2) : t.form = (decide (t.num = 0 ∧ t.args.length ≤ 6) && ((nameR t.name || (operB t.name && decide (t.args.length = 2))) && Tm.forms t.args)) := by
 obtain ⟨k, i, s, l⟩ := t; simp only [Tm.kind] at h; rw [Tm.form, if_neg (by omega), if_neg (by omega), if_pos h]; rfl
theorem form_3 {t : Tm} (h0 : ¬ t.kind = 0) (h1 : ¬ t.kind = 1) (h2 : ¬ t.kind = 2) : t.form = false := by
 obtain ⟨k, i, s, l⟩ := t; simp only [Tm.kind] at h0 h1 h2; rw [Tm.form, if_neg h0, if_neg h1, if_neg h2]
theorem sz_pos (t : Tm) : 1 ≤ t.sz := by obtain ⟨k, i, s, l⟩ := t; rw [Tm.sz]; omega
theorem dep_pos (t : Tm) : 1 ≤ t.dep := by obtain ⟨k, i, s, l⟩ := t; rw [Tm.dep]; omega
theorem vB_low {n d : Int} {t : Tm} (h : n < 1 ∨ d < 1) : vB n d t = false := by
 have h1 := sz_pos t; have h2 := dep_pos t; unfold vB; rw [decide_eq_false (by omega), Bool.and_false]
theorem vB_leaf {n d : Int} {t : Tm} (h : ¬ t.kind = 2) (hn : 1 ≤ n) (hd : 1 ≤ d) : vB n d t = t.form := by
 unfold vB; rw [sz_leaf h, dep_leaf h, decide_eq_true (by omega), Bool.and_true]
theorem vB_fun {n d : Int} {t : Tm} (h : t.kind = 2) : vB n d t = (decide (t.num = 0 ∧ t.args.length ≤ 6) && ((nameR t.name || (operB t.name && decide (t.args.length = 2))) && vLB (n - 1) (d - 1) t.args)) := by
 unfold vB vLB
 have e : decide ((t.sz : Int) ≤ n ∧ (t.dep : Int) ≤ d) = decide ((Tm.szs t.args : Int) ≤ n - 1 ∧ (Tm.deps t.args : Int) ≤ d - 1) := by
  rw [decide_eq_decide, sz_fun h, dep_fun h]; omega
 rw [form_2 h, e, Bool.and_assoc, Bool.and_assoc]
def vPost (n : Int) (b : Bool) (k : Nat) (r : AV) (bs' : List Box) : Prop := r = .bool b ∧ ∃ m : Int, bs' = [.cells [.int .i64 m]] ∧ (b = true -> m = n - k)
theorem v_false {n d : Int} {t : Tm} {bs : List Box} {m : Int} (hb : bs = [.cells [.int .i64 m]]) (h : vB n d t = false) : vPost n (vB n d t) t.sz (.bool false) bs := ⟨by rw [h], m, hb, by rw [h]; intro e; cases e⟩
theorem v_leaf {n d : Int} {t : Tm} {b : Bool} {bs : List Box} (hk : ¬ t.kind = 2) (hb : bs = [.cells [.int .i64 (n - 1)]]) (h : vB n d t = b) : vPost n (vB n d t) t.sz (.bool b) bs := ⟨by rw [h], n - 1, hb, by rw [sz_leaf hk]; intro _; rfl⟩
set_option maxHeartbeats 1000000 in
set_option maxRecDepth 100000 in
theorem all_of {l : List Tm} {n d : Int} (hn : 0 ≤ n ∧ n ≤ 200) (hd : 0 ≤ d ∧ d ≤ 20) (hl : l.length ≤ 9223372036854775807) (h : ∀ x ∈ l, ∀ n : Int, 0 ≤ n -> n ≤ 200 -> AM.Sem Tryz.prog 153 [.ptr 0 0, x.avw, .int .i64 d] [.cells [.int .i64 n]] (vPost n (vB n d x) x.sz)) : AM.Sem Tryz.prog 102 [.ptr 0 0, .sl .no (l.map Tm.av), .int .i64 d] [.cells [.int .i64 n]] (vPost n (vLB n d l) (Tm.szs l)) := by
 refine op_p_term_budget_all (by simp) ?_
 conv => whnf
 repeat' ((refine gL ?_; refine .map ?_) <;> conv => whnf)
 refine LoopP.by (fb := true) (fun _ (q : Nat × Int) => ⟨[(0, .ptr 0 0), (1, .sl .no (l.map Tm.av)), (2, .int .i64 d), (9, .int .i64 (l.length : Int)), (10, .int .i64 (q.1 : Int))], [.cells [.int .i64 q.2]], 1⟩) (fun q => q.1 ≤ l.length ∧ q.2 = n - Tm.szs (l.take q.1) ∧ 0 ≤ q.2 ∧ vLB n d (l.take q.1) = true) (fun q => l.length - q.1) (0, n) ⟨Nat.zero_le _, by simp [Tm.szs], hn.1, by simp [vLB, Tm.forms, Tm.szs, Tm.deps]; omega⟩ ?_ ?_
 ·exact endz
 ·rintro ⟨j, m⟩ ⟨q1, q2, q3, q4⟩; dsimp only at q1 q2 q3 q4 ⊢
  by_cases hj : j < l.length
  ·obtain ⟨x, hx⟩ : ∃ x, l[j]? = some x := ⟨_, List.getElem?_eq_getElem hj⟩; have htk : l.take (j + 1) = l.take j ++ [x] := by rw [List.take_add_one, hx]; rfl
   have hcall := h x (List.mem_of_getElem? hx) m q3 (by omega)
   conv => whnf
   repeat' ((first | (refine gC ?_; (refine gD ?_; refine cI ?_)) | (refine gI ?_; (refine gT ?_; refine iA ?_))) <;> conv => whnf)
   cases hb : vB m d x with
   | false =>
    rw [hb] at hcall; refine CallN.at [0] hcall rfl rfl ?_ oko ?_
    ·rintro r bs' ⟨rfl, m', rfl, _⟩; exact ⟨rfl, rfl, oko⟩
    rintro r bs' ⟨rfl, m', rfl, _⟩
    conv => whnf
    repeat' ((refine gC ?_; first | refine cN ?_ | refine .not ?_) <;> conv => whnf)
    conv => whnf
    repeat' (refine RetP.nrm ?_ <;> conv => whnf)
    have := vLB_false (n := n) (d := d) hx (by rw [← q2]; exact hb)
    exact ⟨by rw [this], m', rfl, by rw [this]; intro e; cases e⟩
   | true =>
    rw [hb] at hcall; refine CallN.at [0] hcall rfl rfl ?_ oko ?_
    ·rintro r bs' ⟨rfl, m', rfl, _⟩; exact ⟨rfl, rfl, oko⟩
    rintro r bs' ⟨rfl, m', rfl, hm'⟩; have hm' := hm' rfl; obtain ⟨b1, b2, b3⟩ := vB_true hb
    conv => whnf
    repeat' ((first | (refine gC ?_; first | refine cY ?_ | refine .not ?_) | (refine gW ?_; refine wI ?_)) <;> conv => whnf)
    refine ⟨(j + 1, m'), ⟨⟨hj, by show m' = n - Tm.szs (l.take (j + 1)); rw [htk, szs_snoc]; omega, by show 0 ≤ m'; omega, ?_⟩, by show _ - (j + 1) < _ - j; omega⟩, ?_⟩
    ·show vLB n d (l.take (j + 1)) = true; unfold vLB at q4 ⊢; rw [Bool.and_eq_true, decide_eq_true_eq] at q4 ⊢; rw [htk, forms_snoc, szs_snoc, deps_snoc, q4.1, b1]; exact ⟨rfl, by omega, by omega⟩
    exact endz
  ·obtain rfl : j = l.length := by omega
   rw [List.take_of_length_le (Nat.le_refl _)] at q2 q4
   conv => whnf
   repeat' ((refine gC ?_; (refine gD ?_; refine cJ ?_)) <;> conv => whnf)
   conv => whnf
   repeat' (refine RetP.nrm ?_ <;> conv => whnf)
   exact ⟨by rw [q4], m, rfl, fun _ => q2⟩
set_option maxHeartbeats 1000000 in
set_option maxRecDepth 100000 in
theorem valid_ok (t : Tm) : ∀ n d : Int, 0 ≤ n -> n ≤ 200 -> 0 ≤ d -> d ≤ 20 -> AM.Sem Tryz.prog 153 [.ptr 0 0, t.avw, .int .i64 d] [.cells [.int .i64 n]] (vPost n (vB n d t) t.sz) := by
 induction t using Tm.ind_all with
 | h k i s l ih =>
 intro n d hn hn2 hd hd2; generalize ha : Tm.mk k i s l = t; replace ih : ∀ x ∈ t.args, ∀ n d : Int, 0 ≤ n -> n ≤ 200 -> 0 ≤ d -> d ≤ 20 -> AM.Sem Tryz.prog 153 [.ptr 0 0, x.avw, .int .i64 d] [.cells [.int .i64 n]] (vPost n (vB n d x) x.sz) := by subst ha; exact ih
 clear ha; refine Sem.assume fun hg0 _ => ?_; have hg := (good_tm (hg0 t.avw (by simp) rfl)).2.1
 refine op_p_term_budget_valid (by simp) ?_
 by_cases hlow : n < 1 ∨ d < 1
 ·by_cases h1 : n < 1
  ·conv => whnf
   repeat' ((first | (refine gC ?_; first | refine cY ?_ | (refine gD ?_; refine cI ?_)) | (refine gW ?_; refine wI ?_)) <;> conv => whnf)
   refine RetP.lay [some 0] oko ?_
   conv => whnf
   conv => whnf
   repeat' (refine RetP.nrm ?_ <;> conv => whnf)
   exact v_false rfl (vB_low hlow)
  ·have h2 : d < 1 := hlow.resolve_left h1
   conv => whnf
   repeat' ((first | (refine gC ?_; (refine gD ?_; first | refine cI ?_ | refine cJ ?_)) | (refine gW ?_; refine wI ?_)) <;> conv => whnf)
   refine RetP.lay [some 0] oko ?_
   conv => whnf
   conv => whnf
   repeat' (refine RetP.nrm ?_ <;> conv => whnf)
   exact v_false rfl (vB_low hlow)
 ·have h1 : ¬ n < 1 := fun e => hlow (.inl e); have h2 : ¬ d < 1 := fun e => hlow (.inr e)
  by_cases hk2 : t.kind = 2
  ·rw [show vPost n (vB n d t) t.sz = vPost n (decide (t.num = 0 ∧ t.args.length ≤ 6) && ((nameR t.name || (operB t.name && decide (t.args.length = 2))) && vLB (n - 1) (d - 1) t.args)) t.sz by rw [vB_fun hk2]]
   by_cases h3 : t.num = 0 ∧ t.args.length ≤ 6
   rotate_left
   ·rw [decide_eq_false h3, Bool.false_and]
    by_cases h4 : t.num = 0
    ·have h5 : ¬ t.args.length ≤ 6 := fun e => h3 ⟨h4, e⟩
     conv => whnf
     repeat' ((first | (refine gC ?_; first | refine .not ?_ | (refine gD ?_; first | refine cI ?_ | refine cJ ?_)) | (refine gW ?_; refine wI ?_) | (refine gL ?_; refine .map ?_)) <;> conv => whnf)
     refine RetP.lay [some 0] oko ?_
     conv => whnf
     conv => whnf
     repeat' (refine RetP.nrm ?_ <;> conv => whnf)
     exact ⟨rfl, _, rfl, fun e => by cases e⟩
    ·conv => whnf
     repeat' ((first | (refine gC ?_; first | refine cY ?_ | refine .not ?_ | (refine gD ?_; first | refine cI ?_ | refine cJ ?_)) | (refine gW ?_; refine wI ?_)) <;> conv => whnf)
     refine RetP.lay [some 0] oko ?_
     conv => whnf
     conv => whnf
     repeat' (refine RetP.nrm ?_ <;> conv => whnf)
     exact ⟨rfl, _, rfl, fun e => by cases e⟩
   obtain ⟨h4, h5⟩ := h3; rw [decide_eq_true (show t.num = 0 ∧ t.args.length ≤ 6 from ⟨h4, h5⟩), Bool.true_and]; have hro := right_ok t.name; have hoo := oper_ok t.name
   cases hnr : nameR t.name with
   | true =>
    rw [hnr] at hro; rw [Bool.true_or, Bool.true_and]
    conv => whnf
    repeat' ((first | (refine gF ?_; refine CallN.fn (hro) ?_) | (refine gC ?_; first | refine cY ?_ | refine cN ?_ | refine .not ?_ | (refine gD ?_; first | refine cI ?_ | refine cJ ?_)) | (refine gW ?_; refine wI ?_) | (refine gL ?_; refine .map ?_)) <;> conv => whnf)
    refine CallN.at [0] (all_of (l := t.args) (n := n - 1) (d := d - 1) ⟨by omega, by omega⟩ ⟨by omega, by omega⟩ hg fun x hx m hm hm2 => ih x hx m (d - 1) hm hm2 (by omega) (by omega)) rfl rfl ?_ oko ?_
    ·rintro r bs' ⟨rfl, m', rfl, _⟩; exact ⟨rfl, rfl, oko⟩
    rintro r bs' ⟨rfl, m', rfl, hm'⟩
    conv => whnf
    skip; refine RetP.lay [some 0] oko ?_
    conv => whnf
    conv => whnf
    repeat' (refine RetP.nrm ?_ <;> conv => whnf)
    exact ⟨rfl, m', rfl, fun e => by rw [hm' e, sz_fun hk2]; omega⟩
   | false =>
    rw [hnr] at hro; rw [Bool.false_or]
    cases hop : operB t.name with
    | false =>
     rw [hop] at hoo; rw [Bool.false_and, Bool.false_and]
     conv => whnf
     repeat' ((first | (refine gF ?_; first | refine CallN.fn (hro) ?_ | refine CallN.fn (hoo) ?_) | (refine gC ?_; first | refine cN ?_ | refine .not ?_ | (refine gD ?_; first | refine cI ?_ | refine cJ ?_)) | (refine gW ?_; refine wI ?_) | (refine gL ?_; refine .map ?_)) <;> conv => whnf)
     refine RetP.lay [some 0] oko ?_
     conv => whnf
     conv => whnf
     repeat' (refine RetP.nrm ?_ <;> conv => whnf)
     exact ⟨rfl, _, rfl, fun e => by cases e⟩
    | true =>
     rw [hop] at hoo; rw [Bool.true_and]
     by_cases h6 : t.args.length = 2
     ·rw [decide_eq_true h6, Bool.true_and]
      conv => whnf
      repeat' ((first | (refine gF ?_; first | refine CallN.fn (hro) ?_ | refine CallN.fn (hoo) ?_) | (refine gC ?_; first | refine cY ?_ | refine cN ?_ | refine .not ?_ | (refine gD ?_; first | refine cI ?_ | refine cJ ?_)) | (refine gW ?_; refine wI ?_) | (refine gL ?_; refine .map ?_)) <;> conv => whnf)
      refine CallN.at [0] (all_of (l := t.args) (n := n - 1) (d := d - 1) ⟨by omega, by omega⟩ ⟨by omega, by omega⟩ hg fun x hx m hm hm2 => ih x hx m (d - 1) hm hm2 (by omega) (by omega)) rfl rfl ?_ oko ?_
      ·rintro r bs' ⟨rfl, m', rfl, _⟩; exact ⟨rfl, rfl, oko⟩
      rintro r bs' ⟨rfl, m', rfl, hm'⟩
      conv => whnf
      skip; refine RetP.lay [some 0] oko ?_
      conv => whnf
      conv => whnf
      repeat' (refine RetP.nrm ?_ <;> conv => whnf)
      exact ⟨rfl, m', rfl, fun e => by rw [hm' e, sz_fun hk2]; omega⟩
     ·rw [decide_eq_false h6, Bool.false_and]
      conv => whnf
      repeat' ((first | (refine gF ?_; first | refine CallN.fn (hro) ?_ | refine CallN.fn (hoo) ?_) | (refine gC ?_; first | refine cY ?_ | refine cN ?_ | refine .not ?_ | (refine gD ?_; first | refine cI ?_ | refine cJ ?_)) | (refine gW ?_; refine wI ?_) | (refine gL ?_; refine .map ?_)) <;> conv => whnf)
      refine RetP.lay [some 0] oko ?_
      conv => whnf
      conv => whnf
      repeat' (refine RetP.nrm ?_ <;> conv => whnf)
      exact ⟨rfl, _, rfl, fun e => by cases e⟩
  ·by_cases hk0 : t.kind = 0
   ·conv => whnf
    repeat' ((first | (refine gC ?_; first | refine cN ?_ | (refine gD ?_; first | refine cI ?_ | refine cJ ?_) | refine CondN.le (fun hc => ?_) (fun hc => ?_) | refine CondN.dec (fun hc => ?_) (fun hc => ?_)) | (refine gW ?_; refine wI ?_) | (refine gL ?_; refine .map ?_)) <;> conv => whnf)
    all_goals
     refine RetP.lay [some 0] oko ?_
     conv => whnf
     conv => whnf
     repeat' (refine RetP.nrm ?_ <;> conv => whnf)
     refine v_leaf hk2 rfl ?_; rw [vB_leaf hk2 (by omega) (by omega), form_0 hk0]
     first
      | (rw [decide_eq_decide]; exact ⟨fun h => by omega, fun h => ⟨by omega, by omega, by assumption, by omega⟩⟩)
      | (rw [decide_eq_false_iff_not]; rintro ⟨e1, e2, e3, e4⟩; first | omega | contradiction)
      | (rw [decide_eq_true_iff]; exact ⟨by omega, by omega, by assumption, by omega⟩)
   ·by_cases hk1 : t.kind = 1
    ·conv => whnf
     repeat' ((first | (refine gC ?_; first | refine cN ?_ | (refine gD ?_; first | refine cI ?_ | refine cJ ?_) | refine CondN.le (fun hc => ?_) (fun hc => ?_) | refine CondN.dec (fun hc => ?_) (fun hc => ?_)) | (refine gW ?_; refine wI ?_) | (refine gL ?_; refine .map ?_)) <;> conv => whnf)
     all_goals
      refine RetP.lay [some 0] oko ?_
      conv => whnf
      conv => whnf
      repeat' (refine RetP.nrm ?_ <;> conv => whnf)
      refine v_leaf hk2 rfl ?_; rw [vB_leaf hk2 (by omega) (by omega), form_1 hk1]
      first
       | (rw [decide_eq_decide]; exact ⟨fun h => by omega, fun h => ⟨by omega, by omega, by assumption, by omega⟩⟩)
       | (rw [decide_eq_false_iff_not]; rintro ⟨e1, e2, e3, e4⟩; first | omega | contradiction)
       | (rw [decide_eq_true_iff]; exact ⟨by omega, by omega, by assumption, by omega⟩)
    ·conv => whnf
     repeat' ((first | (refine gC ?_; (refine gD ?_; refine cJ ?_)) | (refine gW ?_; refine wI ?_)) <;> conv => whnf)
     refine RetP.lay [some 0] oko ?_
     conv => whnf
     conv => whnf
     repeat' (refine RetP.nrm ?_ <;> conv => whnf)
     exact v_false rfl (by rw [vB_leaf hk2 (by omega) (by omega), form_3 hk0 hk1 hk2])
end Go.CK
namespace Go.CK
open Go.AM Go.Proofs
structure Bnd where
 v : Int
 t : Tm
def Bnd.av (x : Bnd) : AV := .agg [.int .i64 x.v, .int .i64 x.t.kind, .int .i64 x.t.num, .str x.t.name, .sl .no (x.t.args.map Tm.av)]
open Go.AM Go.Proofs
end Go.CK
namespace Go.CK
open Go.AM Go.Proofs
open Go.AM Go.Proofs
theorem budAll_ok {l : List Tm} (hl : l.length ≤ 9223372036854775807) : AM.Sem Tryz.prog 102 [.ptr 0 0, .sl .no (l.map Tm.av), .int .i64 20] [.cells [.int .i64 200]] (vPost 200 (vLB 200 20 l) (Tm.szs l)) := all_of ⟨by decide, by decide⟩ ⟨by decide, by decide⟩ hl fun x _ n h1 h2 => valid_ok x n 20 h1 h2 (by decide) (by decide)
def At.right (x : At) : Bool := nameR x.name && (decide (x.args.length ≤ 6) && vLB 200 20 x.args)
set_option maxRecDepth 100000 in
theorem RightAtom_ok (x : At) (hl : x.args.length ≤ 9223372036854775807) : Fun Tryz.prog 49 [x.av] (.bool x.right) := by
 have hn := right_ok x.name; unfold At.right
 cases h1 : nameR x.name with
 | false =>
  rw [h1] at hn; refine Fun.of (op_term_RightAtom (by simp) ?_) rfl rfl
  conv => whnf
  conv => whnf
  repeat' ((first | (refine gF ?_; refine CallN.fn (hn) ?_) | (refine gC ?_; refine cN ?_) | refine RetP.nrm ?_) <;> conv => whnf)
  rfl
 | true =>
 rw [h1] at hn
 by_cases h6 : x.args.length ≤ 6
 ·rw [decide_eq_true h6]; refine Fun.of (op_term_RightAtom (by simp) ?_) rfl rfl
  conv => whnf
  conv => whnf
  repeat' ((first | (refine gF ?_; refine CallN.fn (hn) ?_) | (refine gC ?_; first | refine cY ?_ | (refine gD ?_; refine cI ?_)) | (refine gL ?_; refine .map ?_)) <;> conv => whnf)
  refine CallN.at [1] (budAll_ok hl) rfl rfl ?_ oko ?_
  ·rintro r bs' ⟨rfl, m', rfl, _⟩; exact ⟨rfl, rfl, oko⟩
  rintro r bs' ⟨rfl, m', rfl, hm'⟩
  conv => whnf
  repeat' ((refine gC ?_; (refine gD ?_; refine cI ?_)) <;> conv => whnf)
  conv => whnf
  repeat' (refine RetP.nrm ?_ <;> conv => whnf)
  rfl
 ·rw [decide_eq_false h6]; refine Fun.of (op_term_RightAtom (by simp) ?_) rfl rfl
  conv => whnf
  conv => whnf
  repeat' ((first | (refine gF ?_; refine CallN.fn (hn) ?_) | (refine gC ?_; first | refine cY ?_ | (refine gD ?_; refine cJ ?_)) | (refine gL ?_; refine .map ?_) | refine RetP.nrm ?_) <;> conv => whnf)
  rfl
end Go.CK
namespace Go.CK
open Go.AM Go.Proofs
variable {vals : List AV} {bs : List Box} {Q : AV -> List Box -> Prop}
def rc_store_Right : RC :=
 (.seq
 (.reg false [0] [
 oQ 2 (.mov (.c (.bool false)))])
 (.seq
 (.seq
 (.reg false [0, 8] [
 qM 6 0, oQ 7 (.len false (.t 6)), oQ 8 (.bin .gtr (.t 7) (.c (.int .i64 500)))])
 (.cond (.t 8)
 (.seq
 (.reg false [2] [
 oQ 2 (.mov (.c (.bool false)))])
 .ret)
 .skip))
 (.seq
 (.reg false [0, 3] [
 oQ 3 (.mov (.c (.int .i64 0)))])
 (.seq
 (.seq
 (.reg false [3, 9, 10, 11] [
 qM 9 0, oQ 10 (.len false (.t 9)), oQ 11 (.mov (.c (.int .i64 0)))])
 (.block 0
 (.loop
 (.seq
 (.reg false [3, 9, 10, 11, 12] [
 oQ 12 (.bin .lss (.t 11) (.t 10))])
 (.seq
 (.cond (.t 12)
 .skip
 (.exit 0))
 (.seq
 (.block 1
 (.seq
 (.reg false [3, 5, 9, 10, 11] [
 qI 13 3 9 11, qA 14 3 13, oQ 5 (.box (.c (.agg [(.int .i64 0), (.str ⟨⟨[]⟩⟩), (.sl .full [])]))), oN (.store 3 (.t 5) (.t 14))])
 (.seq
 (.seq
 (.reg false [5, 9, 10, 11, 24] [
 qF 15 0 5, qL 16 15, qM 17 3, oQ 18 (.bin .leq (.t 16) (.t 17)), qM 19 18, oG 20 19 false (.fptr 1 (.t 5)), oG 21 19 false (.load true 2 (.t 20)), oG 22 19 false (.call (.c (.fn (.func 49) [] [])) [(.t 21)]), oG 23 19 false (.un .not (.t 22)), oQ 24 (.pick (.t 19) (.c (.bool true)) (.t 23))])
 (.cond (.t 24)
 (.seq
 (.reg false [2] [
 oQ 2 (.mov (.c (.bool false)))])
 .ret)
 .skip))
 (.reg false [3, 9, 10, 11] [
 qF 25 0 5, qL 26 25, qM 3 26]))))
 (.reg false [3, 9, 10, 11] [
 oQ 27 (.bin .add (.t 11) (.c (.int .i64 1))), qM 11 27])))))))
 (.seq
 (.reg false [2] [
 oQ 2 (.mov (.c (.bool true)))])
 .ret)))))
theorem op_store_Right (hn : vals.length ≤ 28) (h : SP Tryz.prog true vals bs rc_store_Right [.slot 2] Q) : AM.Sem Tryz.prog 40 vals bs Q :=
 Sem.nrm (Sem.of (fn := Tryz.f40) (keeps := [(0, [0]), (1, [0, 8]), (2, [2]), (3, [0, 3]), (4, [3, 9, 10, 11]), (5, [3, 9, 10, 11, 12]), (6, [3, 5, 9, 10, 11]), (7, [5, 9, 10, 11, 24]), (8, [2]), (9, [3, 9, 10, 11]), (10, [3, 9, 10, 11]), (11, [2])]) (solo := []) Tryz.func40 rfl (by kernel_rfl) (by kernel_rfl) (by kernel_rfl) hn (run_gp h))
end Go.CK
namespace Go.CK
end Go.CK
namespace Go.CK
end Go.CK
namespace Go.CK
end Go.CK
namespace Go.CK
end Go.CK
namespace Go.CK
open Go.AM Go.Proofs
variable {vals : List AV} {bs : List Box} {Q : AV -> List Box -> Prop}
def rc_index_New : RC :=
 (.seq
 (.reg false [0, 1] [
 oQ 4 (.mov (.c .nptr)), oQ 5 (.mov (.c (.int .i64 0)))])
 (.seq
 (.seq
 (.reg false [0, 1, 17] [
 qM 11 0, oQ 12 (.call (.c (.fn (.func 40) [] [])) [(.t 11)]), oQ 13 (.un .not (.t 12)), qM 14 13, oG 15 14 false (.mov (.t 1)), oG 16 14 false (.call (.c (.fn (.func 41) [] [])) [(.t 15), (.c (.fn (.func 42) [] []))]), oQ 17 (.pick (.t 14) (.c (.bool true)) (.t 16))])
 (.cond (.t 17)
 (.seq
 (.reg false [4, 5] [
 oQ 4 (.mov (.c .nptr)), oQ 5 (.mov (.c (.int .i64 2)))])
 .ret)
 .skip))
 (.seq
 (.reg false [0, 1, 6] [
 oQ 18 (.build [(.sl .full []), (.sl .full []), (.sl .full [])] []), oQ 19 (.box (.t 18)), qM 6 19])
 (.seq
 (.seq
 (.reg false [0, 6, 20, 21, 22] [
 qM 20 1, oQ 21 (.len false (.t 20)), oQ 22 (.mov (.c (.int .i64 0)))])
 (.block 0
 (.loop
 (.seq
 (.reg false [0, 6, 20, 21, 22, 23] [
 oQ 23 (.bin .lss (.t 22) (.t 21))])
 (.seq
 (.cond (.t 23)
 .skip
 (.exit 0))
 (.seq
 (.block 1
 (.seq
 (.reg false [0, 6, 8, 20, 21, 22] [
 qI 24 3 20 22, qA 25 3 24, oQ 8 (.box (.c (.agg [(.str ⟨⟨[]⟩⟩), (.int .i64 0), (.sl .full [])]))), oN (.store 3 (.t 8) (.t 25))])
 (.seq
 (.reg false [0, 6, 8, 20, 21, 22] [
 qF 26 2 8, qL 27 26, oQ 28 (.call (.c (.fn (.func 44) [] [])) [(.t 27)]), qF 29 2 8, oN (.store 1 (.t 29) (.t 28))])
 (.seq
 (.mult [0, 6, 20, 21, 22] [
 (0, qM 30 6), (0, qM 31 6), (0, qK 32 31), (0, qF 33 0 32), (0, qL 34 33), (0, qA 35 3 8), (2, oQ 36 (.eff (.bsR 3) [(.t 35)])), (2, oQ 37 (.eff (.appB 3) [(.t 34), (.t 36)])), (0, qK 38 30), (0, qF 39 0 38), (0, oN (.store 1 (.t 39) (.t 37)))])
 (.reg false [0, 6, 20, 21, 22] [
 qM 40 6, qM 41 6, qK 42 41, qF 43 2 42, qL 44 43, oQ 45 (.eff .mkM []), oQ 46 (.eff (.bsR 1) [(.t 45)]), oQ 47 (.eff (.appB 1) [(.t 44), (.t 46)]), qK 48 40, qF 49 2 48, oN (.store 1 (.t 49) (.t 47))])))))
 (.reg false [0, 6, 20, 21, 22] [
 oQ 50 (.bin .add (.t 22) (.c (.int .i64 1))), qM 22 50])))))))
 (.seq
 (.seq
 (.reg false [6, 51, 52, 53] [
 qM 51 0, oQ 52 (.len false (.t 51)), oQ 53 (.mov (.c (.int .i64 0)))])
 (.block 2
 (.loop
 (.seq
 (.reg false [6, 51, 52, 53, 54] [
 oQ 54 (.bin .lss (.t 53) (.t 52))])
 (.seq
 (.cond (.t 54)
 .skip
 (.exit 2))
 (.seq
 (.block 3
 (.seq
 (.reg false [6, 10, 51, 52, 53] [
 qI 55 3 51 53, qA 56 3 55, oQ 10 (.box (.c (.agg [(.int .i64 0), (.str ⟨⟨[]⟩⟩), (.sl .full [])]))), oN (.store 3 (.t 10) (.t 56))])
 (.mult [6, 51, 52, 53] [
 (0, qM 57 6), (0, qM 58 6), (0, qK 59 58), (0, qF 60 1 59), (0, qL 61 60), (0, qA 62 3 10), (0, oQ 63 (.call (.c (.fn (.func 45) [] [])) [(.t 62)])), (2, oQ 64 (.eff (.bsR 3) [(.t 63)])), (2, oQ 65 (.eff (.appB 3) [(.t 61), (.t 64)])), (0, qK 66 57), (0, qF 67 1 66), (0, oN (.store 1 (.t 67) (.t 65)))])))
 (.reg false [6, 51, 52, 53] [
 oQ 68 (.bin .add (.t 53) (.c (.int .i64 1))), qM 53 68])))))))
 (.seq
 (.reg false [6] [
 qM 69 6, oQ 70 (.call (.c (.fn (.func 46) [] [])) [(.t 69)])])
 (.seq
 (.reg false [4, 5] [
 qM 71 6, qM 4 71, oQ 5 (.mov (.c (.int .i64 0)))])
 .ret)))))))
def rc_index_right : RC :=
 (.seq
 (.reg false [1] [
 oQ 1 (.box (.t 0)), oQ 2 (.mov (.c (.bool false)))])
 (.seq
 (.seq
 (.reg false [1, 19] [
 qF 6 0 1, qL 7 6, oQ 8 (.call (.c (.fn (.func 95) [] [])) [(.t 7)]), oQ 9 (.un .not (.t 8)), qM 10 9, oG 11 10 false (.fptr 1 (.t 1)), oG 12 10 false (.load false 1 (.t 11)), oG 13 10 false (.bin .lss (.t 12) (.c (.int .i64 0))), oQ 14 (.pick (.t 10) (.c (.bool true)) (.t 13)), qM 15 14, oG 16 15 false (.fptr 1 (.t 1)), oG 17 15 false (.load false 1 (.t 16)), oG 18 15 false (.bin .gtr (.t 17) (.c (.int .i64 6))), oQ 19 (.pick (.t 15) (.c (.bool true)) (.t 18))])
 (.cond (.t 19)
 (.seq
 (.reg false [2] [
 oQ 2 (.mov (.c (.bool false)))])
 .ret)
 .skip))
 (.seq
 (.reg false [1, 3] [
 oQ 3 (.mov (.c (.int .i64 (-1))))])
 (.seq
 (.seq
 (.reg false [1, 3, 21, 22, 23] [
 qF 20 2 1, qL 21 20, oQ 22 (.len false (.t 21)), oQ 23 (.mov (.c (.int .i64 0)))])
 (.block 0
 (.loop
 (.seq
 (.reg false [1, 3, 21, 22, 23, 24] [
 oQ 24 (.bin .lss (.t 23) (.t 22))])
 (.seq
 (.cond (.t 24)
 .skip
 (.exit 0))
 (.seq
 (.block 1
 (.seq
 (.reg false [1, 3, 5, 21, 22, 23] [
 qI 25 1 21 23, qL 26 25, qM 5 26])
 (.seq
 (.seq
 (.reg false [1, 5, 21, 22, 23, 35] [
 qM 27 5, qM 28 3, oQ 29 (.bin .leq (.t 27) (.t 28)), qM 30 29, oG 31 30 false (.mov (.t 5)), oG 32 30 false (.fptr 1 (.t 1)), oG 33 30 false (.load false 1 (.t 32)), oG 34 30 false (.bin .geq (.t 31) (.t 33)), oQ 35 (.pick (.t 30) (.c (.bool true)) (.t 34))])
 (.cond (.t 35)
 (.seq
 (.reg false [2] [
 oQ 2 (.mov (.c (.bool false)))])
 .ret)
 .skip))
 (.reg false [1, 3, 21, 22, 23] [
 qM 36 5, qM 3 36]))))
 (.reg false [1, 3, 21, 22, 23] [
 oQ 37 (.bin .add (.t 23) (.c (.int .i64 1))), qM 23 37])))))))
 (.seq
 (.reg false [2] [
 oQ 2 (.mov (.c (.bool true)))])
 .ret)))))
theorem op_index_right (hn : vals.length ≤ 38) (h : SP Tryz.prog true vals bs rc_index_right [.slot 2] Q) : AM.Sem Tryz.prog 43 vals bs Q :=
 Sem.nrm (Sem.of (fn := Tryz.f43) (keeps := [(0, [1]), (1, [1, 19]), (2, [2]), (3, [1, 3]), (4, [1, 3, 21, 22, 23]), (5, [1, 3, 21, 22, 23, 24]), (6, [1, 3, 5, 21, 22, 23]), (7, [1, 5, 21, 22, 23, 35]), (8, [2]), (9, [1, 3, 21, 22, 23]), (10, [1, 3, 21, 22, 23]), (11, [2])]) (solo := []) Tryz.func43 rfl (by kernel_rfl) (by kernel_rfl) (by kernel_rfl) hn (run_gp h))
def rc_index_New_1 : RC :=
 (.seq
 (.reg false [1] [
 oQ 1 (.box (.t 0)), oQ 2 (.mov (.c (.bool false)))])
 (.seq
 (.reg false [2] [
 qA 3 3 1, oQ 4 (.call (.c (.fn (.func 43) [] [])) [(.t 3)]), oQ 5 (.un .not (.t 4)), qM 2 5])
 .ret))
theorem op_index_New_1 (hn : vals.length ≤ 6) (h : SP Tryz.prog true vals bs rc_index_New_1 [.slot 2] Q) : AM.Sem Tryz.prog 42 vals bs Q :=
 Sem.nrm (Sem.of (fn := Tryz.f42) (keeps := [(0, [1]), (1, [2])]) (solo := []) Tryz.func42 rfl (by kernel_rfl) (by kernel_rfl) (by kernel_rfl) hn (run_gp h))
def rc_slices_ContainsFunc_api_Access_api_Access : RC :=
 (.seq
 (.reg false [0, 1] [
 oQ 4 (.mov (.c (.bool false)))])
 (.seq
 (.reg false [4] [
 qM 5 0, qM 6 1, oQ 7 (.call (.c (.fn (.func 94) [] [])) [(.t 5), (.t 6)]), oQ 8 (.bin .geq (.t 7) (.c (.int .i64 0))), qM 4 8])
 .ret))
theorem op_slices_ContainsFunc_api_Access_api_Access (hn : vals.length ≤ 9) (h : SP Tryz.prog true vals bs rc_slices_ContainsFunc_api_Access_api_Access [.slot 4] Q) : AM.Sem Tryz.prog 41 vals bs Q :=
 Sem.nrm (Sem.of (fn := Tryz.f41) (keeps := [(0, [0, 1]), (1, [4])]) (solo := []) Tryz.func41 rfl (by kernel_rfl) (by kernel_rfl) (by kernel_rfl) hn (run_gp h))
def rc_slices_Clone_int_int : RC :=
 (.seq
 (.reg false [0] [
 oQ 2 (.mov (.c (.sl .full [])))])
 (.seq
 (.seq
 (.reg false [0, 4] [
 qM 3 0, oQ 4 (.eff (.nilS false) [(.t 3)])])
 (.cond (.t 4)
 (.seq
 (.reg false [2] [
 oQ 2 (.mov (.c (.sl .full [])))])
 .ret)
 .skip))
 (.seq
 (.reg false [2] [
 oQ 5 (.bslice 1 []), qM 6 0, oQ 7 (.append 1 (.t 5) (.t 6)), qM 2 7])
 .ret)))
theorem op_slices_Clone_int_int (hn : vals.length ≤ 8) (h : SP Tryz.prog true vals bs rc_slices_Clone_int_int [.slot 2] Q) : AM.Sem Tryz.prog 44 vals bs Q :=
 Sem.nrm (Sem.of (fn := Tryz.f44) (keeps := [(0, [0]), (1, [0, 4]), (2, [2]), (3, [2])]) (solo := []) Tryz.func44 rfl (by kernel_rfl) (by kernel_rfl) (by kernel_rfl) hn (run_gp h))
def rc_p_index_Index_rebuild : RC :=
 (.seq
 (.seq
 (.reg false [0, 9, 10, 11] [
 qM 6 0, qK 7 6, qF 8 2 7, qL 9 8, oQ 10 (.len false (.t 9)), oQ 11 (.mov (.c (.int .i64 0)))])
 (.block 0
 (.loop
 (.seq
 (.reg false [0, 9, 10, 11, 12] [
 oQ 12 (.bin .lss (.t 11) (.t 10))])
 (.seq
 (.cond (.t 12)
 .skip
 (.exit 0))
 (.seq
 (.block 1
 (.seq
 (.reg false [0, 3, 9, 10, 11] [
 qI 13 1 9 11, qL 14 13, qM 3 14])
 (.reg false [0, 9, 10, 11] [
 qM 15 3, oN (.eff (.tab .clr) [(.t 15)])])))
 (.reg false [0, 9, 10, 11] [
 oQ 16 (.bin .add (.t 11) (.c (.int .i64 1))), qM 11 16])))))))
 (.seq
 (.reg false [0, 20, 21, 22] [
 qM 17 0, qK 18 17, qF 19 1 18, qL 20 19, oQ 21 (.len false (.t 20)), oQ 22 (.mov (.c (.int .i64 0)))])
 (.block 2
 (.loop
 (.seq
 (.reg false [0, 20, 21, 22, 23] [
 oQ 23 (.bin .lss (.t 22) (.t 21))])
 (.seq
 (.cond (.t 23)
 .skip
 (.exit 2))
 (.seq
 (.block 3
 (.seq
 (.reg false [0, 5, 20, 21, 22] [
 qI 24 3 20 22, qA 25 3 24, oQ 5 (.box (.c (.agg [(.int .i64 0), (.str ⟨⟨[]⟩⟩), (.sl .full [])]))), oN (.store 3 (.t 5) (.t 25))])
 (.reg false [0, 20, 21, 22] [
 qM 26 0, qA 27 3 5, oQ 28 (.call (.c (.fn (.func 51) [] [])) [(.t 26), (.t 27)])])))
 (.reg false [0, 20, 21, 22] [
 oQ 29 (.bin .add (.t 22) (.c (.int .i64 1))), qM 22 29]))))))))
theorem opS_index_New (hn : vals.length ≤ 72) (h : SP Tryz.prog false vals bs rc_index_New [.slot 4, .slot 5] Q) : AM.Sem Tryz.prog 11 vals bs Q :=
 Sem.nrm (Sem.of (fn := Tryz.f11) (keeps := [(0, [0, 1]), (1, [0, 1, 17]), (2, [4, 5]), (3, [0, 1, 6]), (4, [0, 6, 20, 21, 22]), (5, [0, 6, 20, 21, 22, 23]), (6, [0, 6, 8, 20, 21, 22]), (7, [0, 6, 8, 20, 21, 22]), (8, [0, 6, 20, 21, 22]), (9, [0, 6, 20, 21, 22]), (10, [0, 6, 20, 21, 22]), (11, [6, 51, 52, 53]), (12, [6, 51, 52, 53, 54]), (13, [6, 10, 51, 52, 53]), (14, [6, 51, 52, 53]), (15, [6, 51, 52, 53]), (16, [6]), (17, [4, 5]), (1000000, [36, 37, 46, 47, 64, 65]), (2000008, [0, 1, 2, 3, 4, 5, 6, 7, 8, 9, 10]), (3000008, [0, 0, 0, 0, 0, 0, 2, 2, 0, 0, 0]), (2000014, [0, 1, 2, 3, 4, 5, 6, 7, 8, 9, 10, 11]), (3000014, [0, 0, 0, 0, 0, 0, 0, 2, 2, 0, 0, 0])]) (solo := []) Tryz.func11 rfl (by kernel_rfl) (by kernel_rfl) (by kernel_rfl) hn (run_gp h))
theorem opS_p_index_Index_rebuild (hn : vals.length ≤ 30) (h : SP Tryz.prog false vals bs rc_p_index_Index_rebuild [] Q) : AM.Sem Tryz.prog 46 vals bs Q :=
 Sem.nrm (Sem.of (fn := Tryz.f46) (keeps := [(0, [0, 9, 10, 11]), (1, [0, 9, 10, 11, 12]), (2, [0, 3, 9, 10, 11]), (3, [0, 9, 10, 11]), (4, [0, 9, 10, 11]), (5, [0, 20, 21, 22]), (6, [0, 20, 21, 22, 23]), (7, [0, 5, 20, 21, 22]), (8, [0, 20, 21, 22]), (9, [0, 20, 21, 22])]) (solo := []) Tryz.func46 rfl (by kernel_rfl) (by kernel_rfl) (by kernel_rfl) hn (run_gp h))
end Go.CK
namespace Go.CK
open Go.AM Go.Proofs
def posB (n : Int) : Int -> List Int -> Bool
 | _, [] => true
 | last, p :: l => decide (last < p) && (decide (p < n) && posB n p l)
def Ac.right (a : Ac) : Bool := nameR a.name && (decide (0 ≤ a.arity) && (decide (a.arity ≤ 6) && posB a.arity (-1) a.positions))
def lastP (l : List Int) (j : Nat) : Int := match j with
 | 0 => -1
 | j + 1 => l.getD j 0
set_option maxRecDepth 100000 in
theorem acRight_ok {a : Ac} (hl : a.positions.length ≤ 10000000) : Fun Tryz.prog 43 [a.av] (.bool a.right) := by
 have hn := right_ok a.name; unfold Ac.right
 cases hb : nameR a.name with
 | false =>
  rw [hb] at hn; refine Fun.of (op_index_right (by simp) ?_) rfl rfl
  conv => whnf
  conv => whnf
  repeat' ((first | (refine gF ?_; refine CallN.fn (hn) ?_) | (refine gC ?_; first | refine cY ?_ | refine cN ?_ | refine .not ?_) | refine RetP.nrm ?_) <;> conv => whnf)
  rfl
 | true =>
  rw [hb] at hn
  by_cases h0 : 0 ≤ a.arity
  ·rw [decide_eq_true h0]
   by_cases h6 : a.arity ≤ 6
   ·rw [decide_eq_true h6]; refine Fun.of (op_index_right (by simp) ?_) rfl rfl
    conv => whnf
    conv => whnf
    repeat' ((first | (refine gF ?_; refine CallN.fn (hn) ?_) | (refine gC ?_; first | refine cY ?_ | refine .not ?_ | (refine gD ?_; refine cJ ?_)) | (refine gL ?_; refine .map ?_)) <;> conv => whnf)
    refine LoopP.count (fb := true) (a.positions.length) (fun st_ j => st_.sets [(3, .int .i64 (lastP a.positions j)), (23, .int .i64 j)]) (fun j => posB a.arity (-1) a.positions = posB a.arity (lastP a.positions j) (a.positions.drop j)) ?_ ?_ (fun j hj hij => ?_) (fun hij => ?_)
    ·rfl
    ·refine EndN.at_ ?_ rfl
     conv => whnf
     refine And.intro ?_ ?_ <;> conv => whnf
     all_goals repeat' ((first | (refine gV ?_; first | refine vE ?_ | refine vI ?_ | (refine WkN.norm ?_ ?_; (focus (simp [AV.norm, AV.norm1, lastP]; done)))) | (refine gX ?_; refine xB ?_) | exact True.intro) <;> conv => whnf)
    ·obtain ⟨y, hy⟩ : ∃ y, a.positions[j]? = some y := ⟨_, List.getElem?_eq_getElem hj⟩; rw [List.drop_eq_getElem_cons hj, (List.getElem?_eq_some_iff.1 hy).2, posB] at hij; have hla : lastP a.positions (j + 1) = y := by simp [lastP, hy]
     generalize lastP a.positions j = la at *
     by_cases h1 : la < y
     ·rw [decide_eq_true h1, Bool.true_and] at hij
      by_cases h2 : y < a.arity
      ·rw [decide_eq_true h2, Bool.true_and] at hij
       conv => whnf
       repeat' ((first | (refine gC ?_; (refine gD ?_; first | refine cI ?_ | refine cJ ?_)) | (refine gW ?_; refine wI ?_) | (refine gI ?_; (refine gM ?_; refine iE ?_))) <;> conv => whnf)
       refine ⟨by rw [hla]; exact hij, ?_⟩
       refine EndN.atC 1 ?_ rfl rfl rfl rfl (by first | rfl | (repeat' (first | rfl | refine bLtRow (row_allI _ _ _) ?_ | refine bLtRow (row_allB _ _ _) ?_ | refine bLtMp ?_ | refine bLtDead ?_ | refine bLtCells rfl ?_)))
       conv => whnf
       refine And.intro ?_ ?_ <;> conv => whnf
       all_goals repeat' ((first | (refine gV ?_; first | refine vE ?_ | refine vI ?_) | (refine gX ?_; refine xB ?_) | exact True.intro) <;> conv => whnf)
      ·rw [decide_eq_false h2, Bool.false_and] at hij; rw [hij]
       conv => whnf
       repeat' ((first | (refine gC ?_; (refine gD ?_; first | refine cI ?_ | refine cJ ?_)) | (refine gI ?_; (refine gM ?_; refine iE ?_)) | refine RetP.nrm ?_) <;> conv => whnf)
       all_goals rfl
     ·rw [decide_eq_false h1, Bool.false_and] at hij; rw [hij]
      conv => whnf
      repeat' ((first | (refine gC ?_; first | refine cY ?_ | (refine gD ?_; refine cI ?_)) | (refine gI ?_; (refine gM ?_; refine iE ?_)) | refine RetP.nrm ?_) <;> conv => whnf)
      all_goals rfl
    ·rw [List.drop_length, posB] at hij; rw [hij]
     conv => whnf
     repeat' ((first | (refine gC ?_; (refine gD ?_; refine cJ ?_)) | refine RetP.nrm ?_) <;> conv => whnf)
     all_goals rfl
   ·rw [decide_eq_false h6]; refine Fun.of (op_index_right (by simp) ?_) rfl rfl
    conv => whnf
    conv => whnf
    repeat' ((first | (refine gF ?_; refine CallN.fn (hn) ?_) | (refine gC ?_; first | refine cY ?_ | refine .not ?_ | (refine gD ?_; first | refine cI ?_ | refine cJ ?_)) | refine RetP.nrm ?_) <;> conv => whnf)
    all_goals rfl
  ·rw [decide_eq_false h0]; refine Fun.of (op_index_right (by simp) ?_) rfl rfl
   conv => whnf
   conv => whnf
   repeat' ((first | (refine gF ?_; refine CallN.fn (hn) ?_) | (refine gC ?_; first | refine cY ?_ | refine .not ?_ | (refine gD ?_; refine cI ?_)) | refine RetP.nrm ?_) <;> conv => whnf)
   all_goals rfl
theorem new1_ok {x : Ac} (hl : x.positions.length ≤ 10000000) : Fun Tryz.prog 42 [x.av] (.bool (!x.right)) := by
 have h := acRight_ok hl; refine Fun.of (op_index_New_1 (by simp) ?_) rfl rfl
 conv => whnf
 conv => whnf
 repeat' ((first | (refine gF ?_; refine CallN.fn (h) ?_) | refine RetP.nrm ?_) <;> conv => whnf)
set_option maxRecDepth 100000 in
theorem indexNew_ok {l : List Ac} (hl : l.length ≤ 10000000) (hp : ∀ a ∈ l, a.positions.length ≤ 10000000) : Fun Tryz.prog 94 [slA Ac.av l, .fn (.func 42) [] []] (.int .i64 (findI (fun x => !x.right) l)) := by
 refine Fun.of (op_slices_IndexFunc_api_Access_api_Access (by simp) ?_) rfl rfl
 conv => whnf
 conv => whnf
 repeat' ((refine gL ?_; refine .map ?_) <;> conv => whnf)
 refine LoopP.count (fb := true) (l.length) (fun st_ j => st_.sets [(8, .int .i64 j)]) (fun j => ∀ i x, i < j -> l[i]? = some x -> (!x.right) = false) ?_ ?_ (fun j hj hij => ?_) (fun hij => ?_)
 ·exact no_zero
 ·exact endz
 ·obtain ⟨y, hy⟩ : ∃ y, l[j]? = some y := ⟨_, List.getElem?_eq_getElem hj⟩; have h1 := new1_ok (x := y) (hp y (List.mem_of_getElem? hy))
  cases hb : (!y.right) with
  | true =>
   rw [hb] at h1
   conv => whnf
   repeat' ((first | (refine gF ?_; refine CallN.fn (h1) ?_) | (refine gC ?_; first | refine cY ?_ | (refine gD ?_; refine cI ?_)) | (refine gI ?_; (refine gM ?_; refine iE ?_)) | (refine gH ?_; refine hB ?_) | refine RetP.nrm ?_) <;> conv => whnf)
   rw [findI_at hij hy hb]
  | false =>
   rw [hb] at h1
   conv => whnf
   repeat' ((first | (refine gF ?_; refine CallN.fn (h1) ?_) | (refine gC ?_; first | refine cN ?_ | (refine gD ?_; refine cI ?_)) | (refine gW ?_; refine wI ?_) | (refine gI ?_; (refine gM ?_; refine iE ?_)) | (refine gH ?_; refine hB ?_)) <;> conv => whnf)
   refine ⟨no_succ hij hy hb, ?_⟩; exact endz
 ·conv => whnf
  repeat' ((first | (refine gC ?_; (refine gD ?_; refine cJ ?_)) | refine RetP.nrm ?_) <;> conv => whnf)
  rw [findI_no hij]
theorem containsNew_ok {l : List Ac} (hl : l.length ≤ 10000000) (hp : ∀ a ∈ l, a.positions.length ≤ 10000000) : Fun Tryz.prog 41 [slA Ac.av l, .fn (.func 42) [] []] (.bool (l.any fun x => !x.right)) := by
 have h := indexNew_ok hl hp; rw [← findI_pos]; refine Fun.of (op_slices_ContainsFunc_api_Access_api_Access (by simp) ?_) rfl rfl
 conv => whnf
 conv => whnf
 repeat' ((first | (refine gF ?_; refine CallN.fn (h) ?_) | refine RetP.nrm ?_) <;> conv => whnf)
theorem cloneI_ok {l : List Int} (hl : l.length ≤ 10000000) : Fun Tryz.prog 44 [slA intA l] (slA intA l) := by
 refine Fun.of (op_slices_Clone_int_int (by simp) ?_) rfl rfl
 conv => whnf
 conv => whnf
 skip; refine NilN.no fun b hb => ?_
 conv => whnf
 repeat' ((first | (refine gC ?_; refine CondN.any (fun hc => ?_) (fun hc => ?_)) | (refine gN ?_; refine nS ?_)) <;> conv => whnf)
 ·have hl0 : l = [] := by simpa using hb (by assumption)
  subst hl0
  conv => whnf
  repeat' (refine RetP.nrm ?_ <;> conv => whnf)
  rfl
 ·conv => whnf
  repeat' (refine RetP.nrm ?_ <;> conv => whnf)
  rfl
end Go.CK
