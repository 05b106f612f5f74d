/-
  WALKS: the package arith and its reference. By an AI agent.
-/
import Derived.Test.YtllcnpfdklbbbaaProg
import Derived.Test.YtllcnpfdklbbbaaArithM
import Derived.BigQuiet
import Derived.StillTailTactics
import Derived.Deep.RegionHeld3
import Derived.KernelRfl
namespace Go.CK
open Go.RowKit Go.Proofs

theorem s_add {s : ByteArray} : s.toList = [43] ↔ s = cAdd := by rw [← toList_inj, show cAdd.toList = [43] from by rw [ByteArray.toList_eq]; rfl]
theorem s_sub {s : ByteArray} : s.toList = [45] ↔ s = cSub := by rw [← toList_inj, show cSub.toList = [45] from by rw [ByteArray.toList_eq]; rfl]
theorem s_mul {s : ByteArray} : s.toList = [42] ↔ s = cMul := by rw [← toList_inj, show cMul.toList = [42] from by rw [ByteArray.toList_eq]; rfl]
theorem s_div {s : ByteArray} : s.toList = [47] ↔ s = cDiv := by rw [← toList_inj, show cDiv.toList = [47] from by rw [ByteArray.toList_eq]; rfl]
theorem s_mod {s : ByteArray} : s.toList = [37] ↔ s = cMod := by rw [← toList_inj, show cMod.toList = [37] from by rw [ByteArray.toList_eq]; rfl]


set_option maxHeartbeats 400000 in
theorem quotient_any (a b : Int) (w : World) (hb : b ≠ 0) (h1 : -2147483648 ≤ a) (h2 : a ≤ 2147483648) :
    Calls Try.prog 55 #[.int .i64 a, .int .i64 b] w fun e w' => e = .returned (.int .i64 (a.fdiv b)) ∧ w = w' := by
  rw [← quo_fdiv a b hb]
  have hq := tdiv_bound b h1 h2
  have q1 := hq.1
  have q2 := hq.2
  clear hq
  have hz : (b == 0) = false := by simpa using hb
  by_cases hm : a.tmod b = 0
  · have hv : quo a b = a.tdiv b := by unfold quo; rw [if_neg (by simp [hm])]
    have Hv := Lib.hid hv; clear hv
    have hm' : (a.tmod b != 0) = false := by simp [hm]
    clear hm
    go_enter Try.func55, Try.ntmps55
    go_wp2_with fail
    go_ret
    exact ⟨by rw [Hv.out]; rfl, rfl⟩
  · have hm' : (a.tmod b != 0) = true := by simp [hm]
    by_cases ha : a < 0
    · by_cases hb0 : b < 0
      · have hv : quo a b = a.tdiv b := by unfold quo; rw [if_neg (by simp [ha, hb0])]
        have Hv := Lib.hid hv; clear hv hm
        go_enter Try.func55, Try.ntmps55
        go_wp2_with fail
        go_ret
        exact ⟨by rw [Hv.out]; rfl, rfl⟩
      · have hv : quo a b = a.tdiv b - 1 := by unfold quo; rw [if_pos (by simp [hm, ha, hb0])]
        have Hv := Lib.hid hv; clear hv hm
        go_enter Try.func55, Try.ntmps55
        go_wp2_with fail
        go_ret
        exact ⟨by rw [Hv.out]; rfl, rfl⟩
    · have hm2 : (a % b != 0) = true := by rw [← Int.tmod_eq_emod_of_nonneg (by omega)]; exact hm'
      by_cases hb0 : b < 0
      · have hv : quo a b = a.tdiv b - 1 := by unfold quo; rw [if_pos (by simp [hm, ha, hb0])]
        have Hv := Lib.hid hv; clear hv hm
        go_enter Try.func55, Try.ntmps55
        go_wp2_with fail
        go_ret
        exact ⟨by rw [Hv.out]; rfl, rfl⟩
      · have hv : quo a b = a.tdiv b := by unfold quo; rw [if_neg (by simp [ha, hb0])]
        have Hv := Lib.hid hv; clear hv hm
        go_enter Try.func55, Try.ntmps55
        go_wp2_with fail
        go_ret
        exact ⟨by rw [Hv.out]; rfl, rfl⟩

/-- 'a - quotient(a, b) * b' -/
theorem rem_any (a b : Int) (w : World) (hb : b ≠ 0) (h1 : -2147483648 ≤ a) (h2 : a ≤ 2147483648) (h3 : -2147483648 ≤ b) (h4 : b ≤ 2147483648) :
    Calls Try.prog 56 #[.int .i64 a, .int .i64 b] w fun e w' => e = .returned (.int .i64 (a - a.fdiv b * b)) ∧ w = w' := by
  have hf := fdiv_bound hb h1 h2
  have hm := mul_bound hf.1 hf.2 h3 h4
  have m1 := hm.1
  have m2 := hm.2
  clear hm hf
  go_enter Try.func56, Try.ntmps56
  go_wp2_with fail
  refine (quotient_any a b _ hb h1 h2).mono ?_
  rintro e w1 ⟨rfl, rfl⟩
  go_wp2_with fail
  go_ret
  exact ⟨rfl, rfl⟩

theorem add_any (a b : Int) (w : World) (h1 : -2147483648 ≤ a) (h2 : a ≤ 2147483648) (h3 : -2147483648 ≤ b) (h4 : b ≤ 2147483648) :
    Calls Try.prog 51 #[.int .i64 a, .int .i64 b] w fun e w' => e = .returned (.tuple #[.int .i64 (a + b), .int .i64 0]) ∧ w = w' := by
  go_enter Try.func51, Try.ntmps51
  go_wp2_with fail
  go_ret2
  exact ⟨rfl, rfl⟩

theorem sub_any (a b : Int) (w : World) (h1 : -2147483648 ≤ a) (h2 : a ≤ 2147483648) (h3 : -2147483648 ≤ b) (h4 : b ≤ 2147483648) :
    Calls Try.prog 52 #[.int .i64 a, .int .i64 b] w fun e w' => e = .returned (.tuple #[.int .i64 (a - b), .int .i64 0]) ∧ w = w' := by
  go_enter Try.func52, Try.ntmps52
  go_wp2_with fail
  go_ret2
  exact ⟨rfl, rfl⟩

theorem mul_any (a b : Int) (w : World) (h1 : -2147483648 ≤ a) (h2 : a ≤ 2147483648) (h3 : -2147483648 ≤ b) (h4 : b ≤ 2147483648) :
    Calls Try.prog 53 #[.int .i64 a, .int .i64 b] w fun e w' => e = .returned (.tuple #[.int .i64 (a * b), .int .i64 0]) ∧ w = w' := by
  have hm := mul_bound h1 h2 h3 h4
  have m1 := hm.1
  have m2 := hm.2
  clear hm
  go_enter Try.func53, Try.ntmps53
  go_wp2_with fail
  go_ret2
  exact ⟨rfl, rfl⟩

/-- a function with a body is entered -/
theorem enters_fn {k : Nat} {fn : Func} (hf : Try.prog.funcs[k]? = some fn) (hn : (fn.name == "runtime.NumGoroutine") = false) (hb : fn.body.isNone = false) :
    ∀ args w, (callFunc k args).run Try.prog w = .ok (.enter k args) w := by
  intro args w
  have h1 : ¬ fn.name = "runtime.NumGoroutine" := by simpa using hn
  have h2 : ¬ fn.body = none := by intro e; rw [e] at hb; cases hb
  simp [callFunc, hf, h1, h2]

/-- a guarded operation: f is the guarded one -/
theorem divided1_any (k : Nat) (g : Int → Int → Int) (a b : Int) (p : Nat) (w : World) (hc : w.cell? ⟨p, 0, none⟩ = some (.func (.func k) #[] #[]))
    (hk : ∀ args w, (callFunc k args).run Try.prog w = .ok (.enter k args) w)
    (hf : b ≠ 0 → Calls Try.prog k #[.int .i64 a, .int .i64 b] w fun e w' => e = .returned (.int .i64 (g a b)) ∧ w = w') :
    Calls Try.prog 57 #[.int .i64 a, .int .i64 b, .pointer (some ⟨p, 0, none⟩)] w fun e w' => e = .returned (.tuple #[.int .i64 (if b = 0 then 0 else g a b), .int .i64 (if b = 0 then 12 else 0)]) ∧ w = w' := by
  by_cases hb : b = 0
  · subst hb
    clear hf
    go_enter Try.func57, Try.ntmps57
    go_wp2_with fail
    go_ret2
    exact ⟨rfl, rfl⟩
  · have hz : (b == 0) = false := by simpa using hb
    have Hf := Lib.hid (hf hb); clear hf
    rw [if_neg hb, if_neg hb]
    clear hb
    go_enter Try.func57, Try.ntmps57
    go_wp2_with fail
    refine Hf.out.mono ?_
    rintro e w1 ⟨rfl, rfl⟩
    go_wp2_with fail
    go_ret2
    exact ⟨rfl, rfl⟩

/-- fv behaves as the operator s -/
def OpFn (w : World) (fv : Value) (s : ByteArray) : Prop := ∃ k cap, fv = .func (.func k) #[] cap ∧ (∀ args w, (callFunc k args).run Try.prog w = .ok (.enter k args) w) ∧ ∀ w1, Ext w w1 → ∀ a b, inR a = true → inR b = true →
  Calls Try.prog k (#[.int .i64 a, .int .i64 b] ++ cap) w1 fun e w2 => e = .returned (.tuple #[.int .i64 (opv s a b).1, .int .i64 (opv s a b).2]) ∧ w1 = w2

def OfPost (s : ByteArray) (w : World) (e : Ending) (w' : World) : Prop := ∃ fv, e = .returned fv ∧ OpFn w' fv s ∧ Ext w w'

theorem divided_any (k : Nat) (w : World) :
    Calls Try.prog 54 #[.func (.func k) #[] #[]] w fun e w' => e = .returned (.func (.func 57) #[] #[.pointer (some ⟨w.heap.size, 0, none⟩)]) ∧ w.alloc (.cells #[.func (.func k) #[] #[]] 73) = w' := by
  go_enter Try.func54, Try.ntmps54
  go_wp2_with fail
  go_ret
  exact ⟨rfl, rfl⟩

theorem of_any (s : ByteArray) (w : World) (hs : isOp s = true) :
    Calls Try.prog 43 #[.string s] w (OfPost s w) := by
  by_cases h1 : s = cAdd
  · have h := s_add.2 h1
    have H := Lib.hid h1; clear h1 hs
    go_enter Try.func43, Try.ntmps43
    go_wp2_with fail
    go_ret
    refine ⟨_, rfl, ⟨51, #[], rfl, enters_fn Try.func51 (by kernel_rfl) rfl, ?_⟩, Ext.refl _⟩
    intro w1 hx a b ha hb
    have ha := inR_iff.1 ha
    have hb := inR_iff.1 hb
    rw [show opv s a b = (a + b, 0) from by rw [opv, if_pos H.out]]
    exact add_any a b w1 ha.1 ha.2 hb.1 hb.2
  have n1 : ¬ s.toList = [43] := fun e => h1 (s_add.1 e)
  by_cases h2 : s = cSub
  · have h := s_sub.2 h2
    have H1 := Lib.hid h1
    have H := Lib.hid h2; clear h2 hs h1 n1
    go_enter Try.func43, Try.ntmps43
    go_wp2_with fail
    go_ret
    refine ⟨_, rfl, ⟨52, #[], rfl, enters_fn Try.func52 (by kernel_rfl) rfl, ?_⟩, Ext.refl _⟩
    intro w1 hx a b ha hb
    have ha := inR_iff.1 ha
    have hb := inR_iff.1 hb
    rw [show opv s a b = (a - b, 0) from by rw [opv, if_neg H1.out, if_pos H.out]]
    exact sub_any a b w1 ha.1 ha.2 hb.1 hb.2
  have n2 : ¬ s.toList = [45] := fun e => h2 (s_sub.1 e)
  by_cases h3 : s = cMul
  · have h := s_mul.2 h3
    have H1 := Lib.hid h1
    have H2 := Lib.hid h2
    have H := Lib.hid h3; clear h3 h2 hs h1 n1 n2
    go_enter Try.func43, Try.ntmps43
    go_wp2_with fail
    go_ret
    refine ⟨_, rfl, ⟨53, #[], rfl, enters_fn Try.func53 (by kernel_rfl) rfl, ?_⟩, Ext.refl _⟩
    intro w1 hx a b ha hb
    have ha := inR_iff.1 ha
    have hb := inR_iff.1 hb
    rw [show opv s a b = (a * b, 0) from by rw [opv, if_neg H1.out, if_neg H2.out, if_pos H.out]]
    exact mul_any a b w1 ha.1 ha.2 hb.1 hb.2
  have n3 : ¬ s.toList = [42] := fun e => h3 (s_mul.1 e)
  by_cases h4 : s = cDiv
  · have h := s_div.2 h4
    have H1 := Lib.hid h1
    have H2 := Lib.hid h2
    have H3 := Lib.hid h3
    have H := Lib.hid h4; clear h4 h3 h2 hs h1 n1 n2 n3
    go_enter Try.func43, Try.ntmps43
    go_wp2_with fail
    refine (divided_any _ _).mono ?_
    rintro e w1 ⟨rfl, rfl⟩
    go_wp2_with fail
    go_ret
    refine ⟨_, rfl, ⟨57, _, rfl, enters_fn Try.func57 (by kernel_rfl) rfl, ?_⟩, (Ext.refl _).alloc _⟩
    intro w1 hx a b ha hb
    have ha := inR_iff.1 ha
    have hb := inR_iff.1 hb
    rw [show opv s a b = (if b = 0 then 0 else a.fdiv b, if b = 0 then 12 else 0) from by rw [opv, if_neg H1.out, if_neg H2.out, if_neg H3.out, if_pos H.out]; split <;> rfl]
    exact divided1_any 55 (fun a b => a.fdiv b) a b _ w1 (hx.cell (by simp)) (enters_fn Try.func55 (by kernel_rfl) rfl) fun hz => quotient_any a b w1 hz ha.1 ha.2
  have n4 : ¬ s.toList = [47] := fun e => h4 (s_div.1 e)
  have h5 : s = cMod := by simpa [isOp, h1, h2, h3, h4] using hs
  have h := s_mod.2 h5
  have H1 := Lib.hid h1
  have H2 := Lib.hid h2
  have H3 := Lib.hid h3
  have H4 := Lib.hid h4
  clear h5 h4 h3 h2 hs h1 n1 n2 n3 n4
  go_enter Try.func43, Try.ntmps43
  go_wp2_with fail
  refine (divided_any _ _).mono ?_
  rintro e w1 ⟨rfl, rfl⟩
  go_wp2_with fail
  go_ret
  refine ⟨_, rfl, ⟨57, _, rfl, enters_fn Try.func57 (by kernel_rfl) rfl, ?_⟩, (Ext.refl _).alloc _⟩
  intro w1 hx a b ha hb
  have ha := inR_iff.1 ha
  have hb := inR_iff.1 hb
  rw [show opv s a b = (if b = 0 then 0 else a - a.fdiv b * b, if b = 0 then 12 else 0) from by rw [opv, if_neg H1.out, if_neg H2.out, if_neg H3.out, if_neg H4.out]; split <;> rfl]
  exact divided1_any 56 (fun a b => a - a.fdiv b * b) a b _ w1 (hx.cell (by simp)) (enters_fn Try.func56 (by kernel_rfl) rfl) fun hz => rem_any a b w1 hz ha.1 ha.2 hb.1 hb.2

theorem isOp_not {s : ByteArray} (h : isOp s = false) : (s.toList == [43]) = false ∧ (s.toList == [45]) = false ∧ (s.toList == [42]) = false ∧ (s.toList == [47]) = false ∧ (s.toList == [37]) = false := by
  simp only [isOp, decide_eq_false_iff_not, not_or] at h
  simp only [beq_eq_false_iff_ne, ne_eq]
  rw [s_add, s_sub, s_mul, s_div, s_mod]; exact h

theorem of_none (s : ByteArray) (w : World) (hs : isOp s = false) :
    Calls Try.prog 43 #[.string s] w fun e w' => e = .returned .nilFunc ∧ w = w' := by
  obtain ⟨n1, n2, n3, n4, n5⟩ := isOp_not hs
  clear hs
  go_enter Try.func43, Try.ntmps43
  go_wp2_with fail
  go_ret
  exact ⟨rfl, rfl⟩

/-- cs read as a number -/
def RI (_H : Hp) (cs : List Value) (n : Int) : Prop := cs = [.int .i64 n] ∧ IntOk n
theorem up_RI : Up RI := fun _ _ _ _ _ h => h

set_option maxHeartbeats 400000 in
theorem inRange_any (l : List Int) (a : Option Addr) (cap : Nat) (H : Hp) (w : World) (hH : H.le (Hp.of w)) (hl : Sl H 1 (RI H) a l) :
    Calls Try.prog 44 #[.slice a l.length cap] w fun e w' => e = .returned (.bool (l.all inR)) ∧ w = w' := by
  have hle : l.length ≤ 9223372036854775807 := hl.le
  go_enter Try.func44, Try.ntmps44
  go_wp2_with fail
  go_loop [7] (fun i => ∃ j : Nat, j ≤ l.length ∧ i = .int .i64 j ∧ (l.take j).all inR = true) (fun i => l.length - (intOf i).toNat)
  case atStart => exact ⟨0, by omega, rfl, by simp⟩
  case round =>
    obtain ⟨j, hj, rfl, ht⟩ := hrel
    have Ht := Lib.hid ht; clear ht
    by_cases hlt : j < l.length
    · obtain ⟨b, o, rfl⟩ := hl.addr (by omega)
      obtain ⟨c, e0, r1, r2⟩ := hl.get1 hH j hlt
      obtain rfl : c = .int .i64 l[j] := by simpa using r1
      have hd : l.take (j + 1) = l.take j ++ [l[j]] := List.take_succ_eq_append_getElem hlt
      have Hd := Lib.hid hd; clear hd r1
      by_cases h1 : l[j] < -2147483648
      · go_wp2_with fail
        go_ret
        refine ⟨?_, rfl⟩
        rw [show l.all inR = false from by rw [List.all_eq_false]; exact ⟨_, List.getElem_mem hlt, by simp [inR]; omega⟩]; rfl
      · by_cases h2 : 2147483648 < l[j]
        · go_wp2_with fail
          go_ret
          refine ⟨?_, rfl⟩
          rw [show l.all inR = false from by rw [List.all_eq_false]; exact ⟨_, List.getElem_mem hlt, by simp [inR]; omega⟩]; rfl
        · go_wp2_with fail
          go_round
          case rel => exact ⟨j + 1, by omega, by go_num, by rw [Hd.out, List.all_append, Ht.out]; simp [inR]; omega⟩
          case measure => simp [intOf]; omega
    · go_wp2_with fail
      go_ret
      have h := Ht.out
      rw [List.take_of_length_le (by omega)] at h
      exact ⟨by rw [h]; rfl, rfl⟩

theorem ints_one {b : Nat} {x : Int} {H : Hp} (hx : IntOk x) (h : H b 0 = some (.int .i64 x)) : Sl H 1 (RI H) (some ⟨b, 0, none⟩) [x] :=
  ⟨by simp [lim], fun i hi => ⟨b, 0, [.int .i64 x], rfl, rfl, fun j u hu => by
    obtain rfl : i = 0 := by simpa using hi
    match j, hu with
    | 0, hu => simp at hu; subst hu; exact h, by
    obtain rfl : i = 0 := by simpa using hi
    exact ⟨rfl, hx⟩⟩⟩

theorem func_nil (k : Nat) (cap : Array Value) (w : World) : (binOp .eql 68 (.func (.func k) #[] cap) .nilFunc).run Try.prog w = .ok (.bool false) w := by kernel_rfl
theorem nil_nil (w : World) : (binOp .eql 68 .nilFunc .nilFunc).run Try.prog w = .ok (.bool true) w := by kernel_rfl

theorem ints_two {b : Nat} {x y : Int} {H : Hp} (hx : IntOk x) (hy : IntOk y) (h : H b 0 = some (.int .i64 x)) (h' : H b 1 = some (.int .i64 y)) : Sl H 1 (RI H) (some ⟨b, 0, none⟩) [x, y] :=
  ⟨by simp [lim], fun i hi => ⟨b, 0, [.int .i64 ([x, y][i])], rfl, rfl, fun j u hu => by
    match j, hu with
    | 0, hu =>
      simp at hu; subst hu
      match i, hi with
      | 0, _ => exact h
      | 1, _ => exact h', by
    match i, hi with
    | 0, _ => exact ⟨rfl, hx⟩
    | 1, _ => exact ⟨rfl, hy⟩⟩⟩

set_option maxHeartbeats 400000 in
theorem apply_any (s : ByteArray) (a b : Int) (w : World) (ha : IntOk a) (hb : IntOk b) :
    Calls Try.prog 29 #[.string s, .int .i64 a, .int .i64 b] w fun e w' => e = .returned (.tuple #[.int .i64 (apply s a b).1, .int .i64 (apply s a b).2]) ∧ Ext w w' := by
  have hnn := nil_nil
  have hfn := func_nil
  cases ho : isOp s with
  | false =>
    have hv : apply s a b = (0, 7) := by rw [apply, if_pos ho]
    rw [hv]
    have Ho := Lib.hid ho; clear ho hv
    go_enter Try.func29, Try.ntmps29
    go_wp2_with fail
    refine (of_none s _ Ho.out).mono ?_
    rintro e w1 ⟨rfl, rfl⟩
    go_wp2_with fail
    go_ret2
    exact ⟨rfl, Ext.refl _⟩
  | true =>
    have Ho := Lib.hid ho; clear ho
    go_enter Try.func29, Try.ntmps29
    go_wp2_with fail
    refine (of_any s _ Ho.out).mono ?_
    rintro e w1 ⟨fv, rfl, ⟨k, cap, rfl, hk, hf⟩, hx1⟩
    have Hf := Lib.hid hf; clear hf
    go_wp2_with fail
    have hs2 : Sl (Hp.of (w1.alloc (.cells #[.int .i64 a, .int .i64 b] 3))) 1 (RI (Hp.of (w1.alloc (.cells #[.int .i64 a, .int .i64 b] 3)))) (some ⟨w1.heap.size, 0, none⟩) [a, b] := ints_two ha hb (by simp [Hp.of]) (by simp [Hp.of])
    refine (inRange_any [a, b] _ 2 _ _ (Hp.le_refl _) hs2).mono ?_
    rintro e w2 ⟨rfl, rfl⟩
    clear hs2
    have hall : [a, b].all inR = (inR a && inR b) := by simp
    rw [hall]
    clear hall
    cases hin : (inR a && inR b) with
    | false =>
      have hv : apply s a b = (0, 5) := by rw [apply, if_neg (by rw [Ho.out]; simp), if_pos hin]
      have Hv := Lib.hid hv; clear hv hin
      go_wp2_with fail
      go_ret2
      exact ⟨by rw [Hv.out]; rfl, hx1.trans ((Ext.refl _).alloc _)⟩
    | true =>
      rw [Bool.and_eq_true] at hin
      obtain ⟨ia, ib⟩ := hin
      have hap : apply s a b = if (opv s a b).2 ≠ 0 then (0, (opv s a b).2) else if inR (opv s a b).1 = false then (0, 5) else ((opv s a b).1, 0) := by
        rw [apply, if_neg (by rw [Ho.out]; simp), if_neg (by simp [ia, ib])]
      have hopv := opv_snd s a b
      have hok := opv_ok (s := s) ia ib
      have hcall := Hf.out (w1.alloc (.cells #[.int .i64 a, .int .i64 b] 3)) ((Ext.refl _).alloc _) a b ia ib
      generalize opv s a b = r at *
      obtain ⟨n, er⟩ := r
      have Hap := Lib.hid hap
      have Hcall := Lib.hid hcall
      clear hap ia ib hcall
      dsimp only at *
      rcases hopv with rfl | rfl
      · cases hin : inR n with
        | true =>
          have hv : apply s a b = (n, 0) := by rw [Hap.out, if_neg (by simp), if_neg (by simp [hin])]
          have Hv := Lib.hid hv; clear hv
          go_wp2_with fail
          refine Hcall.out.mono ?_
          rintro e w3 ⟨rfl, rfl⟩
          go_wp2_with fail
          refine (inRange_any [n] _ 1 (Hp.of ((w1.alloc (.cells #[.int .i64 a, .int .i64 b] 3)).alloc (.cells #[.int .i64 n] 3))) _ (Hp.le_refl _) (ints_one hok (by simp [Hp.of]))).mono ?_
          rintro e w2 ⟨rfl, rfl⟩
          rw [show [n].all inR = true from by simp [hin]]
          clear hin
          go_wp2_with fail
          go_ret2
          exact ⟨by rw [Hv.out]; rfl, (by repeat first | assumption | exact Ext.refl _ | refine Ext.alloc ?_ _ | refine Ext.drew ?_ | refine Ext.trans ?_ (by assumption))⟩
        | false =>
          have hv : apply s a b = (0, 5) := by rw [Hap.out, if_neg (by simp), if_pos hin]
          have Hv := Lib.hid hv; clear hv
          go_wp2_with fail
          refine Hcall.out.mono ?_
          rintro e w3 ⟨rfl, rfl⟩
          go_wp2_with fail
          refine (inRange_any [n] _ 1 (Hp.of ((w1.alloc (.cells #[.int .i64 a, .int .i64 b] 3)).alloc (.cells #[.int .i64 n] 3))) _ (Hp.le_refl _) (ints_one hok (by simp [Hp.of]))).mono ?_
          rintro e w2 ⟨rfl, rfl⟩
          rw [show [n].all inR = false from by simp [hin]]
          clear hin
          go_wp2_with fail
          go_ret2
          exact ⟨by rw [Hv.out]; rfl, (by repeat first | assumption | exact Ext.refl _ | refine Ext.alloc ?_ _ | refine Ext.drew ?_ | refine Ext.trans ?_ (by assumption))⟩
      · have hv : apply s a b = (0, 12) := by rw [Hap.out, if_pos (by simp)]
        have Hv := Lib.hid hv; clear hv
        go_wp2_with fail
        refine Hcall.out.mono ?_
        rintro e w3 ⟨rfl, rfl⟩
        go_wp2_with fail
        go_ret2
        exact ⟨by rw [Hv.out]; rfl, (by repeat first | assumption | exact Ext.refl _ | refine Ext.alloc ?_ _ | refine Ext.drew ?_ | refine Ext.trans ?_ (by assumption))⟩
end Go.CK
