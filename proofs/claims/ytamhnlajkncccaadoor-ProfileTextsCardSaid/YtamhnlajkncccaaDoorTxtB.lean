/-
  TEXTS IN A strings.Builder: direct walks, 2: profile.Text. By an AI agent.
-/
import Derived.Test.YtamhnlajkncccaaDoorTxtA
import Derived.Test.YtamhnlajkncccaaDoorProE
import Derived.Test.YtamhnlajkncccaaDoorFunC
set_option linter.unusedSimpArgs false
set_option linter.unusedVariables false
namespace Go.CK
open Go.RowKit Go.Proofs
theorem hp_below {w w' : World} (h : Below w.heap.size w w') : (Hp.of w).le (Hp.of w') := fun b o v hv => by
  have hlt := Hp.lt (Hp.le_refl _) hv
  simp only [Hp.of, World.cell?] at hv ⊢
  rw [h.block b hlt]; exact hv
theorem total_calls {c : Ct} (hl : c.rules.length ≤ 1000000) {w : World} {cs : List Value} (hc : RCt (Hp.of w) cs c) : Calls Tryd.prog 15 #[.agg cs.toArray] w fun e w' => e = .returned (.int .i64 (totalC c)) ∧ Ext w w' := by
  refine (((total_ok hl []).mono (Q' := fun r _ => r = .int .i64 (totalC c)) fun r bs hq => hq.1).calls (Hp.le_refl _) (args := [.agg cs.toArray]) rfl (fun j hj v hv => ?_)).mono ?_
  · cases j with
    | zero => simp only [List.getElem?_cons_zero, Option.some.injEq] at hv; subst hv; exact hc.fv
    | succ j => simp at hj
  · rintro e w' ⟨v, r, bs', M', σ, n, rfl, rfl, hv, hx, _⟩
    exact ⟨by rw [hv.inv_int], hx⟩
theorem ruleLines_app : ∀ (l : List Int) (i : Nat) (n : Int), ruleLines i (l ++ [n]) = ruleLines i l ++ (if n = 0 then [] else lineT (sRule ++ Lib.itoa ((i + l.length : Nat) : Int)) n)
  | [], i, n => by simp [ruleLines]
  | m :: l, i, n => by
    rw [List.cons_append, ruleLines, ruleLines, ruleLines_app l (i + 1) n, List.append_assoc, show i + 1 + l.length = i + (m :: l).length by simp; omega]
theorem ruleLines_len (k : Nat) : ∀ (l : List Int) (i : Nat), (∀ n ∈ l, (Lib.itoa n).length ≤ k) → (∀ j, j < l.length → (Lib.itoa ((i + j : Nat) : Int)).length ≤ k) → (ruleLines i l).length ≤ l.length * (2 * k + 8)
  | [], i, _, _ => by simp [ruleLines]
  | n :: l, i, h1, h2 => by
    have ih := ruleLines_len k l (i + 1) (fun x hx => h1 x (by simp [hx])) (fun j hj => by have := h2 (j + 1) (by simpa using hj); rw [show i + 1 + j = i + (j + 1) by omega]; exact this)
    have e1 := h1 n (by simp)
    have e2 := h2 0 (by simp)
    rw [ruleLines, List.length_append, List.length_cons, Nat.succ_mul]
    split
    · simp; omega
    · simp only [lineT, sRule, List.length_append, List.length_cons, List.length_nil] at e2 ⊢
      simp only [Nat.add_zero] at e2
      omega
def textNums (c : Ct) : List Int := (List.range c.rules.length).map (fun n : Nat => (n : Int)) ++ c.rules ++ [totalC c, c.tried, c.goals, c.steps]
set_option maxHeartbeats 2000000 in
set_option maxRecDepth 100000 in
theorem text_b (c : Ct) (hlen : c.rules.length ≤ 1000) (W : World) (cs : List Value) (hc : RCt (Hp.of W) cs c) (hI : ∀ n ∈ textNums c, (Lib.itoa n).length ≤ 30 ∧ ∀ w', Below W.heap.size W w' → ItoaAt n w') :
    Calls Tryd.prog 20 #[.agg cs.toArray] W fun e w' => e = .returned (.string ⟨(textC c).toArray⟩) ∧ Below W.heap.size W w' := by
  have hTot := fun (w : World) (h : Below W.heap.size W w) => total_calls (c := c) (by omega) (RCt.mono (hp_below h) hc)
  obtain ⟨a1, k1, rfl, hk1, hsl, i1, i2, i3⟩ := hc
  have hnl : ∀ n ∈ c.rules, (Lib.itoa n).length ≤ 30 := fun n hn => (hI n (by simp [textNums, hn])).1
  have hil : ∀ j, j < c.rules.length → (Lib.itoa (j : Int)).length ≤ 30 := fun j hj => (hI j (by simp only [textNums, List.append_assoc, List.mem_append, List.mem_map, List.mem_range]; exact .inl ⟨j, hj, rfl⟩)).1
  have hIi : ∀ j, j < c.rules.length → ∀ w', Below W.heap.size W w' → ItoaAt (j : Int) w' := fun j hj => (hI j (by simp only [textNums, List.append_assoc, List.mem_append, List.mem_map, List.mem_range]; exact .inl ⟨j, hj, rfl⟩)).2
  have hIr : ∀ n ∈ c.rules, ∀ w', Below W.heap.size W w' → ItoaAt n w' := fun n hn => (hI n (by simp [textNums, hn])).2
  have hI0 := hI (totalC c) (by simp [textNums])
  have hI1 := hI c.tried (by simp [textNums])
  have hI2 := hI c.goals (by simp [textNums])
  have hI3 := hI c.steps (by simp [textNums])
  have hrl : ∀ j, j ≤ c.rules.length → (ruleLines 0 (c.rules.take j)).length ≤ 68000 := fun j hj => by
    have := ruleLines_len 30 (c.rules.take j) 0 (fun n hn => hnl n (List.mem_of_mem_take hn)) (fun q hq => by rw [Nat.zero_add]; exact hil q (by simp at hq; omega))
    have h2 : (c.rules.take j).length ≤ 1000 := by simp; omega
    have := Nat.mul_le_mul_right 68 h2
    omega
  obtain ⟨w2, hw2⟩ : ∃ w2, w2 = (W.alloc (.cells #[.slice a1 c.rules.length k1, .int .i64 c.tried, .int .i64 c.goals, .int .i64 c.steps] 26)).alloc (.cells #[.pointer none, .slice none 0 0] 46) := ⟨_, rfl⟩
  have hz : w2.heap.size = W.heap.size + 2 := by rw [hw2]; simp
  have hB0 : Below W.heap.size W w2 := by
    rw [hw2]
    exact ((Below.refl _ W).alloc (Nat.le_refl _) _).alloc (by simp) _
  have hbx : w2.heap[W.heap.size]? = some (.cells #[.slice a1 c.rules.length k1, .int .i64 c.tried, .int .i64 c.goals, .int .i64 c.steps] 26 (0, 0)) := by
    rw [hw2, Below.heap_alloc _ _ _ (by simp)]
    exact World.alloc_heap_new W _
  have hib : IsB (W.heap.size + 1) (W.heap.size + 1) [] w2 := by
    refine .inl ⟨Nat.le_refl _, .slice none 0 0, ?_, World.ownsRowF_nil _ _ _ _, by simp [Value.ownBlock]⟩
    rw [hw2]
    have := World.alloc_heap_new (W.alloc (.cells #[.slice a1 c.rules.length k1, .int .i64 c.tried, .int .i64 c.goals, .int .i64 c.steps] 26)) (.cells #[.pointer none, .slice none 0 0] 46)
    simpa using this
  have hcell : ∀ w, Below (W.heap.size + 1) w2 w → w.cell? ⟨W.heap.size, 0, none⟩ = some (.slice a1 c.rules.length k1) ∧ w.cell? ⟨W.heap.size, 1, none⟩ = some (.int .i64 c.tried) ∧ w.cell? ⟨W.heap.size, 2, none⟩ = some (.int .i64 c.goals) ∧ w.cell? ⟨W.heap.size, 3, none⟩ = some (.int .i64 c.steps) := fun w h => by
    have := (h.block W.heap.size (by omega)).trans hbx
    simp [World.cell?, this]
  have hin : ∀ w, Below (W.heap.size + 1) w2 w → Below W.heap.size W w := fun w h => hB0.trans (h.mono (by omega))
  have Hc := Lib.hid hcell; clear hcell
  have Hin := Lib.hid hin; clear hin
  have Hr := Lib.hid hrl; clear hrl
  have HIi := Lib.hid hIi; clear hIi
  have HIr := Lib.hid hIr; clear hIr
  have H0 := Lib.hid hI0; clear hI0
  have H1 := Lib.hid hI1; clear hI1
  have H2 := Lib.hid hI2; clear hI2
  have H3 := Lib.hid hI3; clear hI3
  have Hil := Lib.hid hil; clear hil
  have Hnl := Lib.hid hnl; clear hnl
  have Hib := Lib.hid hib; clear hib
  have HT := Lib.hid hTot; clear hTot
  have Hsl := Lib.hid hsl; clear hsl
  clear hI
  go_enter Tryd.func20, Tryd.ntmps20
  go_wp2_with fail
  rw [← hw2]
  clear hbx
  have Hw2 := Lib.hid hw2; clear hw2
  go_loopw [11] (fun i wr => ∃ j : Nat, j ≤ c.rules.length ∧ i = .int .i64 j ∧ IsB (W.heap.size + 1) (W.heap.size + 1) (ruleLines 0 (c.rules.take j)) wr ∧ Below (W.heap.size + 1) w2 wr) (fun i _ => c.rules.length - (intOf i).toNat)
  case atStart => exact ⟨0, by omega, rfl, by simpa [ruleLines] using Hib.out, Below.refl _ _⟩
  case round =>
    obtain ⟨j, hj, rfl, hbj, hxj⟩ := hrel
    have Hbj := Lib.hid hbj; clear hbj
    obtain ⟨c0, c1, c2, c3⟩ := Hc.out _ hxj
    by_cases hlt : j < c.rules.length
    · obtain ⟨b, o, rfl⟩ := Hsl.out.addr (by omega)
      obtain ⟨x0, e0, r0⟩ := Hsl.out.get1 (hp_below (Hin.out _ hxj)) j hlt
      obtain ⟨he, r0⟩ := r0
      simp only [List.cons.injEq, and_true] at he
      subst he
      have hd : c.rules.take (j + 1) = c.rules.take j ++ [c.rules[j]] := List.take_succ_eq_append_getElem hlt
      have Hd := Lib.hid hd; clear hd
      have hla := ruleLines_app (c.rules.take j) 0 c.rules[j]
      rw [← Hd.out, List.length_take, Nat.min_eq_left (by omega), Nat.zero_add] at hla
      have Hla := Lib.hid hla; clear hla
      by_cases hn0 : c.rules[j] = 0
      · go_wp2_with fail
        go_roundw
        case rel => exact ⟨j + 1, by omega, by go_num, by rw [Hla.out, if_pos hn0, List.append_nil]; exact Hbj.out, hxj⟩
        case measure => simp [intOf]; omega
      · have hsz := Hil.out j hlt
        have s2 : (⟨(Lib.itoa (j : Int)).toArray⟩ : ByteArray).size = (Lib.itoa (j : Int)).length := by simp [ByteArray.size]
        have s3 : (⟨#[114, 117, 108, 101, 32]⟩ : ByteArray).size = 5 := rfl
        have hwd : ((⟨#[114, 117, 108, 101, 32]⟩ : ByteArray) ++ (⟨(Lib.itoa (j : Int)).toArray⟩ : ByteArray)).data.toList = sRule ++ Lib.itoa (j : Int) := by simp [ByteArray.data_append, sRule]
        have Hwd := Lib.hid hwd; clear hwd
        go_wp2_with fail
        refine (HIi.out j hlt _ (Hin.out _ hxj)).mono ?_
        rintro e w3 ⟨rfl, hb3⟩
        have hx3 : Below (W.heap.size + 1) w2 w3 := hxj.trans (hb3.mono (by have := hxj.size; omega))
        go_wp2_with fail
        refine (line_b (W.heap.size + 1) (W.heap.size + 1) _ _ _ w3 (isB_below Hbj.out hb3) ?_ (by have := hx3.size; omega) (HIr.out _ (List.getElem_mem hlt) _ (Hin.out _ hx3))).mono ?_
        · rw [Hwd.out]
          have := Hr.out j hj
          have := Hnl.out _ (List.getElem_mem hlt)
          simp only [lineT, sRule, List.length_append, List.length_cons, List.length_nil]; omega
        rintro e w4 ⟨rfl, h4, hb4⟩
        rw [Hwd.out] at h4
        have hx4 := hx3.trans hb4
        go_wp2_with fail
        go_roundw
        case rel => exact ⟨j + 1, by omega, by go_num, by rw [Hla.out, if_neg hn0]; exact h4, hx4⟩
        case measure => simp [intOf]; omega
    · have hje : c.rules.take j = c.rules := List.take_of_length_le (by omega)
      have hb := Hbj.out
      rw [hje] at hb
      have hrl := Hr.out c.rules.length (Nat.le_refl _)
      rw [List.take_length] at hrl
      have Hb := Lib.hid hb; clear hb
      go_wp2_with fail
      refine (HT.out _ (Hin.out _ hxj)).mono ?_
      rintro e w4 ⟨rfl, hx4⟩
      have hb4 := hx4.bel
      have hx4 : Below (W.heap.size + 1) w2 w4 := hxj.trans (hb4.mono (by have := hxj.size; omega))
      go_wp2_with fail
      refine (line_b (W.heap.size + 1) (W.heap.size + 1) _ _ _ w4 (isB_below Hb.out hb4) ?_ (by have := hx4.size; omega) (H0.out.2 _ (Hin.out _ hx4))).mono ?_
      · have := H0.out.1
        simp only [lineT, List.length_append, List.length_cons, List.length_nil]; omega
      rintro e w5 ⟨rfl, h5, hb5⟩
      have hx5 := hx4.trans hb5
      obtain ⟨d0, d1, d2, d3⟩ := Hc.out _ hx5
      go_wp2_with fail
      refine (line_b (W.heap.size + 1) (W.heap.size + 1) _ _ _ w5 h5 ?_ (by have := hx5.size; omega) (H1.out.2 _ (Hin.out _ hx5))).mono ?_
      · have := H0.out.1
        have := H1.out.1
        have := H2.out.1
        have := H3.out.1
        simp only [lineT, List.length_append, List.length_cons, List.length_nil]; omega
      rintro e w6 ⟨rfl, h6, hb6⟩
      have hx6 := hx5.trans hb6
      obtain ⟨d0, d1, d2, d3⟩ := Hc.out _ hx6
      go_wp2_with fail
      refine (line_b (W.heap.size + 1) (W.heap.size + 1) _ _ _ w6 h6 ?_ (by have := hx6.size; omega) (H2.out.2 _ (Hin.out _ hx6))).mono ?_
      · have := H0.out.1
        have := H1.out.1
        have := H2.out.1
        have := H3.out.1
        simp only [lineT, List.length_append, List.length_cons, List.length_nil]; omega
      rintro e w7 ⟨rfl, h7, hb7⟩
      have hx7 := hx6.trans hb7
      obtain ⟨d0, d1, d2, d3⟩ := Hc.out _ hx7
      go_wp2_with fail
      refine (line_b (W.heap.size + 1) (W.heap.size + 1) _ _ _ w7 h7 ?_ (by have := hx7.size; omega) (H3.out.2 _ (Hin.out _ hx7))).mono ?_
      · have := H0.out.1
        have := H1.out.1
        have := H2.out.1
        have := H3.out.1
        simp only [lineT, List.length_append, List.length_cons, List.length_nil]; omega
      rintro e w8 ⟨rfl, h8, hb8⟩
      have hx8 := hx7.trans hb8
      obtain ⟨d0, d1, d2, d3⟩ := Hc.out _ hx8
      go_wp2_with fail
      refine (string_b (W.heap.size + 1) (W.heap.size + 1) _ w8 h8 (by have := hx8.size; omega)).mono ?_
      rintro e w9 ⟨rfl, hb9⟩
      go_wp2_with fail
      go_ret
      refine ⟨?_, Hin.out _ (hx8.trans hb9)⟩
      rfl
/-! ### out of a direct walk, into the abstract machine -/
open Go.AM in
/-- a function that makes blocks and hands back a text, whatever the world -/
theorem Fun.ofCalls {P : Program} {f : FuncId} {vals : List AV} {t : ByteArray} (ht : t.size ≤ lim) (hf : vals.all AV.flat = true) (h : ∀ (w : World) (args : List Value), args.length = vals.length → (∀ j (hj : j < vals.length) v, args[j]? = some v → FV (Hp.of w) vals[j] v) → Calls P f args.toArray w fun e w' => e = .returned (.string t) ∧ Below w.heap.size w w') : Fun P f vals (.str t) := by
  intro bs E G a0 w args lo hs hl hv
  have hfl : ∀ j (hj : j < vals.length), (vals[j]).flat = true := fun j hj => List.all_eq_true.1 hf _ (List.getElem_mem hj)
  refine (h w args hl (fun j hj v hjv => ((hv j hj v hjv).toFV (hfl j hj)).mono hs.ok)).mono ?_
  rintro e w' ⟨rfl, hb⟩
  have h0 := hs.reAct (callE G bs w 1) ⟨#[.string t], []⟩ (Fr.refl _ _ _) rfl bs.length rfl (Nat.le_refl _) (fun _ _ => rfl) (fun B hB => .inl hB) rfl
  have h1 := h0.grow (M' := G.M) (w' := w') ⟨hb.os, hb.tape, hb.output, hb.size, Hp.le_refl _, fun B hB _ => hb.block B hB, fun _ _ _ _ => rfl⟩ (Hp.le_trans hs.ok (hp_below hb))
  refine ⟨_, _, _, _, rfl, ⟨rfl, rfl⟩, h1.put (k := 0) Nat.zero_lt_one (x := .str t) (.flat (.str t ht))⟩
end Go.CK
