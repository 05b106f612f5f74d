/-
  Texts of this claim joined (wip/gen/bundle.py), those declarations only that are needed: IxY IxZ. By an AI agent.
-/
import Derived.Test.YtcjfkbdbcgmomaaGreatDoorFau
import Derived.Lib.SliceRun
import Derived.Lib.JoinLaws
import Derived.Lib.AppendZeros
import Derived.Lib.Overlaps
import Derived.Shelf.Spec.SlicesInsert
import Derived.Test.YtcjfkbdbcgmomaaGreatDoorFax
set_option linter.unusedSimpArgs false
set_option linter.unusedVariables false
namespace Go.AM
open Go.CK Go.RowKit Go.Proofs Go.Lib
variable {P : Program}
theorem run_copy_z (w : World) (dT sT ty elem : TypeId) (z b o dLen dCap : Nat) (a : Addr) (sLen sCap : Nat) (cs : List Value)
  (hu : P.underlying dT = some (.slice elem)) (hs : (P.info? elem).map (·.size) = some z) (hn : cs.length = Nat.min sLen dLen * z)
  (hsrc : ∀ j v, cs[j]? = some v -> w.cell? (a.add j) = some v) (hc : ∀ j, j < cs.length -> (w.cell? ⟨b, o + j, none⟩).isSome = true) (hf : ∀ j, j < cs.length -> w.frozen? ⟨b, o + j, none⟩ = false) (h1 : ∀ v ∈ cs, v.oneCell' = true) :
  (Builtin.copy_ #[dT, sT] ty #[.slice (some ⟨b, o, none⟩) dLen dCap, .slice (some a) sLen sCap]).run P w = .ok (goInt (Nat.min sLen dLen)) (w.setCells b o cs) := by
 have hl := run_loadCells_list (P := P) w a cs hsrc; have hst := run_storeCells_cells (P := P) b o cs 0 w (by simpa using hc) (by simpa using hf) h1
 cases hq : P.info? elem with
 | none => simp [hq] at hs
 | some i =>
  have hi : i.size = z := by simpa [hq] using hs
  simp [Builtin.copy_, run_underlying hu, Builtin.lenOf, Builtin.firstCells, sizeOf, typeInfo, hq, hi, ← hn, hl, hst]
theorem Tryz.infoIt : (Tryz.prog.info? 28).map (fun i => (i.zero, i.size, i.bytes)) = some (some (.agg #[.int .i64 0, .string ⟨#[]⟩, .slice none 0 0]), 3, 48) := by kernel_rfl
set_option maxHeartbeats 1000000 in
set_option maxRecDepth 100000 in
theorem ins3_shift (b n c i vb vc : Nat) (us xs : List Value) (w : World) (hi : i < n) (hroom : n + 1 ≤ c) (hbig : n ≤ 1000000) (hvb : vb ≠ b) (hus : us.length = n * 3) (hxs : xs.length = 3)
  (hcs : ∀ j v, us[j]? = some v -> w.cell? ⟨b, j, none⟩ = some v) (hsp : ∀ j, j < c * 3 -> (w.cell? ⟨b, j, none⟩).isSome = true) (hfz : ∀ j, w.frozen? ⟨b, j, none⟩ = false)
  (hvs : ∀ j v, xs[j]? = some v -> w.cell? ⟨vb, j, none⟩ = some v) (h1c : ∀ v ∈ us, v.oneCell' = true) (h1v : ∀ v ∈ xs, v.oneCell' = true)
  (tA tB : TypeId) (kA kB : Nat) (hsa : w.shape? vb = some (tA, kA)) (hsb : w.shape? b = some (tB, kB)) (hkB : kB ≠ 0) (hfa : ∀ j, w.frozen? ⟨vb, j, none⟩ = false) :
  Calls Tryz.prog 50 #[.slice (some ⟨b, 0, none⟩) n c, .int .i64 i, .slice (some ⟨vb, 0, none⟩) 1 vc] w fun e w' =>
   e = .returned (.slice (some ⟨b, 0, none⟩) (n + 1) c) ∧ w' = (w.drew.setCells b ((i + 1) * 3) (us.drop (i * 3))).setCells b (i * 3) xs := by
 have hz2 : ¬ ((i : Int) = (n : Int)) := by omega
 have hin : i ≤ n := by omega
 obtain ⟨i0, hi0, hz0, hz1, hzb⟩ := info_parts Tryz.infoIt; have hsz : (Tryz.prog.info? 28).map (·.size) = some 3 := by rw [hi0]; simp [hz1]
 have hov : ∀ lb cb, (callFunc 103 #[.slice (some ⟨vb, 0, none⟩) 1 vc, .slice (some ⟨b, (i + 1) * 3, none⟩) lb cb]).run Tryz.prog w = .ok (.value (.bool false)) w := fun lb cb => by
  rw [run_callFunc_extern Tryz.func103 (by kernel_rfl) (by kernel_rfl) (by kernel_rfl) (e := Extern.SlicesOverlaps.overlaps #[22, 22] #[4]) (by kernel_rfl),
   Lib.run_overlaps_apart w 22 4 28 Tryz.underlying22 3 Tryz.sizeOf28 ⟨vb, 0, none⟩ ⟨b, (i + 1) * 3, none⟩ 1 vc lb cb hvb tA tB kA kB hsa hsb hkB (hfa 0) (hfa kA)]
  rfl
 have mixed : Tryz.prog.follows .mixedOrders = true := by kernel_rfl
 have hdl : (us.drop (i * 3)).length = (n - i) * 3 := by rw [List.length_drop, hus, Nat.sub_mul]
 have hb1 : (0 : Int) ≤ (i : Int) + 1 := by omega
 have hw1 : IntKind.i64.wrap ((i : Int) + 1) = (i : Int) + 1 := by rw [IntKind.wrap_i64]; omega
 have htn : ((i : Int) + 1).toNat = i + 1 := by omega
 have hb2 : ¬ (c = i + 1) := by omega
 have hb3 : (i : Int) ≤ (n : Int) + 1 := by omega
 have hb4 : ¬ (c = i) := by omega
 have hmn : ∀ a b : Nat, a = b -> goInt a = goInt b := fun a b e => by rw [e]
 have hcp1 : ∀ ty dc sc, (Builtin.copy_ #[22, 22] ty #[.slice (some ⟨b, (i + 1) * 3, none⟩) (n - i) dc, .slice (some ⟨b, i * 3, none⟩) (n + 1 - i) sc]).run Tryz.prog w.drew = .ok (goInt ((n - i : Nat) : Int)) (w.drew.setCells b ((i + 1) * 3) (us.drop (i * 3))) := fun ty dc sc => by
  have h := run_copy_z (P := Tryz.prog) w.drew 22 22 ty 28 3 b ((i + 1) * 3) (n - i) dc ⟨b, i * 3, none⟩ (n + 1 - i) sc (us.drop (i * 3)) Tryz.underlying22 hsz (by rw [hdl]; rw [show Nat.min (n + 1 - i) (n - i) = n - i from Nat.min_eq_right (by omega)])
   (fun j v hj => by rw [Addr.add_lit]; exact hcs (i * 3 + j) v (by rwa [List.getElem?_drop] at hj))
   (fun j hj => hsp _ (by rw [hdl] at hj; omega)) (fun j hj => hfz _) (fun v hv => h1c v (List.mem_of_mem_drop hv))
  rw [h]; rw [show Nat.min (n + 1 - i) (n - i) = n - i from Nat.min_eq_right (by omega)]
 obtain ⟨W1, hW1⟩ : ∃ W1, W1 = w.drew.setCells b ((i + 1) * 3) (us.drop (i * 3)) := ⟨_, rfl⟩
 have hsp1 : ∀ k, k < c * 3 -> (W1.cell? ⟨b, k, none⟩).isSome = true := fun k hk => by
  rw [hW1]; exact Go.Proofs.isSome_setCells b (us.drop (i * 3)) ((i + 1) * 3) w.drew (fun j hj => hsp _ (by rw [hdl] at hj; omega)) k (hsp k hk)
 have hcp2 : ∀ (W : World), (∀ x, W.cell? x = W1.cell? x) -> (∀ x, W.frozen? x = W1.frozen? x) -> ∀ ty dc, (Builtin.copy_ #[22, 22] ty #[.slice (some ⟨b, i * 3, none⟩) (n + 1 - i) dc, .slice (some ⟨vb, 0, none⟩) 1 vc]).run Tryz.prog W = .ok (goInt ((1 : Nat) : Int)) (W.setCells b (i * 3) xs) := fun W hWc hWf ty dc => by
  have h := run_copy_z (P := Tryz.prog) W 22 22 ty 28 3 b (i * 3) (n + 1 - i) dc ⟨vb, 0, none⟩ 1 vc xs Tryz.underlying22 hsz (by rw [hxs, show Nat.min 1 (n + 1 - i) = 1 from Nat.min_eq_left (by omega)])
   (fun j v hj => by
    rw [Addr.add_lit, Nat.zero_add, hWc, hW1, World.cell?_setCells_out b _ _ _ _ (fun h _ => absurd h hvb)]; exact hvs j v hj)
   (fun j hj => by rw [hWc]; exact hsp1 _ (by omega)) (fun j hj => by rw [hWf, hW1, World.frozen?_setCells]; exact hfz _) h1v
  rw [h]; rw [show Nat.min 1 (n + 1 - i) = 1 from Nat.min_eq_left (by omega)]
 rw [← hW1] at hcp1
 go_enter Tryz.func50, Tryz.ntmps50
 go_wp2_with (simp only [hov])
 go_region_law_o (refine step_copy_runI rfl _ _ 22 22 rfl _ _ (by simp [Act.eval, Act.put]) (by simp [Act.eval, Act.put]) (hcp1 _ _ _) ?_)
 go_wp2_with (at_builtin; refine wpList_copy_runI _ rfl _ _ 22 22 rfl _ _ rfl rfl (hcp2 _ (fun _ => rfl) (fun _ => rfl) _ _) ?_)
 go_ret
 first | exact ⟨rfl, rfl⟩ | exact ⟨rfl, by rw [hW1]⟩
set_option maxHeartbeats 1000000 in
set_option maxRecDepth 100000 in
theorem ins3_end (base : Option Addr) (n c vb vc : Nat) (w : World) (hnc : n ≤ c) (hbig : n ≤ 1000000) {v' : Value} {w' : World}
  (hr : ∀ ty, (Builtin.append_ #[22, 22] ty #[.slice base n c, .slice (some ⟨vb, 0, none⟩) 1 vc]).run Tryz.prog w = .ok v' w') :
  Calls Tryz.prog 50 #[.slice base n c, .int .i64 n, .slice (some ⟨vb, 0, none⟩) 1 vc] w fun e w2 => e = .returned v' ∧ w2 = w' := by
 have mixed : Tryz.prog.follows .mixedOrders = true := by kernel_rfl
 go_enter Tryz.func50, Tryz.ntmps50
 cases base with
 | none =>
  go_wp2_with (at_builtin; refine Lib.wpList_append_run _ rfl _ _ _ _ rfl _ _ rfl rfl _ _ (hr _) ?_)
  all_goals (go_ret; exact ⟨rfl, rfl⟩)
 | some a =>
  obtain ⟨ab, ao, asp⟩ := a
  go_wp2_with (at_builtin; refine Lib.wpList_append_run _ rfl _ _ _ _ rfl _ _ rfl rfl _ _ (hr _) ?_)
  all_goals (go_ret; exact ⟨rfl, rfl⟩)
def zIt : Value := .agg #[.int .i64 0, .string ⟨#[]⟩, .slice none 0 0]
theorem zIt_cells (n : Nat) : (Builtin.zeroCells zIt.cells n).size = n * 3 := by
 rw [size_zeroCells]; rfl
set_option maxHeartbeats 2000000 in
set_option maxRecDepth 100000 in
theorem ins3_grow (b n c i vb vc : Nat) (us xs : List Value) (w : World) (hi : i < n) (hnc : n ≤ c) (hroom : c < n + 1) (hbig : n ≤ 1000000) (hus : us.length = n * 3) (hxs : xs.length = 3)
  (hcs : ∀ j v, us[j]? = some v -> w.cell? ⟨b, j, none⟩ = some v) (hvs : ∀ j v, xs[j]? = some v -> w.cell? ⟨vb, j, none⟩ = some v) (h1c : ∀ v ∈ us, v.oneCell' = true) (h1v : ∀ v ∈ xs, v.oneCell' = true) :
  Calls Tryz.prog 50 #[.slice (some ⟨b, 0, none⟩) n c, .int .i64 i, .slice (some ⟨vb, 0, none⟩) 1 vc] w fun e w' => ∃ G ROW, n + 1 ≤ G ∧ ROW = (us.take (i * 3)).toArray ++ Builtin.zeroCells zIt.cells (n + 1 - i) ++ Builtin.zeroCells zIt.cells (G - (n + 1)) ∧
   e = .returned (.slice (some ⟨w.heap.size, 0, none⟩) (n + 1) G) ∧
   w' = (((w.alloc (.cells ROW 28)).drew.setCells w.heap.size (i * 3) xs).drew).setCells w.heap.size ((i + 1) * 3) (us.drop (i * 3)) := by
 have hz2 : ¬ ((i : Int) = (n : Int)) := by omega
 have hz3 : (c : Int) < (n : Int) + 1 := by omega
 have hin : i ≤ n := by omega
 obtain ⟨i0, hi0, hz0, hz1, hzb⟩ := info_parts Tryz.infoIt; have hsz : (Tryz.prog.info? 28).map (·.size) = some 3 := by rw [hi0]; simp [hz1]
 have hbw : b < w.heap.size := block_lt_of_cell (hcs 0 _ (List.getElem?_eq_getElem (by omega)))
 have hvw : vb < w.heap.size := block_lt_of_cell (hvs 0 _ (List.getElem?_eq_getElem (by omega)))
 have mixed : Tryz.prog.follows .mixedOrders = true := by kernel_rfl
 have hkk : (n : Int) + 1 - (i : Int) = ((n + 1 - i : Nat) : Int) := by omega
 have hik : i + (n + 1 - i) = n + 1 := by omega
 have htl : (us.take (i * 3)).length = i * 3 := by rw [List.length_take]; omega
 have hold : (Builtin.firstCells i0.size i (.slice (some ⟨b, 0, none⟩) i c)).run Tryz.prog w.drew = .ok (us.take (i * 3)).toArray w.drew := by
  rw [hz1]
  exact run_firstCells_some w.drew 3 i ⟨b, 0, none⟩ i c (us.take (i * 3)) htl (fun j v hj => by
   rw [Addr.add_lit, Nat.zero_add]; rw [List.getElem?_take] at hj; split at hj
   ·exact hcs j v hj
   ·cases hj)
 obtain ⟨G, hG⟩ : ∃ G, G = grownCap w (n + 1) c 28 := ⟨_, rfl⟩; have hGn : n + 1 ≤ G := by rw [hG]; exact grownCap_ge w _ _ _
 have hG63 : G ≤ 9223372036854775807 := by
  have := grownCap_le_maxLen w (n + 1) c 28 (by unfold maxLen; omega)
  rw [← hG] at this; unfold maxLen at this; omega
 obtain ⟨ROW, hROW⟩ : ∃ ROW : Array Value, ROW = (us.take (i * 3)).toArray ++ Builtin.zeroCells zIt.cells (n + 1 - i) ++ Builtin.zeroCells zIt.cells (G - (n + 1)) := ⟨_, rfl⟩
 have hrz : ∀ ty, (Builtin.append_ #[22, 3] ty #[.slice (some ⟨b, 0, none⟩) i c, .int .i64 ((n : Int) + 1 - (i : Int))]).run Tryz.prog w =
   .ok (.slice (some ⟨w.heap.size, 0, none⟩) (n + 1) G) (w.drew.alloc (.cells ROW 28)) := fun ty => by
  have h := Lib.run_append_grow_zeros w 22 3 ty 28 i0 _ .i64 .i64 Tryz.underlying22 Tryz.underlying3 hi0 hz0 (some ⟨b, 0, none⟩) i c (us.take (i * 3)) hold (n + 1 - i) (by omega) (by omega) (by omega) (by omega) (by rw [hzb]; omega) (by rw [hzb, hik]; exact growslice_fits hroom (by omega))
  rw [hik, ← hG] at h; rw [hkk, hROW]; exact h
 have hRl : ROW.size = G * 3 := by
  rw [hROW]; simp only [Array.size_append, List.size_toArray, zIt_cells, htl, Nat.sub_mul]; omega
 obtain ⟨W1, hW1⟩ : ∃ W1, W1 = w.drew.alloc (.cells ROW 28) := ⟨_, rfl⟩
 have hN : ∀ j, j < G * 3 -> (W1.cell? ⟨w.heap.size, j, none⟩).isSome = true := fun j hj => by
  rw [hW1, World.cell?_alloc_at (w := w.drew) ROW _ w.heap.size j rfl, Array.getElem?_eq_getElem (by omega)]; rfl
 have hNf : ∀ j, W1.frozen? ⟨w.heap.size, j, none⟩ = false := fun j => by rw [hW1]; exact World.frozen?_alloc_at (w := w.drew) ROW _ w.heap.size j rfl
 have hOb : ∀ j v, w.cell? ⟨b, j, none⟩ = some v -> W1.cell? ⟨b, j, none⟩ = some v := fun j v h => by rw [hW1, World.cell?_alloc_past (w := w.drew) _ b j hbw]; exact h
 have hOv : ∀ j v, w.cell? ⟨vb, j, none⟩ = some v -> W1.cell? ⟨vb, j, none⟩ = some v := fun j v h => by rw [hW1, World.cell?_alloc_past (w := w.drew) _ vb j hvw]; exact h
 have hcpA : ∀ (W : World), (∀ x, W.cell? x = W1.cell? x) -> (∀ x, W.frozen? x = W1.frozen? x) -> ∀ ty dc, (Builtin.copy_ #[22, 22] ty #[.slice (some ⟨w.heap.size, i * 3, none⟩) (n + 1 - i) dc, .slice (some ⟨vb, 0, none⟩) 1 vc]).run Tryz.prog W = .ok (goInt ((1 : Nat) : Int)) (W.setCells w.heap.size (i * 3) xs) := fun W hWc hWf ty dc => by
  have h := run_copy_z (P := Tryz.prog) W 22 22 ty 28 3 w.heap.size (i * 3) (n + 1 - i) dc ⟨vb, 0, none⟩ 1 vc xs Tryz.underlying22 hsz (by rw [hxs, show Nat.min 1 (n + 1 - i) = 1 from Nat.min_eq_left (by omega)])
   (fun j v hj => by rw [Addr.add_lit, Nat.zero_add, hWc]; exact hOv _ v (hvs j v hj))
   (fun j hj => by rw [hWc]; exact hN _ (by omega)) (fun j hj => by rw [hWf]; exact hNf _) h1v
  rw [h]; rw [show Nat.min 1 (n + 1 - i) = 1 from Nat.min_eq_left (by omega)]
 have hGi : ¬ (G = i) := by omega
 have hGim : ¬ (G = i + 1) := by omega
 have hci : ¬ (c = i) := by omega
 have hbN : b ≠ w.heap.size := by omega
 have hdl : (us.drop (i * 3)).length = (n - i) * 3 := by rw [List.length_drop, hus, Nat.sub_mul]
 have hcpB : ∀ (W : World), (∀ x, W.cell? x = (W1.setCells w.heap.size (i * 3) xs).cell? x) -> (∀ x, W.frozen? x = (W1.setCells w.heap.size (i * 3) xs).frozen? x) -> ∀ ty dc sc, (Builtin.copy_ #[22, 22] ty #[.slice (some ⟨w.heap.size, (i + 1) * 3, none⟩) (n - i) dc, .slice (some ⟨b, i * 3, none⟩) (n - i) sc]).run Tryz.prog W = .ok (goInt ((n - i : Nat) : Int)) (W.setCells w.heap.size ((i + 1) * 3) (us.drop (i * 3))) := fun W hWc hWf ty dc sc => by
  have h := run_copy_z (P := Tryz.prog) W 22 22 ty 28 3 w.heap.size ((i + 1) * 3) (n - i) dc ⟨b, i * 3, none⟩ (n - i) sc (us.drop (i * 3)) Tryz.underlying22 hsz (by rw [hdl, show Nat.min (n - i) (n - i) = n - i from Nat.min_self _])
   (fun j v hj => by
    rw [Addr.add_lit, hWc, World.cell?_setCells_out _ _ _ _ _ (fun h _ => absurd h hbN)]; exact hOb _ v (hcs (i * 3 + j) v (by rwa [List.getElem?_drop] at hj)))
   (fun j hj => by rw [hWc]; exact Go.Proofs.isSome_setCells _ _ _ _ (fun t ht => hN _ (by omega)) _ (hN _ (by omega)))
   (fun j hj => by rw [hWf, World.frozen?_setCells]; exact hNf _) (fun v hv => h1c v (List.mem_of_mem_drop hv))
  rw [h]; rw [show Nat.min (n - i) (n - i) = n - i from Nat.min_self _]
 have hb1 : (0 : Int) ≤ (i : Int) + 1 := by omega
 have hw1 : IntKind.i64.wrap ((i : Int) + 1) = (i : Int) + 1 := by rw [IntKind.wrap_i64]; omega
 have htn : ((i : Int) + 1).toNat = i + 1 := by omega
 refine Calls.mono (R := fun e w' => e = .returned (.slice (some ⟨w.heap.size, 0, none⟩) (n + 1) G) ∧ w' = (((w.alloc (.cells ROW 28)).drew.setCells w.heap.size (i * 3) xs).drew).setCells w.heap.size ((i + 1) * 3) (us.drop (i * 3))) ?_ fun e w' h => ⟨G, ROW, hGn, hROW, h⟩; rw [← hW1] at hrz; subst hW1; have hE1 : ∀ x, ((w.alloc (.cells ROW 28)).drew).cell? x = (w.drew.alloc (.cells ROW 28)).cell? x := fun x => rfl; have hE2 : ∀ x, ((w.alloc (.cells ROW 28)).drew).frozen? x = (w.drew.alloc (.cells ROW 28)).frozen? x := fun x => rfl; have hF1 : ∀ x, (((w.alloc (.cells ROW 28)).drew.setCells w.heap.size (i * 3) xs).drew).cell? x = ((w.drew.alloc (.cells ROW 28)).setCells w.heap.size (i * 3) xs).cell? x := fun x => rfl; have hF2 : ∀ x, (((w.alloc (.cells ROW 28)).drew.setCells w.heap.size (i * 3) xs).drew).frozen? x = ((w.drew.alloc (.cells ROW 28)).setCells w.heap.size (i * 3) xs).frozen? x := fun x => rfl; clear hkk hik hold hROW hG hRl
 go_enter Tryz.func50, Tryz.ntmps50
 go_wp2_with (first
  | (at_builtin; refine Lib.wpList_append_run _ rfl _ _ _ _ rfl _ _ rfl rfl _ _ (hrz _) ?_)
  | (at_builtin; refine wpList_copy_runI _ rfl _ _ 22 22 rfl _ _ rfl rfl (hcpA _ hE1 hE2 _ _) ?_)
  | (at_builtin; refine wpList_copy_runI _ rfl _ _ 22 22 rfl _ _ rfl rfl (hcpB _ (fun _ => rfl) (fun _ => rfl) _ _ _) ?_))
 go_region_law_o (refine step_copy_runI rfl _ _ 22 22 rfl (.slice (some ⟨w.heap.size, (i + 1) * 3, none⟩) (n - i) (G - (i + 1))) (.slice (some ⟨b, i * 3, none⟩) (n - i) (c - i)) (by simp [Act.eval, Act.put]) (by simp [Act.eval, Act.put]) (hcpB _ hF1 hF2 3 (G - (i + 1)) (c - i)) ?_)
 go_wp2
 go_ret
 exact ⟨rfl, rfl⟩
theorem run_clear_z (w : World) (t e ty : TypeId) (z : Value) (zs : List Value) (ht : P.underlying t = some (.slice e)) (hv : ∀ w, (zeroValue e).run P w = .ok z w) (hz : (Builtin.zeroCells z.cells 1).toList = zs) (h1 : ∀ v ∈ zs, v.oneCell' = true) (b o c : Nat)
  (hc : ∀ j, j < zs.length -> (w.cell? ⟨b, o + j, none⟩).isSome = true) (hf : ∀ j, j < zs.length -> w.frozen? ⟨b, o + j, none⟩ = false) :
  (Builtin.clear_ #[t] ty #[.slice (some ⟨b, o, none⟩) 1 c]).run P w = .ok (.tuple #[]) (w.setCells b o zs) := by
 have hst := run_storeCells_cells (P := P) b o zs 0 w (by simpa using hc) (by simpa using hf) h1
 simp only [Nat.add_zero] at hst; simp [Builtin.clear_, run_underlying ht, hv, hz, hst]
def zl3 : List Value := [.int .i64 0, .string ⟨#[]⟩, .slice none 0 0]
set_option maxHeartbeats 2000000 in
set_option maxRecDepth 100000 in
theorem del3 (b n c i : Nat) (us : List Value) (w : World) (hi : i < n) (hnc : n ≤ c) (hbig : n ≤ 1000000) (hus : us.length = n * 3)
  (hcs : ∀ j v, us[j]? = some v -> w.cell? ⟨b, j, none⟩ = some v) (hsp : ∀ j, j < c * 3 -> (w.cell? ⟨b, j, none⟩).isSome = true) (hfz : ∀ j, w.frozen? ⟨b, j, none⟩ = false) (h1c : ∀ v ∈ us, v.oneCell' = true) :
  Calls Tryz.prog 56 #[.slice (some ⟨b, 0, none⟩) n c, .int .i64 i, .int .i64 ((i : Int) + 1)] w fun e w' =>
   e = .returned (.slice (some ⟨b, 0, none⟩) (n - 1) c) ∧ w' = (w.drew.setCells b (i * 3) (us.drop ((i + 1) * 3))).setCells b ((n - 1) * 3) zl3 := by
 have hz2 : ¬ ((i : Int) = (i : Int) + 1) := by omega
 have hin : i ≤ n := by omega
 obtain ⟨i0, hi0, hz0, hz1, hzb⟩ := info_parts Tryz.infoIt; have mixed : Tryz.prog.follows .mixedOrders = true := by kernel_rfl
 have hb1 : (0 : Int) ≤ (i : Int) + 1 := by omega
 have htn : ((i : Int) + 1).toNat = i + 1 := by omega
 have hb3 : (i : Int) + 1 ≤ (n : Int) := by omega
 obtain ⟨news, hnews⟩ : ∃ news, news = us.drop ((i + 1) * 3) := ⟨_, rfl⟩; have hlen : news.length = (n - (i + 1)) * 3 := by rw [hnews, List.length_drop, hus, Nat.sub_mul]
 obtain ⟨A, hA, hsrc⟩ : ∃ A : Addr, (if c = i + 1 then some (⟨b, 0, none⟩ : Addr) else some ⟨b, (i + 1) * 3, none⟩) = some A ∧ Hid (∀ t u, news[t]? = some u -> w.drew.cell? (A.add t) = some u) := by
  by_cases h : c = i + 1
  ·refine ⟨⟨b, 0, none⟩, by simp [h], fun t u hu => ?_⟩
   have h0 : news.length = 0 := by rw [hlen]; omega
   rw [List.length_eq_zero_iff.1 h0] at hu; simp at hu
  ·refine ⟨⟨b, (i + 1) * 3, none⟩, by simp [h], fun t u hu => ?_⟩
   rw [Addr.add_lit]; exact hcs _ u (by rw [hnews, List.getElem?_drop] at hu; exact hu)
 have s1 : Hid (news.length = (n - (i + 1)) * 3) := hlen; have s2 : Hid (∀ u ∈ news, u.oneCell' = true) := fun u hu => h1c u (List.mem_of_mem_drop (by rw [hnews] at hu; exact hu))
 have s3 : Hid (∀ t, t < news.length -> (w.drew.cell? ⟨b, 0 + i * 3 + t, none⟩).isSome = true ∧ w.drew.frozen? ⟨b, 0 + i * 3 + t, none⟩ = false) := fun t ht => by
  rw [hlen] at ht; exact ⟨hsp _ (by omega), hfz _⟩
 obtain ⟨W1, hW1⟩ : ∃ W1, W1 = w.drew.setCells b (0 + i * 3) news := ⟨_, rfl⟩
 have hsp1 : ∀ k, k < c * 3 -> (W1.cell? ⟨b, k, none⟩).isSome = true := fun k hk => by
  rw [hW1]; exact Go.Proofs.isSome_setCells b news (0 + i * 3) w.drew (fun j hj => hsp _ (by rw [hlen] at hj; omega)) k (hsp k hk)
 have hfz1 : ∀ k, W1.frozen? ⟨b, k, none⟩ = false := fun k => by rw [hW1, World.frozen?_setCells]; exact hfz _
 obtain ⟨m, hm⟩ : ∃ m, m = i + (n - (i + 1)) := ⟨_, rfl⟩; have hm1 : m = n - 1 := by omega
 have hcl : ∀ ty, (Builtin.clear_ #[22] ty #[.slice (some ⟨b, (i + (n - (i + 1))) * 3, none⟩) (n - (i + (n - (i + 1)))) (c - (i + (n - (i + 1))))]).run Tryz.prog W1 = .ok (.tuple #[]) (W1.setCells b ((n - 1) * 3) zl3) := fun ty => by
  rw [← hm, hm1, show n - (n - 1) = 1 by omega]
  exact run_clear_z (P := Tryz.prog) W1 22 28 ty zIt zl3 Tryz.underlying22 (fun w => Tryz.zeroValue28 w) (by kernel_rfl) (by intro v hv; simp [zl3] at hv; rcases hv with rfl | rfl | rfl <;> rfl) b ((n - 1) * 3) _ (fun j hj => hsp1 _ (by simp [zl3] at hj; omega)) (fun j hj => hfz1 _)
 have hW : Hid (W1 = w.drew.setCells b (0 + i * 3) news) := hW1; have hic : i ≤ c := by omega
 have hjc : i + 1 ≤ c := by omega
 have hgoal : Aside ((W1.setCells b ((n - 1) * 3) zl3) = (w.drew.setCells b (i * 3) (us.drop ((i + 1) * 3))).setCells b ((n - 1) * 3) zl3) := by
  show _ = _; rw [hW1, hnews, Nat.zero_add]
 have hgo2 : Aside (i + (n - (i + 1)) = n - 1) := by show _ = _; omega
 clear hW1 hsp1 hfz1 hnews hlen hm hm1 hsp hfz hcs h1c hus
 go_enter Tryz.func56, Tryz.ntmps56
 go_wp2_with fail
 go_region_law_o (refine step_append_room rfl (.tmp 22) (.tmp 25) 22 rfl 28 i0 3 Tryz.underlying22 hi0 hz1 b 0 i c (by simp [Act.eval, Act.put]) A (n - (i + 1)) (c - (i + 1)) news (by simp [Act.eval, Act.put, hA, htn]) s1.out hsrc.out s2.out (by omega) s3.out ?_; rw [← hW.out])
 go_wp2
 go_ret
 exact ⟨by rw [hgo2.out]; rfl, hgoal.out⟩
end Go.AM
namespace Go.AM
open Go.CK Go.RowKit Go.Proofs
section
variable {E : Entry} {G : Gh} {s : St} {a : Act} {w : World}
theorem RS.cells0 (h : RS E G s a w) {b : Nat} {cs : List AV} (hb : boxCells s.bs b = some cs) : ∃ (vs : Array Value) (T : TypeId), w.heap[G.σ b]? = some (.cells vs T (0, 0)) ∧ cs.length ≤ vs.size ∧ w.shape? (G.σ b) = some (T, vs.size) ∧ (∀ j, w.frozen? ⟨G.σ b, j, none⟩ = false) ∧ ∀ j, j < cs.length -> (w.cell? ⟨G.σ b, j, none⟩).isSome = true := by
 obtain ⟨vs, T, h1, h2⟩ := h.box b cs hb; have h3 : w.heap[G.σ b]? = some (.cells vs.toList.toArray T (0, 0)) := by simpa using h1
 refine ⟨vs, T, h1, h2, by simp [World.shape?, h1], fun j => (cell_at0 h3 j).2, fun j hj => ?_⟩
 rw [(cell_at0 h3 j).1, List.getElem?_eq_getElem (by simpa using Nat.lt_of_lt_of_le hj h2)]
 rfl
theorem RS.rowSet (h : RS E G s a w) {b : Nat} {cs : List AV} (hb : boxCells s.bs b = some cs) (o : Nat) (xs : List AV) (us : List Value) (hl : o + xs.length ≤ cs.length) (hu : us.length = xs.length) (h1 : ∀ u ∈ us, u.oneCell' = true)
  (hv : ∀ j (hj : j < xs.length) u, us[j]? = some u -> RV G.M G.σ s.bs.length xs[j] u) : RS E G (s.setBox b (setAt cs o xs)) a (w.setCells (G.σ b) o us) := by
 obtain ⟨w', h5, h6⟩ := storeCells_run (P := Tryz.prog) us xs s w b o 0 cs h hb (by omega) hu h1 hv
 obtain ⟨vs, T, c1, c2, _, c4, c5⟩ := h.cells0 hb; have h7 := run_storeCells_cells (P := Tryz.prog) (G.σ b) o us 0 w (fun j hj => c5 _ (by omega)) (fun j hj => c4 _) h1
 rw [h5] at h7; cases h7; exact h6
theorem RS.rowMove (h : RS E G s a w) {b : Nat} {cs : List AV} (hbc : boxCells s.bs b = some cs) (cs2 : List AV) (hl : cs2.length ≤ cs.length) (hc : ∀ (j : Nat) x, cs2[j]? = some x -> x = .top ∨ (cs[j]? = some x ∧ x.deown = x)) :
  RS E { G with σ := fun c => if c = s.bs.length then G.σ b else G.σ c } ⟨s.env, s.bs.set b .dead ++ [.row cs2], s.lo⟩ a w := by
 have hlt := boxCells_lt hbc
 have hnew : ∀ c ds, boxCells (s.bs.set b .dead ++ [.row cs2]) c = some ds -> (c = s.bs.length ∧ ds = cs2) ∨ (c < s.bs.length ∧ c ≠ b ∧ boxCells s.bs c = some ds) := fun c ds hd => by
  rw [boxCells_append, List.length_set] at hd
  by_cases ec : c = s.bs.length
  ·rw [if_pos ec, row_cs] at hd; split at hd
   ·cases hd
   ·cases hd; exact .inl ⟨ec, rfl⟩
  ·rw [if_neg ec, boxCells_setDead] at hd; split at hd
   ·cases hd
   ·rename_i h0; exact .inr ⟨boxCells_lt hd, h0, hd⟩
 refine h.reb (fun c => if c = s.bs.length then b else c) (by simp) (fun c hc => by rw [if_neg (by omega)]) (fun c x hx => boxLoop_kill (boxLoop_append rfl hx)) (fun c cs' hd => ?_) (fun c c' ds ds' hd hd' e => ?_)
 ·rcases hnew c cs' hd with ⟨rfl, rfl⟩ | ⟨h1, h2, h3⟩
  ·simp only [if_true]; refine ⟨cs, hbc, trivial, hl, fun j x hx => ?_⟩; rcases hc j x hx with h | ⟨h, h'⟩
   ·exact .inl h
   ·exact .inr ⟨h, .inr h'⟩
  ·simp only [show c ≠ s.bs.length by omega, if_false]
   exact ⟨cs', h3, trivial, Nat.le_refl _, fun j x hx => .inr ⟨hx, .inl trivial⟩⟩
 ·rcases hnew c ds hd with ⟨rfl, _⟩ | ⟨h1, h2, h3⟩ <;> rcases hnew c' ds' hd' with ⟨rfl, _⟩ | ⟨h1', h2', h3'⟩
  ·rfl
  ·rw [if_pos rfl, if_neg (by omega)] at e
   exact absurd e.symm h2'
  ·rw [if_pos rfl, if_neg (by omega)] at e
   exact absurd e h2
  ·rw [if_neg (by omega), if_neg (by omega)] at e
   exact e
end
theorem rowF_bc {α : Type} {f : α -> AV} {z k b : Nat} {l : List α} {bs : List Box} (hp : Plain f z) (hb : bs[b]? = some (rowF f z k l)) (hk : 0 < k) (hl : l.length ≤ k) : boxCells bs b = some (cellsOf (l.map f) ++ List.replicate ((k - l.length) * z) .top) ∧ (cellsOf (l.map f) ++ List.replicate ((k - l.length) * z) AV.top).length = k * z := by
 have hlen : (cellsOf (l.map f) ++ List.replicate ((k - l.length) * z) AV.top).length = k * z := by
  rw [List.length_append, hp.len, List.length_replicate, ← Nat.add_mul]; congr 1; omega
 refine ⟨?_, hlen⟩
 have hne : cellsOf (l.map f) ++ List.replicate ((k - l.length) * z) AV.top ≠ [] := fun e => by
  rw [e] at hlen; have := Nat.mul_pos hk hp.pos; simp at hlen; omega
 simp only [boxCells, hb, rowF, Option.bind_some, row_cs, if_neg hne]
theorem cells_td {α : Type} {f : α -> AV} {z : Nat} (hp : Plain f z) (l : List α) {i : Nat} (hi : i ≤ l.length) : cellsOf ((l.take i).map f) = (cellsOf (l.map f)).take (i * z) ∧ cellsOf ((l.drop i).map f) = (cellsOf (l.map f)).drop (i * z) := by
 have e : cellsOf (l.map f) = cellsOf ((l.take i).map f) ++ cellsOf ((l.drop i).map f) := by
  rw [← cellsOf_app, ← List.map_append, List.take_append_drop]
 have hl : (cellsOf ((l.take i).map f)).length = i * z := by rw [hp.len, List.length_take, Nat.min_eq_left hi]
 rw [e]; exact ⟨by rw [← hl, List.take_left], by rw [← hl, List.drop_left]⟩
def insA {α : Type} (l : List α) (i : Nat) (x : α) : List α := l.take i ++ x :: l.drop i
theorem insA_len {α : Type} (l : List α) (i : Nat) (x : α) : (insA l i x).length = l.length + 1 := by
 simp only [insA, List.length_append, List.length_take, List.length_cons, List.length_drop]; omega
theorem insA_cells {α : Type} {f : α -> AV} {z : Nat} (hp : Plain f z) (l : List α) {i : Nat} (hi : i ≤ l.length) (x : α) : cellsOf ((insA l i x).map f) = (cellsOf (l.map f)).take (i * z) ++ ((f x).cells ++ (cellsOf (l.map f)).drop (i * z)) := by
 obtain ⟨h1, h2⟩ := cells_td hp l hi; rw [insA, List.map_append, List.map_cons, cellsOf_app, h1, cellsOf, h2]
theorem shift_cells {α : Type} {f : α -> AV} {z : Nat} (hp : Plain f z) (l : List α) {i : Nat} (hi : i ≤ l.length) (x : α) (pad : List AV) (hpad : z ≤ pad.length) {j : Nat} (hj : j < (l.length + 1) * z) :
  (setAt (setAt (cellsOf (l.map f) ++ pad) ((i + 1) * z) ((cellsOf (l.map f)).drop (i * z))) (i * z) (f x).cells)[j]? = (cellsOf ((insA l i x).map f))[j]? := by
 have hA := hp.len (f := f) l; rw [insA_cells hp l hi]; generalize cellsOf (l.map f) = A at hA ⊢; have hz := hp.sz x; have hiz : i * z ≤ l.length * z := Nat.mul_le_mul_right _ hi; have e1 : (i + 1) * z = i * z + z := Nat.succ_mul _ _; have e2 : (l.length + 1) * z = l.length * z + z := Nat.succ_mul _ _; rw [setAt_get, setAt_get, setAt_length, List.length_drop, List.length_append, hA, hz, e1]
 by_cases h1 : j < i * z
 ·rw [if_neg (by omega), if_neg (by omega), List.getElem?_append_left (by omega), List.getElem?_append_left (by rw [List.length_take]; omega), List.getElem?_take, if_pos h1]
 ·have htl : (A.take (i * z)).length = i * z := by rw [List.length_take, hA, Nat.min_eq_left hiz]
  have e3 : (A.take (i * z) ++ ((f x).cells ++ A.drop (i * z)))[j]? = ((f x).cells ++ A.drop (i * z))[j - i * z]? := by
   rw [List.getElem?_append_right (by rw [htl]; omega), htl]
  rw [e3]
  by_cases h2 : j < i * z + z
  ·rw [if_pos ⟨by omega, h2, by omega⟩, List.getElem?_append_left (by omega)]
  ·rw [if_neg (by omega), if_pos ⟨by omega, by omega, by omega⟩, List.getElem?_append_right (by omega), List.getElem?_drop, List.getElem?_drop, hz]
   congr 1; omega
theorem grow_cells {α : Type} {f : α -> AV} {z : Nat} (hp : Plain f z) (l : List α) {i : Nat} (hi : i ≤ l.length) (x : α) (c0 pad : List AV) (hc : c0 = (cellsOf (l.map f)).take (i * z) ++ pad) (hpad : (l.length + 1) * z ≤ i * z + pad.length) {j : Nat} (hj : j < (l.length + 1) * z) :
  (setAt (setAt c0 (i * z) (f x).cells) ((i + 1) * z) ((cellsOf (l.map f)).drop (i * z)))[j]? = (cellsOf ((insA l i x).map f))[j]? := by
 have hA := hp.len (f := f) l; rw [insA_cells hp l hi]; generalize cellsOf (l.map f) = A at hA hc ⊢; have hz := hp.sz x; have hiz : i * z ≤ l.length * z := Nat.mul_le_mul_right _ hi; have e1 : (i + 1) * z = i * z + z := Nat.succ_mul _ _; have e2 : (l.length + 1) * z = l.length * z + z := Nat.succ_mul _ _; have htl : (A.take (i * z)).length = i * z := by rw [List.length_take, hA, Nat.min_eq_left hiz]
 have hcl : c0.length = i * z + pad.length := by rw [hc, List.length_append, htl]
 rw [setAt_get, setAt_get, setAt_length, List.length_drop, hcl, hA, hz, e1]
 by_cases h1 : j < i * z
 ·rw [if_neg (by omega), if_neg (by omega), hc, List.getElem?_append_left (by omega), List.getElem?_append_left (by omega)]
 ·have e3 : (A.take (i * z) ++ ((f x).cells ++ A.drop (i * z)))[j]? = ((f x).cells ++ A.drop (i * z))[j - i * z]? := by
   rw [List.getElem?_append_right (by rw [htl]; omega), htl]
  rw [e3]
  by_cases h2 : j < i * z + z
  ·rw [if_neg (by omega), if_pos ⟨by omega, h2, by omega⟩, List.getElem?_append_left (by omega)]
  ·rw [if_pos ⟨by omega, by omega, by omega⟩, List.getElem?_append_right (by omega), List.getElem?_drop, List.getElem?_drop, hz]
   congr 1; omega
theorem zIt_av : avOf zIt = some (.agg [.int .i64 0, .str ⟨#[]⟩, .sl .full []]) := by kernel_rfl
theorem put0 {E : Entry} {G : Gh} {bs : List Box} {lo : Nat} {w : World} (h : RS E G ⟨[], bs, lo⟩ ⟨#[.tuple #[]], []⟩ w) (he : 0 < E.nt) {x : AV} {v : Value} (hv : RV G.M G.σ bs.length x v) : RS E G ⟨[(0, x)], bs, lo⟩ ⟨#[v], []⟩ w := h.put (k := 0) he (x := x) (v := v) hv
set_option maxHeartbeats 1000000 in
set_option maxRecDepth 100000 in
theorem insItems {bs : List Box} {b vb k i : Nat} {l : List It} {x : It} (hb : bs[b]? = some (rowF It.av 3 k l)) (hv : bs[vb]? = some (rowF It.av 3 1 [x])) (hne : vb ≠ b) (hi : i ≤ l.length) (hk : l.length ≤ k) (hn : l.length ≤ 1000000) :
  AM.Sem Tryz.prog 50 [.bsl b l.length k, .int .i64 i, .bsl vb 1 1] bs fun r bs' => ∃ k', l.length + 1 ≤ k' ∧ r = .bsl bs.length (l.length + 1) k' ∧ bs' = bs.set b .dead ++ [rowF It.av 3 k' (insA l i x)] := by
 intro E G a0 w args lo hrs hlen hav; obtain ⟨u, hu, rfl⟩ := insArgsN hlen hav; obtain ⟨ad, rfl, hbl, _, hkl, had⟩ := hu.inv_bsl; have hvc := rowF_bc plainIt hv Nat.zero_lt_one (by simp)
 have hels : ∀ (m k : Nat) (c : Nat) (L : List It), bs[c]? = some (rowF It.av 3 k L) -> m = L.length -> elsK 3 bs (.bsl c m k) fun n' ys' => n' = L.length ∧ ys' = cellsOf (L.map It.av) := fun m k c L hc hm => by
  subst hm; simp only [elsK, rowAt_row hc, plainIt.take]; refine ⟨⟨by rw [List.length_append, plainIt.len]; exact Nat.le_add_right _ _, fun x hx => (plainIt.mem hx).1⟩, ?_⟩
  exact ⟨trivial, trivial⟩
 have hvr : RV G.M G.σ bs.length (.bsl vb 1 1) (.slice (some ⟨G.σ vb, 0, none⟩) 1 1) := .bsl _ _ _ _ (List.getElem?_eq_some_iff.1 hv).1 (Nat.le_refl _) (by unfold lim; omega) (fun _ => rfl)
 obtain ⟨_, xv, cv, Bv, ov, xs, hxv, v1, v2, v3, v4, v5⟩ := hrs.els hvr (hels 1 1 vb [x] hv rfl)
 have hvs : ∀ j v, xs[j]? = some v -> w.cell? ⟨G.σ vb, j, none⟩ = some v := fun j v hj => by
  have h1 := v5 j v hj; have h2 := v4 (by simp)
  rw [h2] at hxv; cases hxv
  rwa [Nat.zero_add] at h1
 obtain ⟨_, xb, cb, Bb, ob, us, hxb, u1, u2, u3, u4, u5⟩ := hrs.els hu (hels l.length k b l hb rfl); obtain ⟨i0, hi0, hz0, hz1, hzb⟩ := info_parts Tryz.infoIt; have hxs : xs.length = 3 := by rw [v1]; rfl
 by_cases hin : i = l.length
 ·subst hin
  obtain ⟨k', v', G', w', q1, q2, q3, q4⟩ := appB_core (P := Tryz.prog) (e := 28) (zv := zIt) (X := Builtin.firstCells 3 1 (.slice (some ⟨G.σ vb, 0, none⟩) 1 1)) (run := (Builtin.append_ #[22, 22] 22 #[.slice ad l.length k, .slice (some ⟨G.σ vb, 0, none⟩) 1 1]).run Tryz.prog w) hrs.call0 (z := 3) (by kernel_rfl) zIt_av (by kernel_rfl) (x := .bsl b l.length k) (v := .slice ad l.length k) hu (m := l.length) (k := k) (n := 1) (ob := some b)
   (srcK_row hb ⟨rfl, rfl, rfl, rfl⟩) (by omega) (by rw [List.length_append, plainIt.len, List.length_replicate, ← Nat.add_mul]; exact Nat.mul_le_mul_right _ (by omega)) (by unfold lim; omega) (fun y hy => by rw [plainIt.take] at hy; exact (plainIt.mem hy).1) (ys := cellsOf ([x].map It.av)) rfl v1 v2 v3 (firstCells_run w v1 (fun _ => rfl) (fun j u hu => by rw [Nat.zero_add]; exact hvs j u hu)) (firstCells_run w.drew v1 (fun _ => rfl) (fun j u hu => by rw [Nat.zero_add]; exact hvs j u hu))
   (fun ad' hv => by cases hv; rw [append_unfold (P := Tryz.prog) Tryz.underlying22 hi0 hz0 hz1 hzb 22 ad l.length k (some ⟨G.σ vb, 0, none⟩) 1 1 w (by unfold lim; omega) (by omega)]; cases ad <;> rfl)
  refine (ins3_end ad l.length k (G.σ vb) 1 w hk hn (v' := v') (w' := w') (fun ty => q2)).mono ?_; rintro e w2 ⟨rfl, rfl⟩; refine ⟨v', _, _, _, rfl, ⟨k', q1, rfl, ?_⟩, put0 q3 Nat.zero_lt_one (by simpa [killO_len] using q4)⟩
  rw [plainIt.take, insA, List.take_length, List.drop_length, rowF, List.map_append, cellsOf_app, List.length_append]; simp only [killO, List.append_assoc]; rfl
 ·have hcs : ∀ j v, us[j]? = some v -> w.cell? ⟨G.σ b, j, none⟩ = some v := fun j v hj => by
   have h1 := u5 j v hj; have h2 := u4 (by omega)
   rw [h2] at hxb; rw [had (by omega)] at hxb
   cases hxb
   rwa [Nat.zero_add] at h1
  obtain ⟨hbc, hbl2⟩ := rowF_bc plainIt hb (by omega) hk
  obtain ⟨Vb, Tb, b1, b2, b3, b4, b5⟩ := hrs.cells0 hbc; obtain ⟨Vv, Tv, w1, w2, w3, w4, w5⟩ := hrs.cells0 hvc.1; have hσ : G.σ vb ≠ G.σ b := fun e => hne (hrs.inj _ _ _ _ hvc.1 hbc e); obtain rfl : ad = some ⟨G.σ b, 0, none⟩ := had (by omega)
  by_cases hroom : l.length + 1 ≤ k
  ·refine (ins3_shift (G.σ b) l.length k i (G.σ vb) 1 us xs w (by omega) hroom hn hσ u1 hxs hcs (fun j hj => b5 j (by rw [hbl2]; exact hj)) b4 hvs u2 v2 Tv Tb Vv.size Vb.size w3 b3 (by rw [hbl2] at b2; omega) w4).mono ?_
   rintro e w' ⟨rfl, rfl⟩
   have h1 := hrs.call0.drew.rowSet hbc ((i + 1) * 3) ((cellsOf (l.map It.av)).drop (i * 3)) (us.drop (i * 3)) (by rw [hbl2, List.length_drop, plainIt.len]; omega) (by rw [List.length_drop, List.length_drop, u1, plainIt.len]) (fun u hu => u2 u (List.mem_of_mem_drop hu)) (fun j hj u hu => by
    rw [List.getElem_drop]; exact u3 _ _ u (by rwa [List.getElem?_drop] at hu))
   have hc1 : boxCells ((bs.set b (.cells (setAt (cellsOf (l.map It.av) ++ List.replicate ((k - l.length) * 3) AV.top) ((i + 1) * 3) ((cellsOf (l.map It.av)).drop (i * 3)))))) b = some (setAt (cellsOf (l.map It.av) ++ List.replicate ((k - l.length) * 3) AV.top) ((i + 1) * 3) ((cellsOf (l.map It.av)).drop (i * 3))) := by
    rw [boxCells_set hbc, if_pos rfl]
   have h2 := h1.rowSet hc1 (i * 3) x.av.cells xs (by rw [setAt_length, hbl2, plainIt.sz]; omega) (by rw [hxs, plainIt.sz]) v2 (fun j hj u hu => by
    have := v3 j (by rw [List.map_singleton, cellsOf, cellsOf, List.append_nil]; exact hj) u hu
    simpa [St.setBox, cellsOf] using this)
   have hc2 := hc1
   have h3 := h2.rowMove (b := b) (by simp only [St.setBox]; rw [boxCells_set hc1, if_pos rfl]) (cellsOf ((insA l i x).map It.av) ++ List.replicate ((k - (l.length + 1)) * 3) .top) (by
    rw [setAt_length, setAt_length, hbl2, List.length_append, plainIt.len, insA_len, List.length_replicate, ← Nat.add_mul]; exact Nat.mul_le_mul_right _ (by omega)) (fun j y hy => by
    by_cases hj : j < (l.length + 1) * 3
    ·rw [List.getElem?_append_left (by rw [plainIt.len, insA_len]; exact hj)] at hy
     refine .inr ⟨?_, (plainIt.mem (List.mem_of_getElem? hy)).1⟩; rw [shift_cells plainIt l hi x _ (by rw [List.length_replicate]; omega) hj]
     exact hy
    ·rw [List.getElem?_append_right (by rw [plainIt.len, insA_len]; omega)] at hy
     exact .inl (List.mem_replicate.1 (List.mem_of_getElem? hy)).2)
   refine ⟨_, _, _, _, rfl, ⟨k, hroom, rfl, ?_⟩, put0 h3 Nat.zero_lt_one (.bsl _ _ _ _ ?_ ?_ ?_ ?_)⟩
   ·simp only [St.setBox, List.set_set, rowF, insA_len]
   ·simp [St.setBox]
   ·exact hroom
   ·unfold lim; omega
   ·intro _; simp [St.setBox]
  ·refine (ins3_grow (G.σ b) l.length k i (G.σ vb) 1 us xs w (by omega) hk (by omega) hn u1 hxs hcs hvs u2 v2).mono ?_
   rintro e w' ⟨K, ROW, hK, hROW, rfl, rfl⟩; have htl : (us.take (i * 3)).length = i * 3 := by rw [List.length_take, u1]; omega
   have hRl : ROW.toList.length = K * 3 := by
    rw [hROW]; simp only [Array.toList_append, List.length_append, Array.length_toList, List.size_toArray, zIt_cells, htl, Nat.sub_mul]; omega
   have hz3 : ∀ n, ∀ u ∈ (Builtin.zeroCells zIt.cells n).toList, u.oneCell' = true := fun n u hu => by
    simp only [Builtin.zeroCells, Array.toList_map, List.mem_map] at hu; obtain ⟨j, hj, rfl⟩ := hu; obtain ⟨z1, z2, _⟩ := (RV.flat (σ := fun _ => 0) (n := 0) (avOf_fv (M := G.M) zIt_av)).cells (by kernel_rfl)
    have hp : 0 < zIt.cells.size := by decide
    have hlt : j % zIt.cells.size < zIt.cells.size := Nat.mod_lt _ hp; have hm := z2 (zIt.cells[j % zIt.cells.size]'hlt) (by simp)
    rw [getElem!_pos zIt.cells _ hlt]; exact hm
   have h0 := hrs.call0.newBoxG (.row ((cellsOf (l.map It.av)).take (i * 3) ++ List.replicate (K * 3 - i * 3) .top)) ((cellsOf (l.map It.av)).take (i * 3) ++ List.replicate (K * 3 - i * 3) .top) rfl (fun ds e => by
    rw [row_cs] at e; split at e
    ·cases e
    ·cases e; rfl) ROW.toList 28 (by rw [hRl, List.length_append, List.length_take, plainIt.len, List.length_replicate]; omega) (fun u hu => by
    rw [hROW] at hu; simp only [Array.toList_append, List.mem_append] at hu; rcases hu with (hu | hu) | hu
    ·exact u2 u (List.mem_of_mem_take (by simpa using hu))
    ·exact hz3 _ u hu
    ·exact hz3 _ u hu) (fun j hj u hu => by
    by_cases hj1 : j < i * 3
    ·rw [List.getElem_append_left (by rw [List.length_take, plainIt.len]; omega), List.getElem_take]
     refine u3 j _ u ?_; rw [hROW] at hu; simp only [Array.toList_append, List.append_assoc] at hu; rw [List.getElem?_append_left (by omega), List.getElem?_take, if_pos hj1] at hu
     exact hu
    ·rw [List.getElem_append_right (by rw [List.length_take, plainIt.len]; omega), List.getElem_replicate]
     exact .flat (.top _))
   obtain ⟨c0, hc0⟩ : ∃ c0, c0 = (cellsOf (l.map It.av)).take (i * 3) ++ List.replicate (K * 3 - i * 3) AV.top := ⟨_, rfl⟩; rw [← hc0] at h0; have hA := plainIt.len l; have hcl : c0.length = K * 3 := by rw [hc0, List.length_append, List.length_take, hA, List.length_replicate]; omega
   have hc0n : c0 ≠ [] := fun e => by rw [e] at hcl; simp at hcl; omega
   have hb0 : boxCells (bs ++ [Box.row c0]) bs.length = some c0 := by rw [boxCells_append, if_pos rfl, row_cs, if_neg hc0n]
   have h1 := h0.drew.rowSet hb0 (i * 3) x.av.cells xs (by rw [hcl, plainIt.sz]; omega) (by rw [hxs, plainIt.sz]) v2 (fun j hj u hu => by
    have := v3 j (by rw [List.map_singleton, cellsOf, cellsOf, List.append_nil]; exact hj) u hu
    have h9 : RV G.M G.σ bs.length (x.av.cells[j]) u := by simpa [cellsOf] using this
    exact h9.mono (Hp.le_refl _) (by simp) (fun c hc => by dsimp only; rw [if_neg (by omega)]))
   have hb1 : boxCells ((bs ++ [Box.row c0]).set bs.length (Box.cells (setAt c0 (i * 3) x.av.cells))) bs.length = some (setAt c0 (i * 3) x.av.cells) := by rw [boxCells_set hb0, if_pos rfl]
   have h2 := h1.drew.rowSet hb1 ((i + 1) * 3) ((cellsOf (l.map It.av)).drop (i * 3)) (us.drop (i * 3)) (by rw [setAt_length, hcl, List.length_drop, hA]; omega) (by rw [List.length_drop, List.length_drop, u1, hA]) (fun u hu => u2 u (List.mem_of_mem_drop hu)) (fun j hj u hu => by
    have h9 : RV G.M G.σ bs.length (((cellsOf (l.map It.av)).drop (i * 3))[j]) u := by
     rw [List.getElem_drop]; exact u3 _ _ u (by rwa [List.getElem?_drop] at hu)
    exact h9.mono (Hp.le_refl _) (by simp [St.setBox]) (fun c hc => by dsimp only; rw [if_neg (by omega)]))
   have h3 := h2.reb (bs' := bs.set b .dead ++ [.row (cellsOf ((insA l i x).map It.av) ++ List.replicate ((K - (l.length + 1)) * 3) .top)]) (σ' := fun c => if c = bs.length then w.heap.size else G.σ c) id (by simp [St.setBox]) (fun c hc => rfl) (fun c y hy => by
    have h9 := boxLoop_kill (boxLoop_append rfl hy); have hlt := boxLoop_lt h9; simp only [boxLoop, St.setBox] at h9 ⊢; rw [List.getElem?_set_ne (by omega), List.getElem?_set_ne (by omega), List.getElem?_append_left hlt]
    exact h9) (fun c cs' hc => by
    simp only [id, St.setBox]; rw [boxCells_append, List.length_set] at hc
    by_cases ec : c = bs.length
    ·rw [if_pos ec, row_cs] at hc; subst ec; rw [boxCells_set hb1, if_pos rfl]; split at hc
     ·cases hc
     ·cases hc; refine ⟨_, rfl, by simp, ?_, fun j y hy => ?_⟩
      ·rw [setAt_length, setAt_length, hcl, List.length_append, plainIt.len, insA_len, List.length_replicate, ← Nat.add_mul]; exact Nat.mul_le_mul_right _ (by omega)
      ·by_cases hj : j < (l.length + 1) * 3
       ·rw [List.getElem?_append_left (by rw [plainIt.len, insA_len]; exact hj)] at hy
        refine .inr ⟨?_, .inl trivial⟩; rw [grow_cells plainIt l hi x c0 _ hc0 (by rw [List.length_replicate]; omega) hj]
        exact hy
       ·rw [List.getElem?_append_right (by rw [plainIt.len, insA_len]; omega)] at hy
        exact .inl (List.mem_replicate.1 (List.mem_of_getElem? hy)).2
    ·rw [if_neg ec, boxCells_setDead] at hc; split at hc
     ·cases hc
     ·have hlt := boxCells_lt hc; refine ⟨cs', ?_, by simp [ec], Nat.le_refl _, fun j x hx => .inr ⟨hx, .inl trivial⟩⟩
      rw [boxCells_set hb1, if_neg ec, boxCells_set hb0, if_neg ec, boxCells_append, if_neg ec]; exact hc) (fun c c' _ _ _ _ e => e)
   simp only [St.setBox] at h3; refine ⟨_, _, bs.set b .dead ++ [rowF It.av 3 K (insA l i x)], _, rfl, ⟨K, hK, rfl, rfl⟩, put0 (E := callE G bs w 1) (G := { M := G.M, σ := fun c => if c = bs.length then w.heap.size else G.σ c, cl := noSlots G.cl }) ?_ Nat.zero_lt_one (.bsl _ _ _ _ ?_ ?_ ?_ ?_)⟩
   ·have e4 : rowF It.av 3 K (insA l i x) = .row (cellsOf ((insA l i x).map It.av) ++ List.replicate ((K - (l.length + 1)) * 3) AV.top) := by simp only [rowF, insA_len]
    rw [e4]; simp only [if_true] at h3; exact h3
   ·simp
   ·exact hK
   ·unfold lim; omega
   ·intro _; simp
theorem erase_cells {α : Type} {f : α -> AV} {z : Nat} (hp : Plain f z) (l : List α) {i : Nat} (hi : i < l.length) (pad Z : List AV) {j : Nat} (hj : j < (l.length - 1) * z) :
  (setAt (setAt (cellsOf (l.map f) ++ pad) (i * z) ((cellsOf (l.map f)).drop ((i + 1) * z))) ((l.length - 1) * z) Z)[j]? = (cellsOf ((l.take i ++ l.drop (i + 1)).map f))[j]? := by
 have hA := hp.len (f := f) l; have h1 := (cells_td hp l (Nat.le_of_lt hi)).1; have h2 := (cells_td hp l (i := i + 1) hi).2; rw [List.map_append, cellsOf_app, h1, h2]; generalize cellsOf (l.map f) = A at hA ⊢; have hiz : (i + 1) * z ≤ l.length * z := Nat.mul_le_mul_right _ hi; have e1 : (i + 1) * z = i * z + z := Nat.succ_mul _ _; have e2 : (l.length - 1) * z = l.length * z - z := by rw [Nat.sub_mul, Nat.one_mul]
 have htl : (A.take (i * z)).length = i * z := by rw [List.length_take, hA]; omega
 rw [setAt_get, setAt_get, setAt_length, List.length_drop, List.length_append, hA]; rw [if_neg (by omega)]
 by_cases h1 : j < i * z
 ·rw [if_neg (by omega), List.getElem?_append_left (by omega), List.getElem?_append_left (by omega), List.getElem?_take, if_pos h1]
 ·rw [if_pos ⟨by omega, by omega, by omega⟩, List.getElem?_append_right (by omega), htl]
set_option maxHeartbeats 1000000 in
set_option maxRecDepth 100000 in
theorem delItems {bs : List Box} {b k i : Nat} {l : List It} (hb : bs[b]? = some (rowF It.av 3 k l)) (hi : i < l.length) (hk : l.length ≤ k) (hn : l.length ≤ 1000000) :
  AM.Sem Tryz.prog 56 [.bsl b l.length k, .int .i64 i, .int .i64 ((i : Int) + 1)] bs fun r bs' => r = .bsl bs.length (l.length - 1) k ∧ bs' = bs.set b .dead ++ [rowF It.av 3 k (l.take i ++ l.drop (i + 1))] := by
 intro E G a0 w args lo hrs hlen hav
 obtain ⟨u, hu, rfl⟩ : ∃ u, RV G.M G.σ bs.length (.bsl b l.length k) u ∧ args = [u, .int .i64 i, .int .i64 ((i : Int) + 1)] := by
  match args, hlen with
  | [x, y, z], _ =>
   have h0 := hav 0 (by simp) x rfl
   have h1 := hav 1 (by simp) y rfl
   have h2 := hav 2 (by simp) z rfl
   simp only [List.getElem_cons_zero, List.getElem_cons_succ] at h0 h1 h2; exact ⟨x, h0, by rw [h1.inv_int, h2.inv_int]⟩
 obtain ⟨ad, rfl, hbl, _, hkl, had⟩ := hu.inv_bsl
 have hels : elsK 3 bs (.bsl b l.length k) fun n' ys' => n' = l.length ∧ ys' = cellsOf (l.map It.av) := by
  simp only [elsK, rowAt_row hb, plainIt.take]; refine ⟨⟨by rw [List.length_append, plainIt.len]; exact Nat.le_add_right _ _, fun x hx => (plainIt.mem hx).1⟩, ?_⟩
  exact ⟨trivial, trivial⟩
 obtain ⟨_, xb, cb, Bb, ob, us, hxb, u1, u2, u3, u4, u5⟩ := hrs.els hu hels
 have hcs : ∀ j v, us[j]? = some v -> w.cell? ⟨G.σ b, j, none⟩ = some v := fun j v hj => by
  have h1 := u5 j v hj; have h2 := u4 (by omega)
  rw [h2] at hxb; rw [had (by omega)] at hxb
  cases hxb
  rwa [Nat.zero_add] at h1
 obtain ⟨hbc, hbl2⟩ := rowF_bc plainIt hb (by omega) hk
 obtain ⟨Vb, Tb, b1, b2, b3, b4, b5⟩ := hrs.cells0 hbc; obtain rfl : ad = some ⟨G.σ b, 0, none⟩ := had (by omega)
 have hlen2 : (l.take i ++ l.drop (i + 1)).length = l.length - 1 := by rw [List.length_append, List.length_take, List.length_drop]; omega
 refine (del3 (G.σ b) l.length k i us w hi hk hn u1 hcs (fun j hj => b5 j (by rw [hbl2]; exact hj)) b4 u2).mono ?_
 rintro e w' ⟨rfl, rfl⟩
 have h1 := hrs.call0.drew.rowSet hbc (i * 3) ((cellsOf (l.map It.av)).drop ((i + 1) * 3)) (us.drop ((i + 1) * 3)) (by rw [hbl2, List.length_drop, plainIt.len]; omega) (by rw [List.length_drop, List.length_drop, u1, plainIt.len]) (fun u hu => u2 u (List.mem_of_mem_drop hu)) (fun j hj u hu => by
  rw [List.getElem_drop]; exact u3 _ _ u (by rwa [List.getElem?_drop] at hu))
 have hc1 : boxCells ((bs.set b (.cells (setAt (cellsOf (l.map It.av) ++ List.replicate ((k - l.length) * 3) AV.top) (i * 3) ((cellsOf (l.map It.av)).drop ((i + 1) * 3)))))) b = some (setAt (cellsOf (l.map It.av) ++ List.replicate ((k - l.length) * 3) AV.top) (i * 3) ((cellsOf (l.map It.av)).drop ((i + 1) * 3))) := by
  rw [boxCells_set hbc, if_pos rfl]
 have h2 := h1.rowSet hc1 ((l.length - 1) * 3) [.top, .top, .top] zl3 (by rw [setAt_length, hbl2]; simp only [List.length_cons, List.length_nil]; omega) rfl (by intro v hv; simp [zl3] at hv; rcases hv with rfl | rfl | rfl <;> rfl) (fun j hj u hu => by
  have e : ([AV.top, AV.top, AV.top] : List AV)[j] = .top := by
   match j, hj with
   | 0, _ => rfl
   | 1, _ => rfl
   | 2, _ => rfl
  rw [e]; exact .flat (.top _))
 have h3 := h2.rowMove (b := b) (by simp only [St.setBox]; rw [boxCells_set hc1, if_pos rfl]) (cellsOf ((l.take i ++ l.drop (i + 1)).map It.av) ++ List.replicate ((k - (l.length - 1)) * 3) .top) (by
  rw [setAt_length, setAt_length, hbl2, List.length_append, plainIt.len, hlen2, List.length_replicate, ← Nat.add_mul]; exact Nat.mul_le_mul_right _ (by omega)) (fun j y hy => by
  by_cases hj : j < (l.length - 1) * 3
  ·rw [List.getElem?_append_left (by rw [plainIt.len, hlen2]; exact hj)] at hy
   refine .inr ⟨?_, (plainIt.mem (List.mem_of_getElem? hy)).1⟩; rw [erase_cells plainIt l hi _ _ hj]; exact hy
  ·rw [List.getElem?_append_right (by rw [plainIt.len, hlen2]; omega)] at hy
   exact .inl (List.mem_replicate.1 (List.mem_of_getElem? hy)).2)
 refine ⟨_, _, _, _, rfl, ⟨rfl, ?_⟩, put0 h3 Nat.zero_lt_one (.bsl _ _ _ _ ?_ ?_ ?_ ?_)⟩
 ·simp only [St.setBox, List.set_set, rowF, hlen2]
 ·simp [St.setBox]
 ·omega
 ·unfold lim; omega
 ·intro _; simp [St.setBox]
end Go.AM
