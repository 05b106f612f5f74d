/-
  Texts of this claim joined (wip/gen/bundle.py), those declarations only that are needed: IxZ IxMi. By an AI agent.
-/
import Derived.Test.YtcjfkbdbcgmomaaGreatDoorBaz
set_option linter.unusedSimpArgs false
set_option linter.unusedVariables false
namespace Go.AM
open Go.CK Go.RowKit Go.Proofs
section
variable {E : Entry} {G : Gh} {s : St} {a : Act} {w : World}
theorem RS.cells0 (h : RS E G s a w) {b : Nat} {cs : List AV} (hb : boxCells s.bs b = some cs) : ∃ (vs : Array Value) (T : TypeId), w.heap[G.σ b]? = some (.cells vs T (0, 0)) ∧ cs.length ≤ vs.size ∧ w.shape? (G.σ b) = some (T, vs.size) ∧ (∀ j, w.frozen? ⟨G.σ b, j, none⟩ = false) ∧ ∀ j, j < cs.length -> (w.cell? ⟨G.σ b, j, none⟩).isSome = true := by
 obtain ⟨vs, T, h1, h2⟩ := h.box b cs hb; have h3 : w.heap[G.σ b]? = some (.cells vs.toList.toArray T (0, 0)) := by simpa using h1
 refine ⟨vs, T, h1, h2, by simp [World.shape?, h1], fun j => (cell_at0 h3 j).2, fun j hj => ?_⟩
 rw [(cell_at0 h3 j).1, List.getElem?_eq_getElem (by simpa using Nat.lt_of_lt_of_le hj h2)]
 rfl
theorem RS.rowSet (h : RS E G s a w) {b : Nat} {cs : List AV} (hb : boxCells s.bs b = some cs) (o : Nat) (xs : List AV) (us : List Value) (hl : o + xs.length ≤ cs.length) (hu : us.length = xs.length) (h1 : ∀ u ∈ us, u.oneCell' = true)
  (hv : ∀ j (hj : j < xs.length) u, us[j]? = some u -> RV G.M G.σ s.bs.length xs[j] u) : RS E G (s.setBox b (setAt cs o xs)) a (w.setCells (G.σ b) o us) := by
 obtain ⟨w', h5, h6⟩ := storeCells_run (P := Tryz.prog) us xs s w b o 0 cs h hb (by omega) hu h1 hv
 obtain ⟨vs, T, c1, c2, _, c4, c5⟩ := h.cells0 hb; have h7 := run_storeCells_cells (P := Tryz.prog) (G.σ b) o us 0 w (fun j hj => c5 _ (by omega)) (fun j hj => c4 _) h1
 rw [h5] at h7; cases h7; exact h6
theorem RS.rowMove (h : RS E G s a w) {b : Nat} {cs : List AV} (hbc : boxCells s.bs b = some cs) (cs2 : List AV) (hl : cs2.length ≤ cs.length) (hc : ∀ (j : Nat) x, cs2[j]? = some x -> x = .top ∨ (cs[j]? = some x ∧ x.deown = x)) :
  RS E { G with σ := fun c => if c = s.bs.length then G.σ b else G.σ c } ⟨s.env, s.bs.set b .dead ++ [.row cs2], s.lo⟩ a w := by
 have hlt := boxCells_lt hbc
 have hnew : ∀ c ds, boxCells (s.bs.set b .dead ++ [.row cs2]) c = some ds -> (c = s.bs.length ∧ ds = cs2) ∨ (c < s.bs.length ∧ c ≠ b ∧ boxCells s.bs c = some ds) := fun c ds hd => by
  rw [boxCells_append, List.length_set] at hd
  by_cases ec : c = s.bs.length
  ·rw [if_pos ec, row_cs] at hd; split at hd
   ·cases hd
   ·cases hd; exact .inl ⟨ec, rfl⟩
  ·rw [if_neg ec, boxCells_setDead] at hd; split at hd
   ·cases hd
   ·rename_i h0; exact .inr ⟨boxCells_lt hd, h0, hd⟩
 refine h.reb (fun c => if c = s.bs.length then b else c) (by simp) (fun c hc => by rw [if_neg (by omega)]) (fun c x hx => boxLoop_kill (boxLoop_append rfl hx)) (fun c cs' hd => ?_) (fun c c' ds ds' hd hd' e => ?_)
 ·rcases hnew c cs' hd with ⟨rfl, rfl⟩ | ⟨h1, h2, h3⟩
  ·simp only [if_true]; refine ⟨cs, hbc, trivial, hl, fun j x hx => ?_⟩; rcases hc j x hx with h | ⟨h, h'⟩
   ·exact .inl h
   ·exact .inr ⟨h, .inr h'⟩
  ·simp only [show c ≠ s.bs.length by omega, if_false]
   exact ⟨cs', h3, trivial, Nat.le_refl _, fun j x hx => .inr ⟨hx, .inl trivial⟩⟩
 ·rcases hnew c ds hd with ⟨rfl, _⟩ | ⟨h1, h2, h3⟩ <;> rcases hnew c' ds' hd' with ⟨rfl, _⟩ | ⟨h1', h2', h3'⟩
  ·rfl
  ·rw [if_pos rfl, if_neg (by omega)] at e
   exact absurd e.symm h2'
  ·rw [if_pos rfl, if_neg (by omega)] at e
   exact absurd e h2
  ·rw [if_neg (by omega), if_neg (by omega)] at e
   exact e
end
theorem rowF_bc {α : Type} {f : α -> AV} {z k b : Nat} {l : List α} {bs : List Box} (hp : Plain f z) (hb : bs[b]? = some (rowF f z k l)) (hk : 0 < k) (hl : l.length ≤ k) : boxCells bs b = some (cellsOf (l.map f) ++ List.replicate ((k - l.length) * z) .top) ∧ (cellsOf (l.map f) ++ List.replicate ((k - l.length) * z) AV.top).length = k * z := by
 have hlen : (cellsOf (l.map f) ++ List.replicate ((k - l.length) * z) AV.top).length = k * z := by
  rw [List.length_append, hp.len, List.length_replicate, ← Nat.add_mul]; congr 1; omega
 refine ⟨?_, hlen⟩
 have hne : cellsOf (l.map f) ++ List.replicate ((k - l.length) * z) AV.top ≠ [] := fun e => by
  rw [e] at hlen; have := Nat.mul_pos hk hp.pos; simp at hlen; omega
 simp only [boxCells, hb, rowF, Option.bind_some, row_cs, if_neg hne]
theorem cells_td {α : Type} {f : α -> AV} {z : Nat} (hp : Plain f z) (l : List α) {i : Nat} (hi : i ≤ l.length) : cellsOf ((l.take i).map f) = (cellsOf (l.map f)).take (i * z) ∧ cellsOf ((l.drop i).map f) = (cellsOf (l.map f)).drop (i * z) := by
 have e : cellsOf (l.map f) = cellsOf ((l.take i).map f) ++ cellsOf ((l.drop i).map f) := by
  rw [← cellsOf_app, ← List.map_append, List.take_append_drop]
 have hl : (cellsOf ((l.take i).map f)).length = i * z := by rw [hp.len, List.length_take, Nat.min_eq_left hi]
 rw [e]; exact ⟨by rw [← hl, List.take_left], by rw [← hl, List.drop_left]⟩
def insA {α : Type} (l : List α) (i : Nat) (x : α) : List α := l.take i ++ x :: l.drop i
theorem insA_len {α : Type} (l : List α) (i : Nat) (x : α) : (insA l i x).length = l.length + 1 := by
 simp only [insA, List.length_append, List.length_take, List.length_cons, List.length_drop]; omega
theorem insA_cells {α : Type} {f : α -> AV} {z : Nat} (hp : Plain f z) (l : List α) {i : Nat} (hi : i ≤ l.length) (x : α) : cellsOf ((insA l i x).map f) = (cellsOf (l.map f)).take (i * z) ++ ((f x).cells ++ (cellsOf (l.map f)).drop (i * z)) := by
 obtain ⟨h1, h2⟩ := cells_td hp l hi; rw [insA, List.map_append, List.map_cons, cellsOf_app, h1, cellsOf, h2]
theorem shift_cells {α : Type} {f : α -> AV} {z : Nat} (hp : Plain f z) (l : List α) {i : Nat} (hi : i ≤ l.length) (x : α) (pad : List AV) (hpad : z ≤ pad.length) {j : Nat} (hj : j < (l.length + 1) * z) :
  (setAt (setAt (cellsOf (l.map f) ++ pad) ((i + 1) * z) ((cellsOf (l.map f)).drop (i * z))) (i * z) (f x).cells)[j]? = (cellsOf ((insA l i x).map f))[j]? := by
 have hA := hp.len (f := f) l; rw [insA_cells hp l hi]; generalize cellsOf (l.map f) = A at hA ⊢; have hz := hp.sz x; have hiz : i * z ≤ l.length * z := Nat.mul_le_mul_right _ hi; have e1 : (i + 1) * z = i * z + z := Nat.succ_mul _ _; have e2 : (l.length + 1) * z = l.length * z + z := Nat.succ_mul _ _; rw [setAt_get, setAt_get, setAt_length, List.length_drop, List.length_append, hA, hz, e1]
 by_cases h1 : j < i * z
 ·rw [if_neg (by omega), if_neg (by omega), List.getElem?_append_left (by omega), List.getElem?_append_left (by rw [List.length_take]; omega), List.getElem?_take, if_pos h1]
 ·have htl : (A.take (i * z)).length = i * z := by rw [List.length_take, hA, Nat.min_eq_left hiz]
  have e3 : (A.take (i * z) ++ ((f x).cells ++ A.drop (i * z)))[j]? = ((f x).cells ++ A.drop (i * z))[j - i * z]? := by
   rw [List.getElem?_append_right (by rw [htl]; omega), htl]
  rw [e3]
  by_cases h2 : j < i * z + z
  ·rw [if_pos ⟨by omega, h2, by omega⟩, List.getElem?_append_left (by omega)]
  ·rw [if_neg (by omega), if_pos ⟨by omega, by omega, by omega⟩, List.getElem?_append_right (by omega), List.getElem?_drop, List.getElem?_drop, hz]
   congr 1; omega
theorem grow_cells {α : Type} {f : α -> AV} {z : Nat} (hp : Plain f z) (l : List α) {i : Nat} (hi : i ≤ l.length) (x : α) (c0 pad : List AV) (hc : c0 = (cellsOf (l.map f)).take (i * z) ++ pad) (hpad : (l.length + 1) * z ≤ i * z + pad.length) {j : Nat} (hj : j < (l.length + 1) * z) :
  (setAt (setAt c0 (i * z) (f x).cells) ((i + 1) * z) ((cellsOf (l.map f)).drop (i * z)))[j]? = (cellsOf ((insA l i x).map f))[j]? := by
 have hA := hp.len (f := f) l; rw [insA_cells hp l hi]; generalize cellsOf (l.map f) = A at hA hc ⊢; have hz := hp.sz x; have hiz : i * z ≤ l.length * z := Nat.mul_le_mul_right _ hi; have e1 : (i + 1) * z = i * z + z := Nat.succ_mul _ _; have e2 : (l.length + 1) * z = l.length * z + z := Nat.succ_mul _ _; have htl : (A.take (i * z)).length = i * z := by rw [List.length_take, hA, Nat.min_eq_left hiz]
 have hcl : c0.length = i * z + pad.length := by rw [hc, List.length_append, htl]
 rw [setAt_get, setAt_get, setAt_length, List.length_drop, hcl, hA, hz, e1]
 by_cases h1 : j < i * z
 ·rw [if_neg (by omega), if_neg (by omega), hc, List.getElem?_append_left (by omega), List.getElem?_append_left (by omega)]
 ·have e3 : (A.take (i * z) ++ ((f x).cells ++ A.drop (i * z)))[j]? = ((f x).cells ++ A.drop (i * z))[j - i * z]? := by
   rw [List.getElem?_append_right (by rw [htl]; omega), htl]
  rw [e3]
  by_cases h2 : j < i * z + z
  ·rw [if_neg (by omega), if_pos ⟨by omega, h2, by omega⟩, List.getElem?_append_left (by omega)]
  ·rw [if_pos ⟨by omega, by omega, by omega⟩, List.getElem?_append_right (by omega), List.getElem?_drop, List.getElem?_drop, hz]
   congr 1; omega
theorem zIt_av : avOf zIt = some (.agg [.int .i64 0, .str ⟨#[]⟩, .sl .full []]) := by kernel_rfl
theorem put0 {E : Entry} {G : Gh} {bs : List Box} {lo : Nat} {w : World} (h : RS E G ⟨[], bs, lo⟩ ⟨#[.tuple #[]], []⟩ w) (he : 0 < E.nt) {x : AV} {v : Value} (hv : RV G.M G.σ bs.length x v) : RS E G ⟨[(0, x)], bs, lo⟩ ⟨#[v], []⟩ w := h.put (k := 0) he (x := x) (v := v) hv
set_option maxHeartbeats 1000000 in
set_option maxRecDepth 100000 in
theorem insItems {bs : List Box} {b vb k i : Nat} {l : List It} {x : It} (hb : bs[b]? = some (rowF It.av 3 k l)) (hv : bs[vb]? = some (rowF It.av 3 1 [x])) (hne : vb ≠ b) (hi : i ≤ l.length) (hk : l.length ≤ k) (hn : l.length ≤ 1000000) :
  AM.Sem Tryz.prog 50 [.bsl b l.length k, .int .i64 i, .bsl vb 1 1] bs fun r bs' => ∃ k', l.length + 1 ≤ k' ∧ r = .bsl bs.length (l.length + 1) k' ∧ bs' = bs.set b .dead ++ [rowF It.av 3 k' (insA l i x)] := by
 intro E G a0 w args lo hrs hlen hav; obtain ⟨u, hu, rfl⟩ := insArgsN hlen hav; obtain ⟨ad, rfl, hbl, _, hkl, had⟩ := hu.inv_bsl; have hvc := rowF_bc plainIt hv Nat.zero_lt_one (by simp)
 have hels : ∀ (m k : Nat) (c : Nat) (L : List It), bs[c]? = some (rowF It.av 3 k L) -> m = L.length -> elsK 3 bs (.bsl c m k) fun n' ys' => n' = L.length ∧ ys' = cellsOf (L.map It.av) := fun m k c L hc hm => by
  subst hm; simp only [elsK, rowAt_row hc, plainIt.take]; refine ⟨⟨by rw [List.length_append, plainIt.len]; exact Nat.le_add_right _ _, fun x hx => (plainIt.mem hx).1⟩, ?_⟩
  exact ⟨trivial, trivial⟩
 have hvr : RV G.M G.σ bs.length (.bsl vb 1 1) (.slice (some ⟨G.σ vb, 0, none⟩) 1 1) := .bsl _ _ _ _ (List.getElem?_eq_some_iff.1 hv).1 (Nat.le_refl _) (by first|(unfold glim;omega)|(unfold lim;omega)) (fun _ => rfl)
 obtain ⟨_, xv, cv, Bv, ov, xs, hxv, v1, v2, v3, v4, v5⟩ := hrs.els hvr (hels 1 1 vb [x] hv rfl)
 have hvs : ∀ j v, xs[j]? = some v -> w.cell? ⟨G.σ vb, j, none⟩ = some v := fun j v hj => by
  have h1 := v5 j v hj; have h2 := v4 (by simp)
  rw [h2] at hxv; cases hxv
  rwa [Nat.zero_add] at h1
 obtain ⟨_, xb, cb, Bb, ob, us, hxb, u1, u2, u3, u4, u5⟩ := hrs.els hu (hels l.length k b l hb rfl); obtain ⟨i0, hi0, hz0, hz1, hzb⟩ := info_parts Tryz.infoIt; have hxs : xs.length = 3 := by rw [v1]; rfl
 by_cases hin : i = l.length
 ·subst hin
  obtain ⟨k', v', G', w', q1, q2, q3, q4⟩ := appB_core (P := Tryz.prog) (e := 28) (zv := zIt) (X := Builtin.firstCells 3 1 (.slice (some ⟨G.σ vb, 0, none⟩) 1 1)) (run := (Builtin.append_ #[22, 22] 22 #[.slice ad l.length k, .slice (some ⟨G.σ vb, 0, none⟩) 1 1]).run Tryz.prog w) hrs.call0 (z := 3) (by kernel_rfl) zIt_av (by kernel_rfl) (x := .bsl b l.length k) (v := .slice ad l.length k) hu (m := l.length) (k := k) (n := 1) (ob := some b)
   (srcK_row hb ⟨rfl, rfl, rfl, rfl⟩) (by omega) (by rw [List.length_append, plainIt.len, List.length_replicate, ← Nat.add_mul]; exact Nat.mul_le_mul_right _ (by omega)) (by first|(unfold glim;omega)|(unfold lim;omega)) (fun y hy => by rw [plainIt.take] at hy; exact (plainIt.mem hy).1) (ys := cellsOf ([x].map It.av)) rfl v1 v2 v3 (firstCells_run w v1 (fun _ => rfl) (fun j u hu => by rw [Nat.zero_add]; exact hvs j u hu)) (firstCells_run w.drew v1 (fun _ => rfl) (fun j u hu => by rw [Nat.zero_add]; exact hvs j u hu))
   (fun ad' hv => by cases hv; rw [append_unfold (P := Tryz.prog) Tryz.underlying22 hi0 hz0 hz1 hzb 22 ad l.length k (some ⟨G.σ vb, 0, none⟩) 1 1 w (by first|(unfold glim;omega)|(unfold lim;omega)) (by omega)]; cases ad <;> rfl)
  refine (ins3_end ad l.length k (G.σ vb) 1 w hk hn (v' := v') (w' := w') (fun ty => q2)).mono ?_; rintro e w2 ⟨rfl, rfl⟩; refine ⟨v', _, _, _, rfl, ⟨k', q1, rfl, ?_⟩, put0 q3 Nat.zero_lt_one (by simpa [killO_len] using q4)⟩
  rw [plainIt.take, insA, List.take_length, List.drop_length, rowF, List.map_append, cellsOf_app, List.length_append]; simp only [killO, List.append_assoc]; rfl
 ·have hcs : ∀ j v, us[j]? = some v -> w.cell? ⟨G.σ b, j, none⟩ = some v := fun j v hj => by
   have h1 := u5 j v hj; have h2 := u4 (by omega)
   rw [h2] at hxb; rw [had (by omega)] at hxb
   cases hxb
   rwa [Nat.zero_add] at h1
  obtain ⟨hbc, hbl2⟩ := rowF_bc plainIt hb (by omega) hk
  obtain ⟨Vb, Tb, b1, b2, b3, b4, b5⟩ := hrs.cells0 hbc; obtain ⟨Vv, Tv, w1, w2, w3, w4, w5⟩ := hrs.cells0 hvc.1; have hσ : G.σ vb ≠ G.σ b := fun e => hne (hrs.inj _ _ _ _ hvc.1 hbc e); obtain rfl : ad = some ⟨G.σ b, 0, none⟩ := had (by omega)
  by_cases hroom : l.length + 1 ≤ k
  ·refine (ins3_shift (G.σ b) l.length k i (G.σ vb) 1 us xs w (by omega) hroom hn hσ u1 hxs hcs (fun j hj => b5 j (by rw [hbl2]; exact hj)) b4 hvs u2 v2 Tv Tb Vv.size Vb.size w3 b3 (by rw [hbl2] at b2; omega) w4).mono ?_
   rintro e w' ⟨rfl, rfl⟩
   have h1 := hrs.call0.drew.rowSet hbc ((i + 1) * 3) ((cellsOf (l.map It.av)).drop (i * 3)) (us.drop (i * 3)) (by rw [hbl2, List.length_drop, plainIt.len]; omega) (by rw [List.length_drop, List.length_drop, u1, plainIt.len]) (fun u hu => u2 u (List.mem_of_mem_drop hu)) (fun j hj u hu => by
    rw [List.getElem_drop]; exact u3 _ _ u (by rwa [List.getElem?_drop] at hu))
   have hc1 : boxCells ((bs.set b (.cells (setAt (cellsOf (l.map It.av) ++ List.replicate ((k - l.length) * 3) AV.top) ((i + 1) * 3) ((cellsOf (l.map It.av)).drop (i * 3)))))) b = some (setAt (cellsOf (l.map It.av) ++ List.replicate ((k - l.length) * 3) AV.top) ((i + 1) * 3) ((cellsOf (l.map It.av)).drop (i * 3))) := by
    rw [boxCells_set hbc, if_pos rfl]
   have h2 := h1.rowSet hc1 (i * 3) x.av.cells xs (by rw [setAt_length, hbl2, plainIt.sz]; omega) (by rw [hxs, plainIt.sz]) v2 (fun j hj u hu => by
    have := v3 j (by rw [List.map_singleton, cellsOf, cellsOf, List.append_nil]; exact hj) u hu
    simpa [St.setBox, cellsOf] using this)
   have hc2 := hc1
   have h3 := h2.rowMove (b := b) (by simp only [St.setBox]; rw [boxCells_set hc1, if_pos rfl]) (cellsOf ((insA l i x).map It.av) ++ List.replicate ((k - (l.length + 1)) * 3) .top) (by
    rw [setAt_length, setAt_length, hbl2, List.length_append, plainIt.len, insA_len, List.length_replicate, ← Nat.add_mul]; exact Nat.mul_le_mul_right _ (by omega)) (fun j y hy => by
    by_cases hj : j < (l.length + 1) * 3
    ·rw [List.getElem?_append_left (by rw [plainIt.len, insA_len]; exact hj)] at hy
     refine .inr ⟨?_, (plainIt.mem (List.mem_of_getElem? hy)).1⟩; rw [shift_cells plainIt l hi x _ (by rw [List.length_replicate]; omega) hj]
     exact hy
    ·rw [List.getElem?_append_right (by rw [plainIt.len, insA_len]; omega)] at hy
     exact .inl (List.mem_replicate.1 (List.mem_of_getElem? hy)).2)
   refine ⟨_, _, _, _, rfl, ⟨k, hroom, rfl, ?_⟩, put0 h3 Nat.zero_lt_one (.bsl _ _ _ _ ?_ ?_ ?_ ?_)⟩
   ·simp only [St.setBox, List.set_set, rowF, insA_len]
   ·simp [St.setBox]
   ·exact hroom
   ·first|(unfold glim;omega)|(unfold lim;omega)
   ·intro _; simp [St.setBox]
  ·refine (ins3_grow (G.σ b) l.length k i (G.σ vb) 1 us xs w (by omega) hk (by omega) hn u1 hxs hcs hvs u2 v2).mono ?_
   rintro e w' ⟨K, ROW, hK, hROW, rfl, rfl⟩; have htl : (us.take (i * 3)).length = i * 3 := by rw [List.length_take, u1]; omega
   have hRl : ROW.toList.length = K * 3 := by
    rw [hROW]; simp only [Array.toList_append, List.length_append, Array.length_toList, List.size_toArray, zIt_cells, htl, Nat.sub_mul]; omega
   have hz3 : ∀ n, ∀ u ∈ (Builtin.zeroCells zIt.cells n).toList, u.oneCell' = true := fun n u hu => by
    simp only [Builtin.zeroCells, Array.toList_map, List.mem_map] at hu; obtain ⟨j, hj, rfl⟩ := hu; obtain ⟨z1, z2, _⟩ := (RV.flat (σ := fun _ => 0) (n := 0) (avOf_fv (M := G.M) zIt_av)).cells (by kernel_rfl)
    have hp : 0 < zIt.cells.size := by decide
    have hlt : j % zIt.cells.size < zIt.cells.size := Nat.mod_lt _ hp; have hm := z2 (zIt.cells[j % zIt.cells.size]'hlt) (by simp)
    rw [getElem!_pos zIt.cells _ hlt]; exact hm
   have h0 := hrs.call0.newBoxG (.row ((cellsOf (l.map It.av)).take (i * 3) ++ List.replicate (K * 3 - i * 3) .top)) ((cellsOf (l.map It.av)).take (i * 3) ++ List.replicate (K * 3 - i * 3) .top) rfl (fun ds e => by
    rw [row_cs] at e; split at e
    ·cases e
    ·cases e; rfl) ROW.toList 28 (by rw [hRl, List.length_append, List.length_take, plainIt.len, List.length_replicate]; omega) (fun u hu => by
    rw [hROW] at hu; simp only [Array.toList_append, List.mem_append] at hu; rcases hu with (hu | hu) | hu
    ·exact u2 u (List.mem_of_mem_take (by simpa using hu))
    ·exact hz3 _ u hu
    ·exact hz3 _ u hu) (fun j hj u hu => by
    by_cases hj1 : j < i * 3
    ·rw [List.getElem_append_left (by rw [List.length_take, plainIt.len]; omega), List.getElem_take]
     refine u3 j _ u ?_; rw [hROW] at hu; simp only [Array.toList_append, List.append_assoc] at hu; rw [List.getElem?_append_left (by omega), List.getElem?_take, if_pos hj1] at hu
     exact hu
    ·rw [List.getElem_append_right (by rw [List.length_take, plainIt.len]; omega), List.getElem_replicate]
     exact .flat (.top _))
   obtain ⟨c0, hc0⟩ : ∃ c0, c0 = (cellsOf (l.map It.av)).take (i * 3) ++ List.replicate (K * 3 - i * 3) AV.top := ⟨_, rfl⟩; rw [← hc0] at h0; have hA := plainIt.len l; have hcl : c0.length = K * 3 := by rw [hc0, List.length_append, List.length_take, hA, List.length_replicate]; omega
   have hc0n : c0 ≠ [] := fun e => by rw [e] at hcl; simp at hcl; omega
   have hb0 : boxCells (bs ++ [Box.row c0]) bs.length = some c0 := by rw [boxCells_append, if_pos rfl, row_cs, if_neg hc0n]
   have h1 := h0.drew.rowSet hb0 (i * 3) x.av.cells xs (by rw [hcl, plainIt.sz]; omega) (by rw [hxs, plainIt.sz]) v2 (fun j hj u hu => by
    have := v3 j (by rw [List.map_singleton, cellsOf, cellsOf, List.append_nil]; exact hj) u hu
    have h9 : RV G.M G.σ bs.length (x.av.cells[j]) u := by simpa [cellsOf] using this
    exact h9.mono (Hp.le_refl _) (by simp) (fun c hc => by dsimp only; rw [if_neg (by omega)]))
   have hb1 : boxCells ((bs ++ [Box.row c0]).set bs.length (Box.cells (setAt c0 (i * 3) x.av.cells))) bs.length = some (setAt c0 (i * 3) x.av.cells) := by rw [boxCells_set hb0, if_pos rfl]
   have h2 := h1.drew.rowSet hb1 ((i + 1) * 3) ((cellsOf (l.map It.av)).drop (i * 3)) (us.drop (i * 3)) (by rw [setAt_length, hcl, List.length_drop, hA]; omega) (by rw [List.length_drop, List.length_drop, u1, hA]) (fun u hu => u2 u (List.mem_of_mem_drop hu)) (fun j hj u hu => by
    have h9 : RV G.M G.σ bs.length (((cellsOf (l.map It.av)).drop (i * 3))[j]) u := by
     rw [List.getElem_drop]; exact u3 _ _ u (by rwa [List.getElem?_drop] at hu)
    exact h9.mono (Hp.le_refl _) (by simp [St.setBox]) (fun c hc => by dsimp only; rw [if_neg (by omega)]))
   have h3 := h2.reb (bs' := bs.set b .dead ++ [.row (cellsOf ((insA l i x).map It.av) ++ List.replicate ((K - (l.length + 1)) * 3) .top)]) (σ' := fun c => if c = bs.length then w.heap.size else G.σ c) id (by simp [St.setBox]) (fun c hc => rfl) (fun c y hy => by
    have h9 := boxLoop_kill (boxLoop_append rfl hy); have hlt := boxLoop_lt h9; simp only [boxLoop, St.setBox] at h9 ⊢; rw [List.getElem?_set_ne (by omega), List.getElem?_set_ne (by omega), List.getElem?_append_left hlt]
    exact h9) (fun c cs' hc => by
    simp only [id, St.setBox]; rw [boxCells_append, List.length_set] at hc
    by_cases ec : c = bs.length
    ·rw [if_pos ec, row_cs] at hc; subst ec; rw [boxCells_set hb1, if_pos rfl]; split at hc
     ·cases hc
     ·cases hc; refine ⟨_, rfl, by simp, ?_, fun j y hy => ?_⟩
      ·rw [setAt_length, setAt_length, hcl, List.length_append, plainIt.len, insA_len, List.length_replicate, ← Nat.add_mul]; exact Nat.mul_le_mul_right _ (by omega)
      ·by_cases hj : j < (l.length + 1) * 3
       ·rw [List.getElem?_append_left (by rw [plainIt.len, insA_len]; exact hj)] at hy
        refine .inr ⟨?_, .inl trivial⟩; rw [grow_cells plainIt l hi x c0 _ hc0 (by rw [List.length_replicate]; omega) hj]
        exact hy
       ·rw [List.getElem?_append_right (by rw [plainIt.len, insA_len]; omega)] at hy
        exact .inl (List.mem_replicate.1 (List.mem_of_getElem? hy)).2
    ·rw [if_neg ec, boxCells_setDead] at hc; split at hc
     ·cases hc
     ·have hlt := boxCells_lt hc; refine ⟨cs', ?_, by simp [ec], Nat.le_refl _, fun j x hx => .inr ⟨hx, .inl trivial⟩⟩
      rw [boxCells_set hb1, if_neg ec, boxCells_set hb0, if_neg ec, boxCells_append, if_neg ec]; exact hc) (fun c c' _ _ _ _ e => e)
   simp only [St.setBox] at h3; refine ⟨_, _, bs.set b .dead ++ [rowF It.av 3 K (insA l i x)], _, rfl, ⟨K, hK, rfl, rfl⟩, put0 (E := callE G bs w 1) (G := { M := G.M, σ := fun c => if c = bs.length then w.heap.size else G.σ c, cl := noSlots G.cl }) ?_ Nat.zero_lt_one (.bsl _ _ _ _ ?_ ?_ ?_ ?_)⟩
   ·have e4 : rowF It.av 3 K (insA l i x) = .row (cellsOf ((insA l i x).map It.av) ++ List.replicate ((K - (l.length + 1)) * 3) AV.top) := by simp only [rowF, insA_len]
    rw [e4]; simp only [if_true] at h3; exact h3
   ·simp
   ·exact hK
   ·first|(unfold glim;omega)|(unfold lim;omega)
   ·intro _; simp
theorem erase_cells {α : Type} {f : α -> AV} {z : Nat} (hp : Plain f z) (l : List α) {i : Nat} (hi : i < l.length) (pad Z : List AV) {j : Nat} (hj : j < (l.length - 1) * z) :
  (setAt (setAt (cellsOf (l.map f) ++ pad) (i * z) ((cellsOf (l.map f)).drop ((i + 1) * z))) ((l.length - 1) * z) Z)[j]? = (cellsOf ((l.take i ++ l.drop (i + 1)).map f))[j]? := by
 have hA := hp.len (f := f) l; have h1 := (cells_td hp l (Nat.le_of_lt hi)).1; have h2 := (cells_td hp l (i := i + 1) hi).2; rw [List.map_append, cellsOf_app, h1, h2]; generalize cellsOf (l.map f) = A at hA ⊢; have hiz : (i + 1) * z ≤ l.length * z := Nat.mul_le_mul_right _ hi; have e1 : (i + 1) * z = i * z + z := Nat.succ_mul _ _; have e2 : (l.length - 1) * z = l.length * z - z := by rw [Nat.sub_mul, Nat.one_mul]
 have htl : (A.take (i * z)).length = i * z := by rw [List.length_take, hA]; omega
 rw [setAt_get, setAt_get, setAt_length, List.length_drop, List.length_append, hA]; rw [if_neg (by omega)]
 by_cases h1 : j < i * z
 ·rw [if_neg (by omega), List.getElem?_append_left (by omega), List.getElem?_append_left (by omega), List.getElem?_take, if_pos h1]
 ·rw [if_pos ⟨by omega, by omega, by omega⟩, List.getElem?_append_right (by omega), htl]
set_option maxHeartbeats 1000000 in
set_option maxRecDepth 100000 in
theorem delItems {bs : List Box} {b k i : Nat} {l : List It} (hb : bs[b]? = some (rowF It.av 3 k l)) (hi : i < l.length) (hk : l.length ≤ k) (hn : l.length ≤ 1000000) :
  AM.Sem Tryz.prog 56 [.bsl b l.length k, .int .i64 i, .int .i64 ((i : Int) + 1)] bs fun r bs' => r = .bsl bs.length (l.length - 1) k ∧ bs' = bs.set b .dead ++ [rowF It.av 3 k (l.take i ++ l.drop (i + 1))] := by
 intro E G a0 w args lo hrs hlen hav
 obtain ⟨u, hu, rfl⟩ : ∃ u, RV G.M G.σ bs.length (.bsl b l.length k) u ∧ args = [u, .int .i64 i, .int .i64 ((i : Int) + 1)] := by
  match args, hlen with
  | [x, y, z], _ =>
   have h0 := hav 0 (by simp) x rfl
   have h1 := hav 1 (by simp) y rfl
   have h2 := hav 2 (by simp) z rfl
   simp only [List.getElem_cons_zero, List.getElem_cons_succ] at h0 h1 h2; exact ⟨x, h0, by rw [h1.inv_int, h2.inv_int]⟩
 obtain ⟨ad, rfl, hbl, _, hkl, had⟩ := hu.inv_bsl
 have hels : elsK 3 bs (.bsl b l.length k) fun n' ys' => n' = l.length ∧ ys' = cellsOf (l.map It.av) := by
  simp only [elsK, rowAt_row hb, plainIt.take]; refine ⟨⟨by rw [List.length_append, plainIt.len]; exact Nat.le_add_right _ _, fun x hx => (plainIt.mem hx).1⟩, ?_⟩
  exact ⟨trivial, trivial⟩
 obtain ⟨_, xb, cb, Bb, ob, us, hxb, u1, u2, u3, u4, u5⟩ := hrs.els hu hels
 have hcs : ∀ j v, us[j]? = some v -> w.cell? ⟨G.σ b, j, none⟩ = some v := fun j v hj => by
  have h1 := u5 j v hj; have h2 := u4 (by omega)
  rw [h2] at hxb; rw [had (by omega)] at hxb
  cases hxb
  rwa [Nat.zero_add] at h1
 obtain ⟨hbc, hbl2⟩ := rowF_bc plainIt hb (by omega) hk
 obtain ⟨Vb, Tb, b1, b2, b3, b4, b5⟩ := hrs.cells0 hbc; obtain rfl : ad = some ⟨G.σ b, 0, none⟩ := had (by omega)
 have hlen2 : (l.take i ++ l.drop (i + 1)).length = l.length - 1 := by rw [List.length_append, List.length_take, List.length_drop]; omega
 refine (del3 (G.σ b) l.length k i us w hi hk hn u1 hcs (fun j hj => b5 j (by rw [hbl2]; exact hj)) b4 u2).mono ?_
 rintro e w' ⟨rfl, rfl⟩
 have h1 := hrs.call0.drew.rowSet hbc (i * 3) ((cellsOf (l.map It.av)).drop ((i + 1) * 3)) (us.drop ((i + 1) * 3)) (by rw [hbl2, List.length_drop, plainIt.len]; omega) (by rw [List.length_drop, List.length_drop, u1, plainIt.len]) (fun u hu => u2 u (List.mem_of_mem_drop hu)) (fun j hj u hu => by
  rw [List.getElem_drop]; exact u3 _ _ u (by rwa [List.getElem?_drop] at hu))
 have hc1 : boxCells ((bs.set b (.cells (setAt (cellsOf (l.map It.av) ++ List.replicate ((k - l.length) * 3) AV.top) (i * 3) ((cellsOf (l.map It.av)).drop ((i + 1) * 3)))))) b = some (setAt (cellsOf (l.map It.av) ++ List.replicate ((k - l.length) * 3) AV.top) (i * 3) ((cellsOf (l.map It.av)).drop ((i + 1) * 3))) := by
  rw [boxCells_set hbc, if_pos rfl]
 have h2 := h1.rowSet hc1 ((l.length - 1) * 3) [.top, .top, .top] zl3 (by rw [setAt_length, hbl2]; simp only [List.length_cons, List.length_nil]; omega) rfl (by intro v hv; simp [zl3] at hv; rcases hv with rfl | rfl | rfl <;> rfl) (fun j hj u hu => by
  have e : ([AV.top, AV.top, AV.top] : List AV)[j] = .top := by
   match j, hj with
   | 0, _ => rfl
   | 1, _ => rfl
   | 2, _ => rfl
  rw [e]; exact .flat (.top _))
 have h3 := h2.rowMove (b := b) (by simp only [St.setBox]; rw [boxCells_set hc1, if_pos rfl]) (cellsOf ((l.take i ++ l.drop (i + 1)).map It.av) ++ List.replicate ((k - (l.length - 1)) * 3) .top) (by
  rw [setAt_length, setAt_length, hbl2, List.length_append, plainIt.len, hlen2, List.length_replicate, ← Nat.add_mul]; exact Nat.mul_le_mul_right _ (by omega)) (fun j y hy => by
  by_cases hj : j < (l.length - 1) * 3
  ·rw [List.getElem?_append_left (by rw [plainIt.len, hlen2]; exact hj)] at hy
   refine .inr ⟨?_, (plainIt.mem (List.mem_of_getElem? hy)).1⟩; rw [erase_cells plainIt l hi _ _ hj]; exact hy
  ·rw [List.getElem?_append_right (by rw [plainIt.len, hlen2]; omega)] at hy
   exact .inl (List.mem_replicate.1 (List.mem_of_getElem? hy)).2)
 refine ⟨_, _, _, _, rfl, ⟨rfl, ?_⟩, put0 h3 Nat.zero_lt_one (.bsl _ _ _ _ ?_ ?_ ?_ ?_)⟩
 ·simp only [St.setBox, List.set_set, rowF, hlen2]
 ·simp [St.setBox]
 ·omega
 ·first|(unfold glim;omega)|(unfold lim;omega)
 ·intro _; simp [St.setBox]
end Go.AM
namespace Go.CK
open Go.AM Go.Proofs
def insR (its : List It) (i : It) : Int := if i.id < 1 then 2 else if i.atom.right = false then 2 else if hasI its i.id = true then 8 else if 500 ≤ its.length then 6 else 0
theorem setSame {α : Type} {l : List α} {i : Nat} {x : α} (h : l[i]? = some x) : l.set i x = l := by
 refine List.ext_getElem? fun j => ?_
 by_cases e : i = j
 ·subst e; rw [List.getElem?_set_self (List.getElem?_eq_some_iff.1 h).1, h]
 ·rw [List.getElem?_set_ne e]
theorem IxAt.app {V : Nat -> Prop} {bs : List Box} {p : Nat} {acc : List Ac} {its : List It} (h : IxAt V bs p acc its) (X : List Box) : IxAt V (bs ++ X) p acc its := by
 obtain ⟨bi, ki, t, kt, cs, h1, h2, h3, h4, h5⟩ := h; refine ⟨bi, ki, t, kt, cs, h1.mono fun b hb => ?_, h2, h3, h4, h5⟩; obtain ⟨l1, l2, l3, l4⟩ := h1.lt; refine List.getElem?_append_left ?_; rcases hb with rfl | rfl | rfl | hb
 ·exact l1
 ·exact l2
 ·exact l3
 ·exact l4 _ hb
set_option maxRecDepth 100000 in
set_option maxHeartbeats 2000000 in
theorem ixInsert_ok {V : Nat -> Prop} {bs : List Box} {p : Nat} {acc : List Ac} {its : List It} {i : It} (h : IxAt V bs p acc its) (hV : ∀ b, V b -> b < bs.length) (ha : AllOk acc its) (he : EntOk acc i) (hl : i.atom.args.length ≤ 10000000) :
  AM.Sem Tryz.prog 14 [.ptr p 0, i.av] bs fun r bs' => r = .int .i64 (insR its i) ∧ IxAt V bs' p acc (if insR its i = 0 then insIt its i else its) ∧ bs.length ≤ bs'.length ∧ ∀ b, b < bs.length -> V b -> b ≠ p -> bs'[b]? = bs[b]? := by
 obtain ⟨bi, ki, t, kt, cs, hI, n1, n2, n3, n4⟩ := h; obtain ⟨l1, l2, l3, l4⟩ := hI.lt; have hfew := ha.few; have hcl := hI.len; have hacc := ha.accs; have hra := RightAtom_ok i.atom (by omega)
 have hI1 := hI.snoc (.cells [.int .i64 i.id, .str i.atom.name, .sl .no (i.atom.args.map Tm.av)]); obtain ⟨B1, hB1⟩ : ∃ B1, B1 = bs ++ [Box.cells [.int .i64 i.id, .str i.atom.name, .sl .no (i.atom.args.map Tm.av)]] := ⟨_, rfl⟩; have hlen1 : B1.length = bs.length + 1 := by rw [hB1]; simp
 have hbox : boxCells B1 bs.length = some [.int .i64 i.id, .str i.atom.name, .sl .no (i.atom.args.map Tm.av)] := by rw [hB1, boxCells_append, if_pos rfl]; rfl
 have hbx : B1[bs.length]? = some (.cells [.int .i64 i.id, .str i.atom.name, .sl .no (i.atom.args.map Tm.av)]) := by rw [hB1]; simp
 have hold1 : ∀ b, b < bs.length -> B1[b]? = bs[b]? := fun b hb => by rw [hB1, List.getElem?_append_left hb]
 rw [← hB1] at hI1
 have hfin : ∀ v : Int, v ≠ 0 -> IxAt V B1 p acc (if v = 0 then insIt its i else its) ∧ bs.length ≤ B1.length ∧ ∀ b, b < bs.length -> V b -> b ≠ p -> B1[b]? = bs[b]? := fun v h0 => by
  rw [if_neg h0]; exact ⟨⟨bi, ki, t, kt, cs, hI1, n1, n2, n3, n4⟩, by omega, fun b hb _ _ => hold1 b hb⟩
 refine opS_p_index_Index_Insert (by simp) ?_
 conv => whnf
 try dsimp only
 repeat' ((first | (refine gC ?_; refine cN ?_) | (refine gB ?_; refine .last ?_)) <;> (conv => whnf; try dsimp only))
 rw [← hB1]; refine CallN.raw (ixFind_ok hI1 ha.asc (by omega)) ?_
 rintro r b' ⟨rfl, rfl⟩
 by_cases h1 : i.id < 1
 ·have e : insR its i = 2 := by rw [insR, if_pos h1]
  rw [e]
  conv => whnf
  try dsimp only
  repeat' ((first | (refine gC ?_; first | refine cY ?_ | (refine gD ?_; refine cI ?_)) | (refine gB ?_; refine .of (by assumption) ?_)) <;> (conv => whnf; try dsimp only))
  exact ⟨_, Weak.refl _, .inl ⟨rfl, hfin _ (by decide)⟩⟩
 ·cases hr : i.atom.right with
  | false =>
   rw [hr] at hra; have e : insR its i = 2 := by rw [insR, if_neg h1, if_pos hr]
   rw [e]
   conv => whnf
   try dsimp only
   repeat' ((first | (refine gF ?_; refine CallN.fn (hra) ?_) | (refine gC ?_; first | refine cN ?_ | refine .not ?_ | (refine gD ?_; refine cJ ?_)) | (refine gB ?_; refine .of (by assumption) ?_)) <;> (conv => whnf; try dsimp only))
   exact ⟨_, Weak.refl _, .inl ⟨rfl, hfin _ (by decide)⟩⟩
  | true =>
   rw [hr] at hra
   cases hh : hasI its i.id with
   | true =>
    have e : insR its i = 8 := by rw [insR, if_neg h1, if_neg (by rw [hr]; decide), if_pos hh]
    rw [e]
    conv => whnf
    try dsimp only
    repeat' ((first | (refine gF ?_; refine CallN.fn (hra) ?_) | (refine gC ?_; first | refine cY ?_ | refine .not ?_ | (refine gD ?_; refine cJ ?_)) | (refine gB ?_; refine .of (by assumption) ?_)) <;> (conv => whnf; try dsimp only))
    exact ⟨_, Weak.refl _, .inl ⟨rfl, hfin _ (by decide)⟩⟩
   | false =>
    have hb0 : boxCells b' p = some [slA Ac.av acc, .bsl bi its.length ki, .bsl t cs.length kt] := by simp [boxCells, hI1.str, Box.cs?]
    by_cases h5 : 500 ≤ its.length
    ·have e : insR its i = 6 := by rw [insR, if_neg h1, if_neg (by rw [hr]; decide), if_neg (by rw [hh]; decide), if_pos h5]
     rw [e]
     conv => whnf
     try dsimp only
     repeat' ((first | (refine gF ?_; refine CallN.fn (hra) ?_) | (refine gC ?_; first | refine cY ?_ | refine cN ?_ | refine .not ?_ | (refine gD ?_; first | refine cI ?_ | refine cJ ?_)) | (refine gB ?_; refine .of (by assumption) ?_)) <;> (conv => whnf; try dsimp only))
     exact ⟨_, Weak.refl _, .inl ⟨rfl, hfin _ (by decide)⟩⟩
    ·have e : insR its i = 0 := by rw [insR, if_neg h1, if_neg (by rw [hr]; decide), if_neg (by rw [hh]; decide), if_neg h5]
     rw [e]; clear hfin
     conv => whnf
     try dsimp only
     repeat' ((first | (refine gF ?_; first | refine CallN.fn (hra) ?_ | refine CallN.fn (own_ok i he.nds) ?_) | (refine gC ?_; first | refine cY ?_ | refine cN ?_ | refine .not ?_ | (refine gD ?_; refine cJ ?_)) | (refine gB ?_; refine .of (by assumption) ?_)) <;> (conv => whnf; try dsimp only))
     refine ⟨?_⟩; rw [setSame hbx]
     conv => whnf
     try dsimp only
     repeat' ((refine gB ?_; refine .of (by assumption) ?_) <;> (conv => whnf; try dsimp only))
     refine BsrN.one plainIt (fun y => ⟨rfl, rfl⟩) (x := i) rfl ?_
     conv => whnf
     try dsimp only
     repeat' ((refine gPr ?_; refine pT ?_) <;> (conv => whnf; try dsimp only))
     have hbil := hI1.lt.2.1; refine CallN.raw (insItems (b := bi) (vb := b'.length) (x := i) (l := its) (by rw [List.getElem?_append_left hbil]; exact hI1.items) (by simp) (by omega) (posI_le _ _) hI1.le (by omega)) ?_
     rintro r b8 ⟨k', hk', rfl, rfl⟩
     have hpbi : p ≠ bi := fun e => by
      have h1 := hI1.str; have h2 := hI1.items; rw [e, h2] at h1; cases h1
     conv => whnf
     refine ⟨.inr ?_, ?_⟩
     ·conv => whnf
      repeat' (first | exact True.intro | refine And.intro (cellsD_kill (by omega) (by first | (simp; done) | (simp; omega))) ?_)
     conv => whnf
     try dsimp only
     skip; obtain ⟨B4, hB4⟩ : ∃ B4, B4 = (b' ++ [rowF It.av 3 1 [i]]).set bi Box.dead ++ [rowF It.av 3 k' (insA its (posI its i.id) i)] := ⟨_, rfl⟩; have hlen4 : B4.length = b'.length + 2 := by rw [hB4]; simp
     obtain ⟨hp1, hp2, hp3, hp4⟩ := hI1.lt
     have hold4 : ∀ b, b < b'.length -> b ≠ bi -> B4[b]? = b'[b]? := fun b hb hne => by
      rw [hB4, List.getElem?_append_left (by simp; omega), List.getElem?_set_ne (Ne.symm hne), List.getElem?_append_left hb]
     have hrow4 : B4[b'.length + 1]? = some (rowF It.av 3 k' (insIt its i)) := by
      rw [hB4, List.getElem?_append_right (by simp), insIt_at ha.asc]
      simp [insA]
     rw [show (b' ++ [rowF It.av 3 1 [i]]).length = b'.length + 1 by simp, ← hB4]
     clear hB4; refine BxAt.of (cs := [slA Ac.av acc, .bsl bi its.length ki, .bsl t cs.length kt]) (by simp [boxCells, hold4 p hp1 hpbi, hI1.str, Box.cs?]) ?_
     conv => whnf
     try dsimp only
     skip; refine ⟨?_⟩; obtain ⟨B5, hB5⟩ : ∃ B5, B5 = B4.set p (Box.cells [.sl .no (acc.map Ac.av), AV.bsl (b'.length + 1) (its.length + 1) k', AV.bsl t cs.length kt]) := ⟨_, rfl⟩; rw [← hB5]; have hlen5 : B5.length = b'.length + 2 := by rw [hB5, List.length_set, hlen4]
     have hstr5 : B5[p]? = some (.cells [slA Ac.av acc, .bsl (b'.length + 1) (insIt its i).length k', .bsl t cs.length kt]) := by rw [hB5, List.getElem?_set_self (by omega), insIt_len]
     have hold5 : ∀ b, b < b'.length -> b ≠ bi -> b ≠ p -> B5[b]? = b'[b]? := fun b h1 h2 h3 => by rw [hB5, List.getElem?_set_ne (Ne.symm h3), hold4 b h1 h2]
     have hrow5 : B5[b'.length + 1]? = some (rowF It.av 3 k' (insIt its i)) := by rw [hB5, List.getElem?_set_ne (by omega)]; exact hrow4
     clear hB5
     have hI5 : IdxG B5 p acc (insIt its i) (fun _ => its) (b'.length + 1) k' t kt cs := by
      refine ⟨hstr5, hrow5, by rw [insIt_len]; exact hk', ?_, hI1.tle, hI1.len, hI1.nod, fun k c a hc ha => ?_⟩
      ·rw [hold5 t hp3 n4 (fun e => by
        have h1 := hI1.str; have h2 := hI1.tabs; rw [e, h1] at h2; cases h2)]
       exact hI1.tabs
      ·have hcm := List.mem_of_getElem? hc; obtain ⟨m1, m2, m3⟩ := hI1.ne hcm; rw [hold5 c (hp4 c hcm) m2 m1]; exact hI1.tab k c a hc ha
     have hbx5 : boxCells B5 bs.length = some [.int .i64 i.id, .str i.atom.name, .sl .no (i.atom.args.map Tm.av)] := by
      simp [boxCells, hold5 bs.length (by omega) (by omega) (by omega), hbx, Box.cs?]
     conv => whnf
     try dsimp only
     repeat' ((refine gB ?_; refine .of (by assumption) ?_) <;> (conv => whnf; try dsimp only))
     refine CallN.raw (ixEnter_ok hI5 (fun k => ⟨ha.asc, hfew⟩) he hacc ha.poss) ?_; rintro r b9 ⟨rfl, s1, s2, s3⟩
     conv => whnf
     try dsimp only
     skip; refine ⟨_, Weak.refl _, .inl ⟨rfl, ?_, ?_, fun b hb hVb hbp => ?_⟩⟩
     ·rw [if_pos rfl]; exact ⟨b'.length + 1, k', t, kt, cs, s1, fun h => by have := hV _ h; omega, n2, n3, by omega⟩
     ·show bs.length ≤ b9.length; omega
     ·show b9[b]? = bs[b]?; rw [s3 b (by omega) (fun hc => n3 b hc hVb), hold5 b (by omega) (fun e => n1 (e ▸ hVb)) hbp, hold1 b hb]
end Go.CK
