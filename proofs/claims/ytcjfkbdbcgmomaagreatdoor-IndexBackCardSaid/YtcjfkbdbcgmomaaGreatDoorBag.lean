/-
  Texts of this claim joined (wip/gen/bundle.py), those declarations only that are needed: AmE. By an AI agent.
-/
import Derived.Test.YtcjfkbdbcgmomaaGreatDoorBaf
set_option linter.unusedSimpArgs false
set_option linter.unusedVariables false
namespace Go.AM
open Go.CK Go.RowKit
theorem OpS.ex {P : Program} {o : Oper} {s : St} {K : St -> Prop} {ι : Type} (C : ι -> Prop) (x : ι -> AV) (s' : ι -> St) (hd : ∀ c, o.op ≠ .defer c) (hK : ∀ i, C i -> K ((s' i).put o.dst (x i)))
  (h : ∀ E G a w, RS E G s a w -> ∃ i v G' w', C i ∧ (execOp a.eval o).run P w = .ok (.value v) w' ∧ RS E G' (s' i) a w' ∧ RV G'.M G'.σ (s' i).bs.length (x i) v) : OpS P o s K := by
 intro E G a w rd n next Q hs hdst hnext
 obtain ⟨i, v, G', w', hC, h1, h2, h3⟩ := h E G a w hs; refine ⟨fun _ _ => trivial, ?_⟩; rw [Oper.semAt_eq _ _ _ hd, h1]; exact hnext _ G' _ w' (hK i hC) (h2.put' hdst h3) (put_defers _ _ _)
def cellsOf : List AV -> List AV
 | [] => []
 | x :: l => x.cells ++ cellsOf l
theorem cellsOf_length {z : Nat} : ∀ {l : List AV}, (∀ y ∈ l, y.cells.length = z) -> (cellsOf l).length = l.length * z
 | [], _ => by simp [cellsOf]
 | x :: l, h => by
  rw [cellsOf, List.length_append, h x (by simp), cellsOf_length fun y hy => h y (by simp [hy]), List.length_cons, Nat.succ_mul, Nat.add_comm]
theorem cellsOf_get {z : Nat} : ∀ {l : List AV}, (∀ y ∈ l, y.cells.length = z) -> ∀ (i : Nat) (hi : i < l.length) (j : Nat), j < z -> (cellsOf l)[i * z + j]? = (l[i].cells)[j]?
 | [], _, i, hi, _, _ => by cases hi
 | x :: l, h, 0, _, j, hj => by
  have hx := h x (by simp)
  simp only [cellsOf, Nat.zero_mul, Nat.zero_add, List.getElem_cons_zero]
  rw [List.getElem?_append_left (by omega)]
 | x :: l, h, i + 1, hi, j, hj => by
  have hx := h x (by simp)
  simp only [cellsOf, List.getElem_cons_succ]; rw [List.getElem?_append_right (by rw [hx, Nat.succ_mul]; omega), hx, show (i + 1) * z + j - z = i * z + j by rw [Nat.succ_mul]; omega]
  exact cellsOf_get (fun y hy => h y (by simp [hy])) i (by simpa using hi) j hj
theorem cellsOf_append : ∀ (l m : List AV), cellsOf (l ++ m) = cellsOf l ++ cellsOf m
 | [], m => rfl
 | x :: l, m => by rw [List.cons_append, cellsOf, cellsOf, cellsOf_append l m, List.append_assoc]
theorem RowOf.at_ {M : Hp} {z : Nat} {l : List AV} {us : List Value} (h : RowOf M z l us) (j : Nat) (hj : j < (cellsOf l).length) (u : Value) (hu : us[j]? = some u) : FV M (cellsOf l)[j] u := by
 have hz : ∀ y ∈ l, y.cells.length = z := fun y hy => by
  obtain ⟨i, hi, rfl⟩ := List.mem_iff_getElem.1 hy; exact (h.2 i hi).1
 have hl := cellsOf_length hz
 have hz0 : 0 < z := by
  rcases Nat.eq_zero_or_pos z with h0 | h0
  ·subst h0; omega
  ·exact h0
 have hi : j / z < l.length := (Nat.div_lt_iff_lt_mul hz0).2 (by omega)
 have hr := Nat.mod_lt j hz0; have he : j / z * z + j % z = j := by have := Nat.div_add_mod j z; rw [Nat.mul_comm] at this; exact this
 obtain ⟨a1, a2⟩ := h.2 _ hi; obtain ⟨u', b1, _, b3⟩ := a2 (j % z) (by omega)
 rw [he, hu] at b1; cases b1; have hg := cellsOf_get hz (j / z) hi (j % z) hr; rw [he, List.getElem?_eq_getElem hj, List.getElem?_eq_getElem (by omega)] at hg
 simp only [Option.some.injEq] at hg; rw [hg]; exact b3
section
variable {E : Entry} {G : Gh} {s : St} {a : Act} {w : World}
theorem cell_none {w : World} {B : Nat} {o : Obj} (h : w.heap[B]? = some o) (hk : o.isCells = false) (i : Nat) : w.cell? ⟨B, i, none⟩ = none := by
 simp only [World.cell?, h]; cases o <;> first | rfl | cases hk
theorem RS.turn (h : RS E G s a w) {B : Nat} {o : Obj} (o' : Obj) (ho : w.heap[B]? = some o) (hk : o.isCells = false) (hm : E.FP B ∨ E.w.heap.size ≤ B) {bs' : List Box} {ds' : List Deferred} (hlen : bs'.length = s.bs.length) (hbc : ∀ b, boxCells bs' b = boxCells s.bs b)
  (hsp : Sp E.FP E.w G.M G.σ G.cl bs' ds' E.dd (w.putObj B o')) : RS E G ⟨s.env, bs', s.lo⟩ ⟨a.tmps, ds'⟩ (w.putObj B o') := by
 have hother : ∀ k, k ≠ B -> (w.putObj B o').heap[k]? = w.heap[k]? := fun k hk => World.putObj_heap_other hk; have hsize : (w.putObj B o').heap.size = w.heap.size := World.putObj_size
 have hat : ∀ p, (⟨s.env, bs', s.lo⟩ : St).at p = s.at p := fun p => by
  cases p with
  | sl t => rfl
  | bx b j => simp only [St.at, hbc]
 have hcells : ∀ B' vs T c, w.heap[B']? = some (.cells vs T c) -> B' ≠ B := fun B' vs T c hc e => by
  subst e; rw [ho] at hc; cases hc; cases hk
 have hbox : ∀ b cs, boxCells s.bs b = some cs -> G.σ b ≠ B := fun b cs hb => by
  obtain ⟨vs, T, h1, _⟩ := h.box b cs hb; exact hcells _ _ _ _ h1
 have hval : ∀ p x, s.at p = some x -> valAt G.σ ⟨a.tmps, ds'⟩ (w.putObj B o') p = valAt G.σ a w p := fun p x hp => by
  cases p with
  | sl t => rfl
  | bx b j =>
   simp only [St.at] at hp
   cases hb : boxCells s.bs b with
   | none => rw [hb] at hp; cases hp
   | some cs => simp only [valAt]; rw [cell_heap (hother _ (hbox b cs hb))]
 refine ⟨⟨h.fr.os, h.fr.tape, h.fr.output, by rw [hsize]; exact h.fr.size, h.fr.le, fun B' hB' hn => ?_, h.fr.mem, h.fr.kn.keep (hother _ (h.fr.kn.neO ho hk))⟩, fun b i v hv => ?_, h.nt, fun p x hp => ?_, fun b j x hp => ?_, fun b cs hb => ?_, fun b cs hb => ?_, fun b b' cs cs' hb hb' e => ?_, fun p z l hp => ?_, h.clinj, fun p B' hB' b cs hb => ?_, fun p B' hB' => by rw [hsize]; exact h.cllt p B' hB', h.lo, by simp only [hlen]; exact h.len, h.sig, hsp⟩
 ·have : B' ≠ B := fun e => by
   subst e; rcases hm with h1 | h1
   ·exact hn h1
   ·omega
  rw [hother B' this]; exact h.fr.heap B' hB' hn
 ·have h1 := h.ok b i v hv
  have : b ≠ B := fun e => by
   subst e; have := cell_none ho hk i; simp only [Hp.of] at h1; rw [this] at h1; cases h1
  simp only [Hp.of] at h1 ⊢; rw [cell_heap (hother b this)]; exact h1
 ·rw [hat] at hp; rw [hval p x hp, hlen]; exact h.val p x hp
 ·rw [hat] at hp; rw [hval _ x hp]; exact h.one b j x hp
 ·rw [hbc] at hb; obtain ⟨vs, T, h1, h2⟩ := h.box b cs hb; exact ⟨vs, T, by rw [hother _ (hbox b cs hb)]; exact h1, h2⟩
 ·rw [hbc] at hb; exact h.bmem b cs hb
 ·rw [hbc] at hb hb'; exact h.inj b b' cs cs' hb hb' e
 ·rw [hat] at hp; obtain ⟨ad, k, h1, h2, h3⟩ := h.own p z l hp; refine ⟨ad, k, by rw [hval p _ hp]; exact h1, h2, ?_⟩
  rcases h3 with h3 | ⟨B', hB', h4, h5⟩
  ·exact .inl h3
  ·obtain ⟨vs, T, h6, h7⟩ := h5.cells; exact .inr ⟨B', hB', h4, h5.lt, ⟨vs, T, by rw [hother B' (hcells _ _ _ _ h6)]; exact h6, h7⟩, h5.free, h5.mine⟩
 ·rw [hbc] at hb; exact h.clbox p B' hB' b cs hb
end
theorem boxCells_setDead {bs : List Box} {b : Nat} (c : Nat) : boxCells (bs.set b .dead) c = if c = b then none else boxCells bs c := by
 simp only [boxCells, List.getElem?_set]
 by_cases e : b = c
 ·subst e
  by_cases hb : b < bs.length
  ·simp [hb, Box.cs?]
  ·simp [hb]
 ·rw [if_neg e, if_neg (fun k => e k.symm)]
theorem boxLoop_kill {bs : List Box} {b c : Nat} {x : LB} (h : boxLoop (bs.set b .dead) c = some x) : boxLoop bs c = some x := by
 by_cases e : b = c
 ·subst e
  by_cases hb : b < bs.length
  ·simp [boxLoop, hb, Box.lb?] at h
  ·simp [boxLoop, hb] at h
 ·simp only [boxLoop, List.getElem?_set, if_neg e] at h; exact h
def rowAt (bs : List Box) (b : Nat) : Option (List AV) := match bs[b]? with
 | some (.row cs) => some cs
 | some (.cells cs) => some cs
 | _ => none
theorem rowAt_cells {bs : List Box} {b : Nat} {cs : List AV} (h : rowAt bs b = some cs) (h0 : cs ≠ []) : boxCells bs b = some cs := by
 unfold rowAt at h; unfold boxCells; split at h
 ·rename_i ds e; cases h; rw [e]; simp [row_cs, h0]
 ·rename_i ds e; cases h; rw [e]; rfl
 ·cases h
section
variable {E : Entry} {G : Gh} {s : St} {a : Act} {w : World}
theorem RS.reb (h : RS E G s a w) {bs' : List Box} {σ' : Nat -> Nat} (f : Nat -> Nat) (hlen : s.bs.length ≤ bs'.length) (hσ : ∀ b, b < s.bs.length -> σ' b = G.σ b) (hl : ∀ b x, boxLoop bs' b = some x -> boxLoop s.bs b = some x)
  (hb : ∀ b cs', boxCells bs' b = some cs' -> ∃ cs, boxCells s.bs (f b) = some cs ∧ σ' b = G.σ (f b) ∧ cs'.length ≤ cs.length ∧ ∀ (j : Nat) (x : AV), cs'[j]? = some x -> x = .top ∨ (cs[j]? = some x ∧ (f b = b ∨ x.deown = x)))
  (hf : ∀ b b' cs cs', boxCells bs' b = some cs -> boxCells bs' b' = some cs' -> f b = f b' -> b = b') : RS E { G with σ := σ' } ⟨s.env, bs', s.lo⟩ a w := by
 have hat : ∀ b j x, (⟨s.env, bs', s.lo⟩ : St).at (.bx b j) = some x -> ∃ y, s.at (.bx (f b) j) = some y ∧ σ' b = G.σ (f b) ∧ (x = .top ∨ (y = x ∧ (f b = b ∨ x.deown = x))) := fun b j x hx => by
  simp only [St.at] at hx
  cases hbc : boxCells bs' b with
  | none => rw [hbc] at hx; cases hx
  | some cs' =>
   rw [hbc] at hx; simp only [Option.bind_some] at hx; obtain ⟨cs, h1, h2, h3, h4⟩ := hb b cs' hbc; have hj : j < cs.length := Nat.lt_of_lt_of_le (List.getElem?_eq_some_iff.1 hx).1 h3; refine ⟨cs[j], by simp only [St.at, h1, Option.bind_some]; exact List.getElem?_eq_getElem hj, h2, ?_⟩
   rcases h4 j x hx with e | ⟨e, e2⟩
   ·exact .inl e
   ·refine .inr ⟨?_, e2⟩; rw [List.getElem?_eq_getElem hj] at e; exact Option.some.inj e
 have hva : ∀ b j, σ' b = G.σ (f b) -> valAt σ' a w (.bx b j) = valAt G.σ a w (.bx (f b) j) := fun b j e => by simp only [valAt, e]
 refine ⟨h.fr, h.ok, h.nt, fun p x hp => ?_, fun b j x hp => ?_, fun b cs' hc => ?_, fun b cs' hc => ?_, fun b b' cs cs' hc hc' e => ?_, fun p z l hp => ?_, h.clinj, fun p B hB b cs' hc => ?_, h.cllt, h.lo, Nat.le_trans h.len hlen, fun b hb' => (hσ b (Nat.lt_of_lt_of_le hb' h.len)).trans (h.sig b hb'), h.sp.step (Hp.le_refl _) hσ hl (fun _ _ k _ => k) (fun _ _ _ _ p k => ⟨p, k⟩) (fun _ k => k)⟩
 ·cases p with
  | sl t => exact (h.val (.sl t) x hp).mono (Hp.le_refl _) hlen hσ
  | bx b j =>
   obtain ⟨y, h1, h2, h3⟩ := hat b j x hp; show RV G.M σ' _ _ (valAt σ' a w (.bx b j)); rw [hva b j h2]; rcases h3 with rfl | ⟨rfl, _⟩
   ·exact .flat (.top _)
   ·exact (h.val _ _ h1).mono (Hp.le_refl _) hlen hσ
 ·obtain ⟨y, h1, h2, _⟩ := hat b j x hp; show (valAt σ' a w (.bx b j)).oneCell' = true; rw [hva b j h2]; exact h.one _ _ _ h1
 ·obtain ⟨cs, h1, h2, h3, _⟩ := hb b cs' hc; obtain ⟨vs, T, h4, h5⟩ := h.box _ cs h1; exact ⟨vs, T, by show w.heap[σ' b]? = _; rw [h2]; exact h4, by omega⟩
 ·obtain ⟨cs, h1, h2, h3, _⟩ := hb b cs' hc; show (∀ o, G.M (σ' b) o = none) ∧ (E.FP (σ' b) ∨ E.w.heap.size ≤ σ' b); rw [h2]; exact h.bmem _ cs h1
 ·obtain ⟨ds, h1, h2, _⟩ := hb b cs hc; obtain ⟨ds', h1', h2', _⟩ := hb b' cs' hc'; have e : σ' b = σ' b' := e; rw [h2, h2'] at e; exact hf b b' cs cs' hc hc' (h.inj _ _ ds ds' h1 h1' e)
 ·cases p with
  | sl t => exact h.own (.sl t) z l hp
  | bx b j =>
   obtain ⟨y, h1, h2, h3⟩ := hat b j _ hp; rcases h3 with e | ⟨rfl, e | e⟩
   ·cases e
   ·show ∃ ad k, valAt σ' a w (.bx b j) = _ ∧ _; rw [hva b j h2, e]; rw [e] at h1; exact h.own _ z l h1
   ·simp [AV.deown] at e
 ·obtain ⟨cs, h1, h2, _⟩ := hb b cs' hc; show σ' b ≠ B; rw [h2]; exact h.clbox p B hB _ cs h1
end
def elsK (z : Nat) (bs : List Box) (y : AV) (K : Nat -> List AV -> Prop) : Prop :=
 match y with
 | .sl _ xs => (∀ y ∈ xs, y.cells.length = z) ∧ K xs.length (cellsOf xs)
 | .bsl b m _ => match rowAt bs b with
  | some cs => (m * z ≤ cs.length ∧ ∀ x ∈ cs.take (m * z), x.deown = x) ∧ K m (cs.take (m * z))
  | none => False
 | _ => False
def srcK (bs : List Box) (x : AV) (K : Nat -> Nat -> List AV -> Option Nat -> Prop) : Prop :=
 match x with
 | .sl .full [] => K 0 0 [] none
 | .bsl b m k => match rowAt bs b with
  | some cs => K m k cs (some b)
  | none => False
 | _ => False
def killO (bs : List Box) : Option Nat -> List Box
 | none => bs
 | some b => bs.set b .dead
def appB (z : Nat) (s : St) (x y : AV) (K : AV -> St -> Prop) : Prop :=
 srcK s.bs x fun m k cs ob => elsK z s.bs y fun n ys => (0 < z ∧ k * z ≤ cs.length ∧ m + n ≤ 4294967296 ∧ ∀ x ∈ cs.take (m * z), x.deown = x) ∧
  ∀ k', m + n ≤ k' -> K (.bsl s.bs.length (m + n) k') ⟨s.env, killO s.bs ob ++ [.row (cs.take (m * z) ++ (ys ++ List.replicate ((k' - (m + n)) * z) .top))], s.lo⟩
theorem elsK_ex {z : Nat} {bs : List Box} {y : AV} {K : Nat -> List AV -> Prop} (h : elsK z bs y K) : ∃ n ys, elsK z bs y (fun n' ys' => n' = n ∧ ys' = ys) ∧ K n ys := by
 unfold elsK at h ⊢; split at h
 ·exact ⟨_, _, ⟨h.1, rfl, rfl⟩, h.2⟩
 ·rename_i b m k; split at h
  ·rename_i cs e; exact ⟨m, cs.take (m * z), ⟨h.1, rfl, rfl⟩, h.2⟩
  ·exact h.elim
 ·exact h.elim
theorem srcK_ex {bs : List Box} {x : AV} {K : Nat -> Nat -> List AV -> Option Nat -> Prop} (h : srcK bs x K) : ∃ m k cs ob, srcK bs x (fun m' k' cs' ob' => m' = m ∧ k' = k ∧ cs' = cs ∧ ob' = ob) ∧ K m k cs ob := by
 unfold srcK at h ⊢; split at h
 ·exact ⟨_, _, _, _, ⟨rfl, rfl, rfl, rfl⟩, h⟩
 ·rename_i b m k; split at h
  ·rename_i cs e; exact ⟨m, k, cs, some b, ⟨rfl, rfl, rfl, rfl⟩, h⟩
  ·exact h.elim
 ·exact h.elim
section
variable {E : Entry} {G : Gh} {s : St} {a : Act} {w : World} {P : Program}
theorem RS.els (hs : RS E G s a w) {y : AV} {v : Value} (hv : RV G.M G.σ s.bs.length y v) {z n : Nat} {ys : List AV} (h : elsK z s.bs y (fun n' ys' => n' = n ∧ ys' = ys)) :
  ys.length = n * z ∧ ∃ (xa : Option Addr) (c B off : Nat) (us : List Value), v = .slice xa n c ∧ us.length = n * z ∧ (∀ u ∈ us, u.oneCell' = true) ∧ (∀ j (hj : j < ys.length) u, us[j]? = some u -> RV G.M G.σ s.bs.length ys[j] u) ∧ (n ≠ 0 -> xa = some ⟨B, off, none⟩) ∧ ∀ j u, us[j]? = some u -> w.cell? ⟨B, off + j, none⟩ = some u := by
 unfold elsK at h; split at h
 ·rename_i oc xs; obtain ⟨hz, rfl, rfl⟩ := h; obtain ⟨ad, k, B, off, hsv⟩ := hv.sv hz; obtain ⟨us, u1, u2, u3⟩ := hsv.row hs.ok; exact ⟨cellsOf_length hz, ad, k, B, off, us, hsv.eq, u1.1, u2, fun j hj u hu => .flat (u1.at_ j hj u hu), fun h0 => hsv.at_ (fun e => h0 (by simp [e])), u3⟩
 ·rename_i b m k; split at h
  ·rename_i cs e; obtain ⟨⟨h1, h2⟩, rfl, rfl⟩ := h; obtain ⟨ad, hv1, hb, hmk, hml, had⟩ := hv.inv_bsl; have hlen : (cs.take (m * z)).length = m * z := by simp [h1]
   by_cases h0 : cs = []
   ·subst h0; simp only [List.length_nil, Nat.le_zero] at h1; exact ⟨by simp [h1], ad, k, G.σ b, 0, [], hv1, by simp [h1], by simp, fun j hj => by simp at hj, fun hn => had (by omega), by simp⟩
   ·have hbc := rowAt_cells e h0; obtain ⟨vs, T, c1, c2⟩ := hs.box b cs hbc
    have hget : ∀ j u, ((vs.toList.take (m * z))[j]? = some u) -> j < m * z ∧ w.cell? ⟨G.σ b, j, none⟩ = some u := fun j u hu => by
     have hj : j < m * z := by
      rcases Nat.lt_or_ge j (m * z) with h3 | h3
      ·exact h3
      ·rw [List.getElem?_take, if_neg (by omega)] at hu; cases hu
     rw [List.getElem?_take, if_pos hj] at hu; refine ⟨hj, ?_⟩; simp only [World.cell?, c1]; simpa using hu
    refine ⟨hlen, ad, k, G.σ b, 0, vs.toList.take (m * z), hv1, by simp; omega, fun u hu => ?_, fun j hj u hu => ?_, fun hn => had (by omega), fun j u hu => by rw [Nat.zero_add]; exact (hget j u hu).2⟩
    ·obtain ⟨j, hj, rfl⟩ := List.mem_iff_getElem.1 hu; obtain ⟨h3, h4⟩ := hget j _ (List.getElem?_eq_getElem hj); obtain ⟨u', h5, h6, _⟩ := hs.bval hbc j (by omega)
     rw [h4] at h5; cases h5; exact h6
    ·obtain ⟨h3, h4⟩ := hget j _ hu; obtain ⟨u', h5, _, h6⟩ := hs.bval hbc j (by omega)
     rw [h4] at h5; cases h5; rw [List.getElem_take]
     have := h2 cs[j] (by
      rw [List.mem_iff_getElem]; exact ⟨j, by rw [hlen]; exact h3, by rw [List.getElem_take]⟩)
     rw [← this]; exact h6
  ·exact h.elim
 ·exact h.elim
theorem boxCells_kill {bs : List Box} (ob : Option Nat) (c : Nat) : boxCells (killO bs ob) c = if ob = some c then none else boxCells bs c := by
 cases ob with
 | none => simp [killO]
 | some b =>
  simp only [killO, boxCells_setDead, Option.some.injEq]
  by_cases e : c = b
  ·rw [if_pos e, if_pos e.symm]
  ·rw [if_neg e, if_neg (fun x => e x.symm)]
theorem killO_len (bs : List Box) (ob : Option Nat) : (killO bs ob).length = bs.length := by cases ob <;> simp [killO]
theorem boxLoop_killO {bs : List Box} {ob : Option Nat} {c : Nat} {x : LB} (h : boxLoop (killO bs ob) c = some x) : boxLoop bs c = some x := by
 cases ob with
 | none => exact h
 | some b => exact boxLoop_kill h
theorem appB_core (hs : RS E G s a w) {e z : Nat} {zv : Value} {zx : AV} (hzs : zv.cells.size = z) (hzx : avOf zv = some zx) (hok : cellOk zx = true) {x : AV} {v : Value} (hv : RV G.M G.σ s.bs.length x v)
  {m k n : Nat} {cs ys : List AV} {ob : Option Nat} (hx : srcK s.bs x (fun m' k' cs' ob' => m' = m ∧ k' = k ∧ cs' = cs ∧ ob' = ob)) (hz : 0 < z) (hkz : k * z ≤ cs.length) (hlim : m + n ≤ glim) (hde : ∀ x ∈ cs.take (m * z), x.deown = x)
  {us : List Value} (hyl : ys.length = n * z) (u1 : us.length = n * z) (u2 : ∀ u ∈ us, u.oneCell' = true) (u3 : ∀ j (hj : j < ys.length) u, us[j]? = some u -> RV G.M G.σ s.bs.length ys[j] u) {X : Sem (Array Value)} (hX : X.run P w = .ok us.toArray w) (hX' : X.run P w.drew = .ok us.toArray w.drew) {run : Result Value}
  (hun : ∀ ad, v = .slice ad m k -> run = if m + n ≤ k then (X.run P w).andThen fun new w1 =>
     ((match ad with | some a => storeCells (a.add (m * z)) new.toList | none => Pure.pure () : Sem Unit).run P w1).andThen fun _ w2 => .ok (.slice ad (m + n) k) w2
   else ((Builtin.firstCells z m (.slice ad m k)).run P w.drew).andThen fun old w1 => (X.run P w1).andThen fun new w2 =>
    .ok (.slice (some ⟨w2.heap.size, 0, none⟩) (m + n) (grownCap w (m + n) k e)) (w2.alloc (.cells (old ++ new ++ Builtin.zeroCells zv.cells (grownCap w (m + n) k e - (m + n))) e))) :
  ∃ k' v' G' w', m + n ≤ k' ∧ run = .ok v' w' ∧ RS E G' ⟨s.env, killO s.bs ob ++ [.row (cs.take (m * z) ++ (ys ++ List.replicate ((k' - (m + n)) * z) .top))], s.lo⟩ a w' ∧ RV G'.M G'.σ (s.bs.length + 1) (.bsl s.bs.length (m + n) k') v' := by
 have hsrc : ∃ ad, v = .slice ad m k ∧ m ≤ k ∧ (k ≠ 0 -> ∃ b, ob = some b ∧ ad = some ⟨G.σ b, 0, none⟩ ∧ boxCells s.bs b = some cs) := by
  unfold srcK at hx; split at hx
  ·obtain ⟨rfl, rfl, rfl, rfl⟩ := hx; obtain ⟨ad, kk, B, off, sz, h1, _, _, _, h2, _⟩ := hv.inv_sl; have := h2 rfl; subst this; exact ⟨ad, h1, Nat.le_refl _, fun h => absurd rfl h⟩
  ·split at hx
   ·rename_i b m' k' _ cs' hr; obtain ⟨rfl, rfl, rfl, rfl⟩ := hx; obtain ⟨ad, h1, h2, h3, h4, h5⟩ := hv.inv_bsl; refine ⟨ad, h1, h3, fun h0 => ⟨b, rfl, h5 h0, rowAt_cells hr (fun e => ?_)⟩⟩; subst e; have : 0 < k' * z := Nat.mul_pos (by omega) hz
    simp only [List.length_nil] at hkz; omega
   ·exact hx.elim
  ·exact hx.elim
 obtain ⟨ad, rfl, hmk, hsrc⟩ := hsrc; have hmz : m * z ≤ cs.length := Nat.le_trans (Nat.mul_le_mul_right _ hmk) hkz; rw [hun ad rfl]; have hblt : ∀ b cs, boxCells s.bs b = some cs -> b < s.bs.length := fun b cs h => boxCells_lt h
 have hnew : ∀ c ds cs2, boxCells (killO s.bs ob ++ [.row cs2]) c = some ds -> (c = s.bs.length ∧ ds = cs2 ∧ cs2 ≠ []) ∨ (c < s.bs.length ∧ ob ≠ some c ∧ boxCells s.bs c = some ds) := fun c ds cs2 h => by
  rw [boxCells_append, killO_len] at h
  by_cases ec : c = s.bs.length
  ·rw [if_pos ec, row_cs] at h; split at h
   ·cases h
   ·rename_i h0; cases h; exact .inl ⟨ec, rfl, h0⟩
  ·rw [if_neg ec, boxCells_kill] at h; split at h
   ·cases h
   ·rename_i h0; exact .inr ⟨hblt _ _ h, h0, h⟩
 have hloop : ∀ (cs2 : List AV) b x, boxLoop (killO s.bs ob ++ [.row cs2]) b = some x -> boxLoop s.bs b = some x := fun cs2 b x h => boxLoop_killO (boxLoop_append rfl h)
 by_cases hfit : m + n ≤ k
 ·rw [if_pos hfit, hX]; simp only [Result.andThen_ok]
  by_cases hk0 : k = 0
  ·subst hk0; obtain rfl : m = 0 := by omega
   obtain rfl : n = 0 := by omega
   have hus : us = [] := List.eq_nil_of_length_eq_zero (by simpa using u1)
   have hysn : ys = [] := List.eq_nil_of_length_eq_zero (by simpa using hyl)
   subst hus hysn; refine ⟨0, .slice ad 0 0, { G with σ := G.σ }, w, Nat.le_refl _, ?_, ?_, ?_⟩
   ·cases ad <;> simp [storeCells]
   ·refine hs.reb id (by simp [killO_len]) (fun _ _ => rfl) (hloop _) (fun b cs' hc => ?_) (fun b b' _ _ _ _ e => e)
    rcases hnew b cs' _ hc with ⟨_, _, h0⟩ | ⟨h1, _, h3⟩
    ·simp at h0
    ·exact ⟨cs', h3, rfl, Nat.le_refl _, fun j x hx => .inr ⟨hx, .inl rfl⟩⟩
   ·exact .bsl _ _ _ _ (by omega) (Nat.le_refl _) (by first|(unfold glim;omega)|(unfold lim;omega)) (fun h => absurd rfl h)
  ·obtain ⟨b, hob, had, hbc⟩ := hsrc hk0; subst had; have hmn : m * z + n * z ≤ k * z := by rw [← Nat.add_mul]; exact Nat.mul_le_mul_right _ hfit
   obtain ⟨w', h5, h6⟩ := storeCells_run (P := P) us ys s w b (m * z) 0 cs hs hbc (by rw [hyl]; omega) (by rw [u1, hyl]) u2 u3
   have hlen1 : (setAt cs (m * z + 0) ys).length = cs.length := setAt_length _ _ _; refine ⟨k, .slice (some ⟨G.σ b, 0, none⟩) (m + n) k, { G with σ := fun c => if c = s.bs.length then G.σ b else G.σ c }, w', hfit, ?_, ?_, ?_⟩
   ·simp only; rw [addr_add, Nat.zero_add, h5]; rfl
   ·refine h6.reb (fun c => if c = s.bs.length then b else c) (by simp [St.setBox, killO_len]) (fun c hc => ?_) (fun c x hc => ?_) (fun c cs' hc => ?_) (fun c c' ds ds' hc hc' e => ?_)
    ·simp only [St.setBox, List.length_set] at hc; rw [if_neg (by omega)]
    ·have := hloop _ c x hc; simp only [St.setBox]; simp only [boxLoop, List.getElem?_set]
     by_cases eb : b = c
     ·subst eb; simp only [boxLoop] at this; simp only [boxCells] at hbc
      cases hq : s.bs[b]? with
      | none => rw [hq] at hbc; cases hbc
      | some q =>
       rw [hq] at this hbc; cases q <;> first | (cases hbc; done) | (cases this; done)
     ·rw [if_neg eb]; exact this
    ·rcases hnew c cs' _ hc with ⟨rfl, rfl, h0⟩ | ⟨h1, h2, h3⟩
     ·simp only [if_true]; refine ⟨setAt cs (m * z + 0) ys, by simp only [St.setBox]; rw [boxCells_set hbc, if_pos rfl], trivial, ?_, fun j x hx => ?_⟩
      ·rw [hlen1]; simp only [List.length_append, List.length_take, List.length_replicate, hyl, Nat.sub_mul, Nat.add_mul]; omega
      ·have hjlt : j < cs.length := by
        have := (List.getElem?_eq_some_iff.1 hx).1; simp only [List.length_append, List.length_take, List.length_replicate, hyl, Nat.sub_mul, Nat.add_mul] at this; omega
       rw [setAt_get]; simp only [Nat.add_zero]
       by_cases hj1 : j < m * z
       ·rw [if_neg (by omega)]
        rw [List.getElem?_append_left (by simp; omega)] at hx
        refine .inr ⟨?_, .inr (hde x (List.mem_of_getElem? hx))⟩; rw [List.getElem?_take, if_pos hj1] at hx; exact hx
       ·rw [List.getElem?_append_right (by simp; omega)] at hx
        simp only [List.length_take, Nat.min_eq_left hmz] at hx
        by_cases hj2 : j - m * z < ys.length
        ·rw [List.getElem?_append_left hj2] at hx; rw [if_pos (by omega)]
         have hx2 : ys[j - m * z]'hj2 = x := by
          rw [List.getElem?_eq_getElem hj2] at hx; exact Option.some.inj hx
         refine .inr ⟨hx, .inr ?_⟩; have := (u3 (j - m * z) hj2 _ (List.getElem?_eq_getElem (by rw [u1, ← hyl]; exact hj2))).deown_of
         rw [hx2] at this; exact this
        ·rw [List.getElem?_append_right (by omega)] at hx
         refine .inl ?_; exact (List.mem_replicate.1 (List.mem_of_getElem? hx)).2
     ·have hcb : c ≠ b := fun e => h2 (by rw [hob, e])
      simp only [show c ≠ s.bs.length by omega, if_false]
      refine ⟨cs', by simp only [St.setBox]; rw [boxCells_set hbc, if_neg hcb]; exact h3, trivial, Nat.le_refl _, fun j x hx => .inr ⟨hx, .inl trivial⟩⟩
    ·rcases hnew c ds _ hc with ⟨rfl, _, _⟩ | ⟨h1, h2, h3⟩ <;> rcases hnew c' ds' _ hc' with ⟨rfl, _, _⟩ | ⟨h1', h2', h3'⟩
     ·rfl
     ·rw [if_pos rfl, if_neg (by omega)] at e
      exact absurd (by rw [hob, e]) h2'
     ·rw [if_pos rfl, if_neg (by omega)] at e
      exact absurd (by rw [hob, e]) h2
     ·rw [if_neg (by omega), if_neg (by omega)] at e
      exact e
   ·have := RV.bsl (M := G.M) (σ := fun c => if c = s.bs.length then G.σ b else G.σ c) (n := s.bs.length + 1) s.bs.length (m + n) k (some ⟨G.σ b, 0, none⟩) (by omega) hfit (by first|exact hlim|(unfold glim at hlim;first|(unfold glim;omega)|(unfold lim;omega))) (fun _ => by simp)
    exact this
 ·rw [if_neg hfit]; have hg := grownCap_ge w (m + n) k e
  generalize hgc : grownCap w (m + n) k e = k' at *
  -- the old cells
  have hold : ∃ os : List Value, os.length = m * z ∧ (∀ u ∈ os, u.oneCell' = true) ∧ (∀ (j : Nat) (hj : j < (cs.take (m * z)).length) u, os[j]? = some u -> RV G.M G.σ s.bs.length (cs.take (m * z))[j] u) ∧ (Builtin.firstCells z m (.slice ad m k)).run P w.drew = .ok os.toArray w.drew := by
   by_cases hm0 : m = 0
   ·subst hm0; refine ⟨[], by simp, by simp, fun j hj => by simp at hj, ?_⟩
    exact firstCells_run (P := P) (B := 0) (off := 0) w.drew (by simp) (fun h => absurd rfl h) (by simp)
   ·obtain ⟨b, hob, had, hbc⟩ := hsrc (by omega)
    obtain ⟨vs, T, c1, c2⟩ := hs.box b cs hbc
    have hget : ∀ (j : Nat) u, ((vs.toList.take (m * z))[j]? = some u) -> j < m * z ∧ w.cell? ⟨G.σ b, j, none⟩ = some u := fun j u hu => by
     have hj : j < m * z := by
      rcases Nat.lt_or_ge j (m * z) with h3 | h3
      ·exact h3
      ·rw [List.getElem?_take, if_neg (by omega)] at hu; cases hu
     rw [List.getElem?_take, if_pos hj] at hu; refine ⟨hj, ?_⟩; simp only [World.cell?, c1]; simpa using hu
    refine ⟨vs.toList.take (m * z), by simp; omega, fun u hu => ?_, fun j hj u hu => ?_, ?_⟩
    ·obtain ⟨j, hj, rfl⟩ := List.mem_iff_getElem.1 hu; obtain ⟨h3, h4⟩ := hget j _ (List.getElem?_eq_getElem hj); obtain ⟨u', h5, h6, _⟩ := hs.bval hbc j (by omega)
     rw [h4] at h5; cases h5; exact h6
    ·obtain ⟨h3, h4⟩ := hget j _ hu; obtain ⟨u', h5, _, h6⟩ := hs.bval hbc j (by omega)
     rw [h4] at h5; cases h5; have := hde _ (List.getElem_mem hj); rw [List.getElem_take] at this ⊢; rw [← this]; exact h6
    ·refine firstCells_run (P := P) (B := G.σ b) (off := 0) w.drew (by simp; omega) (fun _ => had) fun j u hu => ?_
     rw [Nat.zero_add]; exact (hget j u hu).2
  obtain ⟨os, o1, o2, o3, o4⟩ := hold; rw [o4]; simp only [Result.andThen_ok]; rw [hX']; simp only [Result.andThen_ok]; have hd : RS E G s a w.drew := hs.drew; obtain ⟨z1, z2, _⟩ := (RV.flat (σ := fun _ => 0) (n := 0) (avOf_fv (M := G.M) hzx)).cells hok; have hzl : (Builtin.zeroCells zv.cells (k' - (m + n))).toList.length = (k' - (m + n)) * z := by rw [Array.length_toList, size_zeroCells, hzs]
  have h7 := hd.newBoxG (.row (cs.take (m * z) ++ (ys ++ List.replicate ((k' - (m + n)) * z) .top))) (cs.take (m * z) ++ (ys ++ List.replicate ((k' - (m + n)) * z) .top)) rfl (fun ds e => by
   rw [row_cs] at e; split at e
   ·cases e
   ·cases e; rfl) (os ++ (us ++ (Builtin.zeroCells zv.cells (k' - (m + n))).toList)) e (by
    simp only [List.length_append, List.length_take, List.length_replicate, o1, u1, hyl, hzl]; omega) (fun u hu => by
    rcases List.mem_append.1 hu with h1 | h1
    ·exact o2 u h1
    ·rcases List.mem_append.1 h1 with h1 | h1
     ·exact u2 u h1
     ·simp only [Builtin.zeroCells, Array.toList_map, List.mem_map] at h1; obtain ⟨j, hj, rfl⟩ := h1; have hp : 0 < zv.cells.size := by omega
      have hlt : j % zv.cells.size < zv.cells.size := Nat.mod_lt _ hp; have hm := z2 (zv.cells[j % zv.cells.size]'hlt) (by simp)
      rw [getElem!_pos zv.cells _ hlt]; exact hm) (fun j hj u hu => by
    by_cases hj1 : j < (cs.take (m * z)).length
    ·rw [List.getElem?_append_left (by rw [o1]; simp at hj1; omega)] at hu
     rw [List.getElem_append_left hj1]; exact o3 j hj1 u hu
    ·have hlo : os.length = (cs.take (m * z)).length := by rw [o1]; simp [hmz]
     rw [List.getElem?_append_right (by omega)] at hu
     rw [List.getElem_append_right (by omega)]
     by_cases hj2 : j - (cs.take (m * z)).length < ys.length
     ·rw [List.getElem_append_left hj2]; rw [List.getElem?_append_left (by rw [u1, ← hyl]; omega)] at hu
      exact u3 _ hj2 u (by rw [← hlo]; exact hu)
     ·rw [List.getElem_append_right (by omega), List.getElem_replicate]
      exact .flat (.top _))
  refine ⟨k', _, _, _, hg, rfl, (?_ : RS E { G with σ := fun b => if b = s.bs.length then w.drew.heap.size else G.σ b } _ a _), ?_⟩
  ·have h8 := h7.reb (bs' := killO s.bs ob ++ [.row (cs.take (m * z) ++ (ys ++ List.replicate ((k' - (m + n)) * z) .top))]) (σ' := fun b => if b = s.bs.length then w.drew.heap.size else G.σ b) id (by simp [killO_len]) (fun _ _ => rfl) (fun b x hb => by
    have := hloop _ b x hb; simp only [boxLoop]; rw [List.getElem?_append_left (boxLoop_lt this)]
    exact this) (fun b cs' hc => ⟨cs', by
     rcases hnew b cs' _ hc with ⟨rfl, rfl, h0⟩ | ⟨h1, _, h3⟩
     ·simp only [id]; rw [boxCells_append, if_pos rfl, row_cs, if_neg h0]
     ·simp only [id]; rw [boxCells_append, if_neg (by omega)]; exact h3, rfl, Nat.le_refl _, fun j x hx => .inr ⟨hx, .inl rfl⟩⟩) (fun b b' _ _ _ _ e => e)
   have hcells : (os.toArray ++ us.toArray ++ Builtin.zeroCells zv.cells (k' - (m + n))) = (os ++ (us ++ (Builtin.zeroCells zv.cells (k' - (m + n))).toList)).toArray := by
    apply Array.ext'; simp
   rw [hcells]; exact h8
  ·have := RV.bsl (M := G.M) (σ := fun b => if b = s.bs.length then w.drew.heap.size else G.σ b) (n := s.bs.length + 1) s.bs.length (m + n) k' (some ⟨w.drew.heap.size, 0, none⟩) (by omega) hg (by first|exact hlim|(unfold glim at hlim;first|(unfold glim;omega)|(unfold lim;omega))) (fun _ => by simp)
   exact this
theorem appB_sound {s : St} {o : Oper} {x y : Operand} {t e z : Nat} (ho : o.op = .call { callee := .builtin .append, args := #[x, y], argTypes := #[t, t] }) (ht : P.underlying t = some (.slice e)) {i : TypeInfo} {zv : Value} (hi : P.info? e = some i) (hzv : i.zero = some zv) (hsz : i.size = z) (hzs : zv.cells.size = z) (hb : i.bytes ≤ 4096) {zx : AV} (hzx : avOf zv = some zx) (hok : cellOk zx = true)
  {rx ry : Opd} (hx : opd x = some rx) (hy : opd y = some ry) {K : St -> Prop} (h : appB z s (s.ev rx) (s.ev ry) fun r s' => K (s'.put o.dst r)) : OpS P o s K := by
 have hd : ∀ c, o.op ≠ .defer c := fun c e => by rw [ho] at e; cases e
 obtain ⟨m, k, cs, ob, h1, h⟩ := srcK_ex h; obtain ⟨n, ys, h2, ⟨hz, hkz, hlim, hde⟩, hK⟩ := elsK_ex h; refine OpS.ex (ι := Nat) (fun k' => m + n ≤ k') (fun k' => .bsl s.bs.length (m + n) k') (fun k' => ⟨s.env, killO s.bs ob ++ [.row (cs.take (m * z) ++ (ys ++ List.replicate ((k' - (m + n)) * z) .top))], s.lo⟩) hd hK fun E G a w hs => ?_; obtain ⟨hyl, xa, c, Bx, offx, us, hvy, u1, u2, u3, u4, u5⟩ := hs.els (hs.ev hy) h2
 obtain ⟨k', v', G', w', q1, q2, q3, q4⟩ := appB_core (P := P) (e := e) (X := Builtin.firstCells z n (.slice xa n c)) (run := (Builtin.append_ #[t, t] o.type #[a.eval x, a.eval y]).run P w) hs hzs hzx hok (hs.ev hx) h1 hz hkz (by first|(unfold glim;omega)|(unfold lim;omega)) hde hyl u1 u2 u3 (firstCells_run w u1 u4 u5) (firstCells_run w.drew u1 u4 (by simpa using u5))
  (fun ad hv => by rw [hv, hvy, append_unfold (P := P) ht hi hzv hsz rfl o.type ad m k xa n c w (by first|(unfold glim;omega)|(unfold lim;omega)) hb]; cases ad <;> rfl)
 refine ⟨k', v', G', w', q1, ?_, q3, by simpa [killO_len] using q4⟩
 rw [exec_builtin2 P _ o ho (.inl rfl)]; simp only [q2, Result.andThen_ok]
theorem appZ_unfold {t u e sz bytes : Nat} {iu : IntKind} {i : TypeInfo} {z : Value} (ht : P.underlying t = some (.slice e)) (hu : P.underlying u = some (.int iu)) (hi : P.info? e = some i) (hz : i.zero = some z) (hsz : i.size = sz) (hzs : z.cells.size = sz) (hby : i.bytes = bytes)
  (ty : TypeId) (ad : Option Addr) (n k m : Nat) (ki : IntKind) (w : World) (hle : n + m ≤ glim) (hb : bytes ≤ 4096) :
  (Builtin.append_ #[t, u] ty #[.slice ad n k, .int ki m]).run P w =
   if n + m ≤ k then ((Pure.pure (Builtin.zeroCells z.cells m) : Sem (Array Value)).run P w).andThen fun new w1 =>
     ((match ad with | some a => storeCells (a.add (n * sz)) new.toList | none => Pure.pure () : Sem Unit).run P w1).andThen fun _ w2 => .ok (.slice ad (n + m) k) w2
   else ((Builtin.firstCells sz n (.slice ad n k)).run P w.drew).andThen fun old w1 => ((Pure.pure (Builtin.zeroCells z.cells m) : Sem (Array Value)).run P w1).andThen fun new w2 =>
    .ok (.slice (some ⟨w2.heap.size, 0, none⟩) (n + m) (grownCap w (n + m) k e)) (w2.alloc (.cells (old ++ new ++ Builtin.zeroCells z.cells (grownCap w (n + m) k e - (n + m))) e)) := by
 subst hsz hby; have hwr : IntKind.i64.wrap (m : Int) = m := wrap_i64 (by omega) (by ((try unfold glim at hle);(try unfold lim at hle)); omega)
 have hbm : ¬ (281474976710656 < (m : Int) * (i.bytes : Int)) := by
  have h4 : (i.bytes : Int) ≤ 4096 := by omega
  have h5 : (m : Int) ≤ 4294967296 := by ((try unfold glim at hle);(try unfold lim at hle)); omega
  have : (m : Int) * (i.bytes : Int) ≤ 4294967296 * 4096 := Int.mul_le_mul h5 h4 (by omega) (by omega)
  omega
 have hzc : m * i.size = 0 -> Builtin.zeroCells z.cells m = #[] := fun h0 => by
  apply Array.eq_empty_of_size_eq_zero; rw [size_zeroCells, hzs, h0]
 have hneg : ¬ (m : Int) < 0 := by omega
 by_cases h : n + m ≤ k
 ·rw [if_pos h]
  by_cases h0 : m * i.size = 0
  ·cases ad <;> simp [Builtin.append_, run_underlying ht, run_underlying hu, sizeOf, typeInfo, hi, asInt, asIntOf, hwr, hbm, hneg, h, h0, hzc h0]
  ·cases ad <;> simp [Builtin.append_, run_underlying ht, run_underlying hu, sizeOf, typeInfo, hi, asInt, asIntOf, hwr, hbm, hneg, h, h0, zeroValue, hz]
 ·rw [if_neg h]; have h63' : ¬ (9223372036854775807 < ((n : Int) + (m : Int))) := by ((try unfold glim at hle);(try unfold lim at hle)); omega
  have h48' : ¬ (281474976710656 < Builtin.nextslicecap (n + m) k * i.bytes) := by
   have h1 := Nat.mul_le_mul hle hb; have := growslice_fits (need := n + m) (old := k) (bytes := i.bytes) (by omega) (by ((try unfold glim at h1);(try unfold lim at h1)); omega)
   omega
  by_cases h0 : m * i.size = 0
  ·simp [Builtin.append_, run_underlying ht, run_underlying hu, sizeOf, typeInfo, hi, asInt, asIntOf, hwr, hbm, hneg, zeroValue, hz, h, h63', h48', Question.forced, newRow, grownCap, hzc h0]
  ·simp [Builtin.append_, run_underlying ht, run_underlying hu, sizeOf, typeInfo, hi, asInt, asIntOf, hwr, hbm, hneg, zeroValue, hz, h, h63', h48', Question.forced, newRow, grownCap, h0]
theorem zeroCells_rv {M : Hp} {σ : Nat -> Nat} {nb : Nat} {x : AV} {v : Value} (hx : avOf v = some x) (hok : cellOk x = true) (hflat : x.flat = true) {z : Nat} (hz : v.cells.size = z) (n : Nat) :
  (cellsOf (List.replicate n x)).length = n * z ∧ (Builtin.zeroCells v.cells n).toList.length = n * z ∧ (∀ u ∈ (Builtin.zeroCells v.cells n).toList, u.oneCell' = true) ∧
   ∀ j (hj : j < (cellsOf (List.replicate n x)).length) u, (Builtin.zeroCells v.cells n).toList[j]? = some u -> RV M σ nb (cellsOf (List.replicate n x))[j] u := by
 obtain ⟨us, h1, h2⟩ := rowOf_replicate (M := M) hx hok hflat hz n n (Nat.le_refl _); have hl : (Builtin.zeroCells v.cells n).toList.length = n * z := by rw [Array.length_toList, size_zeroCells, hz]
 have hul : us.length = n * z := by rw [h1.1]; simp
 have he : us = (Builtin.zeroCells v.cells n).toList := by
  apply List.ext_getElem (by rw [hul, hl])
  intro j hj hj'; have := h2 j us[j] (List.getElem?_eq_getElem hj); rw [← hz] at this; have h3 : (Builtin.zeroCells v.cells n)[j]? = some us[j] := this; rw [Array.getElem?_eq_getElem (by rwa [Array.length_toList] at hj')] at h3
  simpa using (Option.some.inj h3).symm
 obtain ⟨c1, _, _⟩ := (RV.flat (σ := σ) (n := nb) (avOf_fv (M := M) hx)).cells hok
 have hzs : ∀ y ∈ List.replicate n x, y.cells.length = z := fun y hy => by
  rw [(List.mem_replicate.1 hy).2, ← c1, Array.length_toList, hz]
 refine ⟨by rw [cellsOf_length hzs]; simp, hl, fun u hu => ?_, fun j hj u hu => .flat (h1.at_ j hj u (by rw [he]; exact hu))⟩
 rw [← he] at hu; obtain ⟨j, hj, rfl⟩ := List.mem_iff_getElem.1 hu
 have hz0 : 0 < z := by
  rcases Nat.eq_zero_or_pos z with h0 | h0
  ·subst h0; omega
  ·exact h0
 have hi : j / z < (List.replicate n x).length := by simp; exact (Nat.div_lt_iff_lt_mul hz0).2 (by omega)
 obtain ⟨a1, a2⟩ := h1.2 _ hi; obtain ⟨u', b1, b2, _⟩ := a2 (j % z) (by rw [a1]; exact Nat.mod_lt _ hz0)
 have hjj : j / z * z + j % z = j := by have := Nat.div_add_mod j z; rw [Nat.mul_comm] at this; exact this
 rw [hjj, List.getElem?_eq_getElem hj] at b1; cases b1; exact b2
def appZ (z : Nat) (s : St) (x y : AV) (K : AV -> St -> Prop) : Prop :=
 match y with
 | .int _ q => srcK s.bs x fun m k cs ob => (0 < z ∧ k * z ≤ cs.length ∧ (0 ≤ q ∧ m + q.toNat ≤ 4294967296) ∧ ∀ x ∈ cs.take (m * z), x.deown = x) ∧
  ∀ k', m + q.toNat ≤ k' -> K (.bsl s.bs.length (m + q.toNat) k') ⟨s.env, killO s.bs ob ++ [.row (cs.take (m * z) ++ List.replicate ((k' - m) * z) .top)], s.lo⟩
 | _ => False
theorem appZ_sound {s : St} {o : Oper} {x y : Operand} {t u e z : Nat} {iu : IntKind} (ho : o.op = .call { callee := .builtin .append, args := #[x, y], argTypes := #[t, u] }) (ht : P.underlying t = some (.slice e)) (hu : P.underlying u = some (.int iu)) {i : TypeInfo} {zv : Value} (hi : P.info? e = some i) (hzv : i.zero = some zv) (hsz : i.size = z) (hzs : zv.cells.size = z) (hb : i.bytes ≤ 4096) {zx : AV} (hzx : avOf zv = some zx) (hok : cellOk zx = true) (hflat : zx.flat = true)
  {rx ry : Opd} (hx : opd x = some rx) (hy : opd y = some ry) {K : St -> Prop} (h : appZ z s (s.ev rx) (s.ev ry) fun r s' => K (s'.put o.dst r)) : OpS P o s K := by
 have hd : ∀ c, o.op ≠ .defer c := fun c e => by rw [ho] at e; cases e
 unfold appZ at h; split at h
 ·rename_i ki q hye; obtain ⟨m, k, cs, ob, h1, ⟨hz, hkz, ⟨hq, hlim⟩, hde⟩, hK⟩ := srcK_ex h; obtain ⟨n, rfl⟩ : ∃ n : Nat, q = n := ⟨q.toNat, by omega⟩
  simp only [Int.toNat_natCast] at hlim hK; refine OpS.ex (ι := Nat) (fun k' => m + n ≤ k') (fun k' => .bsl s.bs.length (m + n) k') (fun k' => ⟨s.env, killO s.bs ob ++ [.row (cs.take (m * z) ++ List.replicate ((k' - m) * z) .top)], s.lo⟩) hd hK fun E G a w hs => ?_; have hyv := hs.ev hy; rw [hye] at hyv; have hyv := hyv.inv_int; obtain ⟨_, u1, u2, _⟩ := zeroCells_rv (M := G.M) (σ := G.σ) (nb := s.bs.length) hzx hok hflat hzs n
  obtain ⟨k', v', G', w', q1, q2, q3, q4⟩ := appB_core (P := P) (e := e) (X := Pure.pure (Builtin.zeroCells zv.cells n)) (run := (Builtin.append_ #[t, u] o.type #[a.eval x, a.eval y]).run P w) hs hzs hzx hok (hs.ev hx) (ys := List.replicate (n * z) .top) h1 hz hkz (by first|(unfold glim;omega)|(unfold lim;omega)) hde (by simp) u1 u2 (fun j hj u _ => by rw [List.getElem_replicate]; exact .flat (.top _)) rfl rfl
   (fun ad hv => by rw [hv, hyv, appZ_unfold (P := P) ht hu hi hzv hsz hzs rfl o.type ad m k n ki w (by first|(unfold glim;omega)|(unfold lim;omega)) hb])
  rw [List.replicate_append_replicate, ← Nat.add_mul, show n + (k' - (m + n)) = k' - m by omega] at q3
  refine ⟨k', v', G', w', q1, ?_, q3, by simpa [killO_len] using q4⟩
  rw [exec_builtin2 P _ o ho (.inl rfl)]; simp only [q2, Result.andThen_ok]
 ·exact h.elim
def mkB (z : Nat) (zx : AV) (s : St) (l c : AV) (K : AV -> St -> Prop) : Prop :=
 match l, c with
 | .int _ n, .int _ m => (0 < z ∧ 0 ≤ n ∧ n ≤ m ∧ m ≤ 4294967296) ∧ K (.bsl s.bs.length n.toNat m.toNat) ⟨s.env, s.bs ++ [.row (cellsOf (List.replicate n.toNat zx) ++ List.replicate ((m.toNat - n.toNat) * z) .top)], s.lo⟩
 | _, _ => False
theorem mkB_sound {s : St} {o : Oper} {t e : Nat} {lo co : Operand} (ho : o.op = .makeSlice t lo co) {i : TypeInfo} {z : Value} {x : AV} {sz : Nat} (ht : P.underlying t = some (.slice e)) (hi : P.info? e = some i) (hz : i.zero = some z) (hsz : i.size = sz) (hzs : z.cells.size = sz) (hb : i.bytes ≤ 4096)
  (hx : avOf z = some x) (hok : cellOk x = true) (hflat : x.flat = true) {rl rc : Opd} (hl : opd lo = some rl) (hc : opd co = some rc) {K : St -> Prop} (h : mkB sz x s (s.ev rl) (s.ev rc) fun r s' => K (s'.put o.dst r)) : OpS P o s K := by
 have hd : ∀ c, o.op ≠ .defer c := fun c e => by rw [ho] at e; cases e
 unfold mkB at h; split at h
 ·rename_i kl n kc m hle hce; obtain ⟨⟨hz0, h0, h1, h2⟩, hK⟩ := h; refine OpS.ex (ι := Unit) (fun _ => True) (fun _ => .bsl s.bs.length n.toNat m.toNat) (fun _ => ⟨s.env, s.bs ++ [.row (cellsOf (List.replicate n.toNat x) ++ List.replicate ((m.toNat - n.toNat) * sz) .top)], s.lo⟩) hd (fun _ _ => hK) fun E G a w hs => ?_; have hlv := hs.ev hl; rw [hle] at hlv; have hcv := hs.ev hc; rw [hce] at hcv
  have hrun : (execOp a.eval o).run P w = .ok (.value (.slice (some ⟨w.heap.size, 0, none⟩) n.toNat m.toNat)) (w.alloc (.cells ((Array.range (m.toNat * sz)).map fun j => z.cells[j % z.cells.size]!) e)) := by
   have hbm : (i.bytes : Int) * m ≤ 281474976710656 := by
    have h4 : (i.bytes : Int) ≤ 4096 := by omega
    have : (i.bytes : Int) * m ≤ 4096 * 4294967296 := Int.mul_le_mul h4 h2 (by omega) (by omega)
    omega
   have ha : IntKind.i64.wrap n = n := wrap_i64 h0 (by omega)
   have hb' : IntKind.i64.wrap m = m := wrap_i64 (by omega) (by omega)
   have hm0 : ¬ m < 0 := by omega
   have hn0 : ¬ n < 0 := by omega
   have hnm : ¬ m < n := by omega
   have hbm' : ¬ 281474976710656 < (i.bytes : Int) * m := by omega
   subst hsz; unfold execOp
   by_cases h5 : m.toNat * i.size = 0
   ·simp [ho, Instr.makeSlice, run_underlying ht, hlv.inv_int, hcv.inv_int, asInt, asIntOf, typeInfo, hi, ha, hb', hm0, hn0, hnm, hbm', sizeOf, h5, newRow]; rw [show Array.range 0 = #[] from rfl]; simp
   ·simp [ho, Instr.makeSlice, run_underlying ht, hlv.inv_int, hcv.inv_int, asInt, asIntOf, typeInfo, hi, ha, hb', hm0, hn0, hnm, hbm', sizeOf, newRow, zeroValue, hz]; exact fun h6 => absurd h6 h5
  obtain ⟨us, r1, r2⟩ := rowOf_replicate (M := G.M) hx hok hflat hzs n.toNat m.toNat (by omega)
  obtain ⟨c1, c2, _⟩ := (RV.flat (σ := G.σ) (n := s.bs.length) (avOf_fv (M := G.M) hx)).cells hok
  have hzsr : ∀ y ∈ List.replicate n.toNat x, y.cells.length = sz := fun y hy => by
   rw [(List.mem_replicate.1 hy).2, ← c1, Array.length_toList, hzs]
  have hcl := cellsOf_length hzsr; rw [List.length_replicate] at hcl; have hul : us.length = n.toNat * sz := by rw [r1.1]; simp
  have hnm : n.toNat * sz + (m.toNat - n.toNat) * sz = m.toNat * sz := by
   rw [← Nat.add_mul]; congr 1; omega
  have h7 := hs.newBoxG (.row (cellsOf (List.replicate n.toNat x) ++ List.replicate ((m.toNat - n.toNat) * sz) .top)) (cellsOf (List.replicate n.toNat x) ++ List.replicate ((m.toNat - n.toNat) * sz) .top) rfl (fun ds e => by
   rw [row_cs] at e; split at e
   ·cases e
   ·cases e; rfl) ((Array.range (m.toNat * sz)).map fun j => z.cells[j % z.cells.size]!).toList e (by
    simp only [List.length_append, List.length_replicate, hcl, Array.length_toList, Array.size_map, Array.size_range]; omega) (fun u hu => by
    simp only [Array.toList_map, List.mem_map] at hu; obtain ⟨j, hj, rfl⟩ := hu; have hp : 0 < z.cells.size := by omega
    have hlt : j % z.cells.size < z.cells.size := Nat.mod_lt _ hp; have hm := c2 (z.cells[j % z.cells.size]'hlt) (by simp)
    rw [getElem!_pos z.cells _ hlt]; exact hm) (fun j hj u hu => by
    by_cases hj1 : j < (cellsOf (List.replicate n.toNat x)).length
    ·rw [List.getElem_append_left hj1]; have hju : j < us.length := by omega
     have h8 := r2 j us[j] (List.getElem?_eq_getElem hju); rw [← Array.getElem?_toList, hu] at h8; cases h8; exact .flat (r1.at_ j hj1 _ (List.getElem?_eq_getElem hju))
    ·rw [List.getElem_append_right (by omega), List.getElem_replicate]
     exact .flat (.top _))
  refine ⟨(), _, _, _, trivial, hrun, h7, ?_⟩; exact RV.bsl (M := G.M) (σ := fun b => if b = s.bs.length then w.heap.size else G.σ b) (n := (s.bs ++ [Box.row (cellsOf (List.replicate n.toNat x) ++ List.replicate ((m.toNat - n.toNat) * sz) .top)]).length) s.bs.length n.toNat m.toNat (some ⟨w.heap.size, 0, none⟩) (by simp) (by omega) (by first|(unfold glim;omega)|(unfold lim;omega)) (fun _ => by simp)
 ·exact h.elim
def bsRK (z : Nat) (vals : List AV) (s : St) (K : AV -> St -> Prop) : Prop :=
 ((0 < z ∧ ∀ v ∈ vals, (cellOk v = true ∧ v.flat = true) ∧ v.cells.length = z) ∨ (z = 1 ∧ ∃ c, vals = [.mpt c])) ∧ K (.bsl s.bs.length vals.length vals.length) ⟨s.env, s.bs ++ [.row (cellsOf vals)], s.lo⟩
theorem bsR_sound {s : St} {o : Oper} {t e : TypeId} {n : Nat} {ps : Array (Nat × Operand)} (ho : o.op = .buildSlice t n ps) {i : TypeInfo} {z : Value} {sz : Nat} (ht : P.underlying t = some (.slice e)) (hi : P.info? e = some i) (hz : i.zero = some z) (hsz : i.size = sz) (hlim : n * sz ≤ 16777216) (hn : n ≤ glim)
  {rs : List Opd} (hl : ps.toList.length = rs.length) (hln : rs.length = n) (hp : ∀ i (h : i < ps.toList.length) (h' : i < rs.length), ps.toList[i].1 = i ∧ opd ps.toList[i].2 = some rs[i]) {K : St -> Prop}
  (h : bsRK sz (rs.map s.ev) s fun r s' => K (s'.put o.dst r)) : OpS P o s K := by
 have hd : ∀ c, o.op ≠ .defer c := fun c e => by rw [ho] at e; cases e
 obtain ⟨hcase, hK⟩ := h; rcases hcase with ⟨hz0, hall⟩ | ⟨hz1, c, hc⟩
 case inr =>
  subst hz1; obtain ⟨r0, rfl⟩ : ∃ r0, rs = [r0] := List.length_eq_one_iff.1 (by have := congrArg List.length hc; simpa using this)
  simp only [List.map_cons, List.map_nil, List.cons.injEq, and_true] at hc; obtain rfl : n = 1 := hln.symm; obtain ⟨p0, hp0⟩ : ∃ p0, ps.toList = [p0] := List.length_eq_one_iff.1 (by rw [hl]; rfl)
  obtain ⟨hp1, hp2⟩ := hp 0 (by rw [hp0]; simp) (by simp)
  simp only [hp0, List.getElem_cons_zero] at hp1 hp2
  obtain rfl : ps = #[p0] := by
   have := congrArg List.toArray hp0; simpa using this
  obtain ⟨p1, p2⟩ := p0; dsimp only at hp1 hp2; subst hp1; refine OpS.ex (ι := Unit) (fun _ => True) (fun _ => .bsl s.bs.length 1 1) (fun _ => ⟨s.env, s.bs ++ [.row [.mpt c]], s.lo⟩) hd (fun _ _ => by simpa [hc, cellsOf, AV.cells] using hK) fun E G a w hs => ?_
  have hv := hs.ev hp2; rw [hc] at hv; obtain ⟨e1, e2⟩ := hv.inv_mpt
  have h7 := hs.newBoxG (.row [.mpt c]) [.mpt c] rfl (fun ds e => by cases e; rfl) [.map (some (G.σ c))] e (Nat.le_refl _) (fun u hu => by simp at hu; subst hu; rfl) (fun j hj u hu => by
   match j, hj with
   | 0, _ => simp at hu; subst hu; exact .mpt c e2)
  refine ⟨(), .slice (some ⟨w.heap.size, 0, none⟩) 1 1, _, _, trivial, ?_, h7, ?_⟩
  ·unfold execOp; simp only [ho, Instr.buildSlice, Sem.run_bind, run_underlying ht, Result.andThen_ok, sizeOf, typeInfo, run_program, hi, Sem.run_pure, hsz]; simp [zeroValue, typeInfo, hi, hz, Instr.fill, e1, Value.cells, newRow]; rw [show Array.range 1 = #[0] from rfl]; simp
  ·exact RV.bsl (M := G.M) (σ := fun b => if b = s.bs.length then w.heap.size else G.σ b) (n := (s.bs ++ [Box.row [AV.mpt c]]).length) s.bs.length 1 1 (some ⟨w.heap.size, 0, none⟩) (by simp) (Nat.le_refl _) hn (fun _ => by simp)
 subst hsz; rw [List.length_map] at hK; refine OpS.ex (ι := Unit) (fun _ => True) (fun _ => .bsl s.bs.length rs.length rs.length) (fun _ => ⟨s.env, s.bs ++ [.row (cellsOf (rs.map s.ev))], s.lo⟩) hd (fun _ _ => hK) fun E G a w hs => ?_; have hall' : ∀ (j : Nat) (hj : j < rs.length), (cellOk (s.ev rs[j]) = true ∧ (s.ev rs[j]).flat = true) ∧ (s.ev rs[j]).cells.length = i.size := fun j hj => hall _ (List.mem_map.2 ⟨_, List.getElem_mem hj, rfl⟩)
 have key : ∀ cs : Array Value, cs.size = n * i.size -> ∃ vs us, Instr.fill (fun j => some (j * i.size, i.size)) cs (ps.map fun x => (x.1, a.eval x.2)).toList = some vs ∧ vs.size = n * i.size ∧ RowOf G.M i.size (rs.map s.ev) us ∧ ∀ (j : Nat) u, us[j]? = some u -> vs[j]? = some u := fun cs hcs => by
  obtain ⟨vs, h1, h2, _, us, h4, h5⟩ := fill_row (G := G) (n := s.bs.length) (sz := i.size) (ps.toList.map fun x => (x.1, a.eval x.2)) (rs.map s.ev) 0 cs (by simpa using hl) (fun j hj => by
   simp only [List.length_map] at hj; simp only [List.getElem_map, Nat.zero_add]; exact (hp j hj (by omega)).1) (fun j hj hj' => by
   simp only [List.length_map] at hj hj'; simp only [List.getElem_map]; obtain ⟨⟨q1, q2⟩, q3⟩ := hall' j hj'; exact ⟨hs.ev (hp j hj hj').2, q1, q2, q3⟩) (by rw [hcs]; simp [hln])
  refine ⟨vs, us, by simpa using h1, by rw [h2, hcs], h4, fun j u hj => ?_⟩
  have := h5 j u hj
  rwa [Nat.zero_mul, Nat.zero_add] at this
 have hsize : ∀ zs : Array Value, ((Array.range (n * i.size)).map fun j => zs[j % zs.size]!).size = n * i.size := fun zs => by simp
 obtain ⟨vs, us, h1, h2, h3, h4⟩ := key ((Array.range (n * i.size)).map fun j => (if n * i.size = 0 then #[] else z.cells)[j % (if n * i.size = 0 then #[] else z.cells).size]!) (hsize _)
 have hcl : (cellsOf (rs.map s.ev)).length = n * i.size := by
  rw [cellsOf_length (z := i.size) (fun y hy => by
   obtain ⟨o, ho, rfl⟩ := List.mem_map.1 hy; exact (hall _ (List.mem_map.2 ⟨o, ho, rfl⟩)).2)]
  simp [hln]
 have hul : us.length = n * i.size := by rw [h3.1]; simp [hln]
 have hvu : vs.toList = us := by
  apply List.ext_getElem (by rw [hul, Array.length_toList, h2])
  intro j q1 q2; have := h4 j us[j] (List.getElem?_eq_getElem q2); rw [Array.getElem?_eq_getElem (by simpa using q1)] at this
  simpa using Option.some.inj this
 have hone : ∀ u ∈ us, u.oneCell' = true := fun u hu => by
  obtain ⟨j, hj, rfl⟩ := List.mem_iff_getElem.1 hu
  have hq : j / i.size < (rs.map s.ev).length := by
   rw [List.length_map, hln]; exact (Nat.div_lt_iff_lt_mul hz0).2 (by omega)
  obtain ⟨a1, a2⟩ := h3.2 _ hq; obtain ⟨u', b1, b2, _⟩ := a2 (j % i.size) (by rw [a1]; exact Nat.mod_lt _ hz0)
  have hjj : j / i.size * i.size + j % i.size = j := by have := Nat.div_add_mod j i.size; rw [Nat.mul_comm] at this; exact this
  rw [hjj, List.getElem?_eq_getElem hj] at b1; cases b1; exact b2
 have h7 := hs.newBoxG (.row (cellsOf (rs.map s.ev))) (cellsOf (rs.map s.ev)) rfl (fun ds e => by
   rw [row_cs] at e; split at e
   ·cases e
   ·cases e; rfl) vs.toList e (by rw [hvu, hul, hcl]; exact Nat.le_refl _) (fun u hu => hone u (hvu ▸ hu)) (fun j hj u hu => .flat (h3.at_ j hj u (hvu ▸ hu)))
 refine ⟨(), .slice (some ⟨w.heap.size, 0, none⟩) rs.length rs.length, _, _, trivial, ?_, h7, ?_⟩
 ·have he : (ps.map fun (x : Nat × Operand) => match x with | (i, x) => (i, a.eval x)).toList = (ps.map fun x => (x.1, a.eval x.2)).toList := rfl; have hlim' : ¬ (n * i.size > 2 ^ 24) := by omega
  unfold execOp; simp only [ho, Instr.buildSlice, Sem.run_bind, run_underlying ht, Result.andThen_ok, sizeOf, typeInfo, run_program, hi, Sem.run_pure, if_neg hlim']
  by_cases h0 : n * i.size = 0
  ·simp only [h0, if_true] at h1 ⊢; simp only [Sem.run_bind, Sem.run_pure, Result.andThen_ok]; rw [he, h1, hln]; rfl
  ·simp only [h0, if_false] at h1 ⊢; simp only [Sem.run_bind, zeroValue, typeInfo, run_program, hi, hz, Sem.run_pure, Result.andThen_ok]; rw [he, h1, hln]; rfl
 ·exact RV.bsl (M := G.M) (σ := fun b => if b = s.bs.length then w.heap.size else G.σ b) (n := (s.bs ++ [Box.row (cellsOf (rs.map s.ev))]).length) s.bs.length rs.length rs.length (some ⟨w.heap.size, 0, none⟩) (by simp) (Nat.le_refl _) (by rw [hln]; exact hn) (fun _ => by simp)
def mget : List (Int × AV) -> Int -> Option AV
 | [], _ => none
 | (k, x) :: l, n => if n = k then some x else mget l n
def mput : List (Int × AV) -> Int -> AV -> List (Int × AV)
 | [], n, y => [(n, y)]
 | (k, x) :: l, n, y => if n = k then (k, y) :: l else (k, x) :: mput l n y
def mfind : List (Int × AV) -> Int -> Nat -> Option (Nat × Value)
 | [], _, _ => none
 | (k, x) :: l, n, j => if n = k then some (j, vOf x) else mfind l n (j + 1)
theorem mfind_get : ∀ (l : List (Int × AV)) (n : Int) (j : Nat), match mget l n with
  | some x => ∃ i, mfind l n j = some (i, vOf x)
  | none => mfind l n j = none
 | [], n, j => rfl
 | (k, x) :: l, n, j => by
  simp only [mget, mfind]
  by_cases h : n = k
  ·simp only [if_pos h]; exact ⟨j, rfl⟩
  ·simp only [if_neg h]; exact mfind_get l n (j + 1)
theorem findNow_map {ik : IntKind} (n : Int) : ∀ (l : List (Int × AV)) (i j : Nat), Instr.findNow (.int ik) (.int .i64 n) (mapE i l) j = some (mfind l n j)
 | [], i, j => rfl
 | (k, x) :: l, i, j => by
  simp only [mapE, Instr.findNow, Instr.sameNow, mfind]
  by_cases h : n = k
  ·subst h; simp
  ·simp only [if_true, h, if_false]; rw [show (n == k) = false by simpa using h]
   exact findNow_map n l (i + 1) (j + 1)
theorem mput_none (n : Int) (y : AV) : ∀ (l : List (Int × AV)) (i j : Nat), mfind l n j = none -> mapE i (mput l n y) = mapE i l ++ [{ key := .int .i64 n, val := vOf y, born := i + l.length }] ∧ (mput l n y).length = l.length + 1
 | [], i, j, _ => ⟨rfl, rfl⟩
 | (k, x) :: l, i, j, h => by
  simp only [mfind] at h; split at h
  ·cases h
  ·rename_i hk; obtain ⟨h1, h2⟩ := mput_none n y l (i + 1) (j + 1) h; simp only [mput, if_neg hk, mapE, h1, List.cons_append, List.length_cons, h2]; exact ⟨by rw [show i + 1 + l.length = i + (l.length + 1) by omega], trivial⟩
theorem mput_some (n : Int) (y : AV) : ∀ (l : List (Int × AV)) (i j p : Nat) (u : Value), mfind l n j = some (p, u) -> j ≤ p ∧ mapE i (mput l n y) = (mapE i l).modify (p - j) (fun e => { e with key := .int .i64 n, val := vOf y }) ∧ (mput l n y).length = l.length ∧ ((mapE i l)[p - j]?).map (·.key) = some (.int .i64 n)
 | [], i, j, p, u, h => by cases h
 | (k, x) :: l, i, j, p, u, h => by
  simp only [mfind] at h; split at h
  ·rename_i hk; cases h; subst hk; simp [mput, mapE]
  ·rename_i hk; obtain ⟨h0, h1, h2, h3⟩ := mput_some n y l (i + 1) (j + 1) p u h; obtain ⟨q, rfl⟩ : ∃ q, p = j + 1 + q := ⟨p - (j + 1), by omega⟩
   rw [show j + 1 + q - (j + 1) = q by omega] at h1 h3
   rw [show j + 1 + q - j = q + 1 by omega]
   refine ⟨by omega, ?_, ?_, ?_⟩
   ·simp only [mput, if_neg hk, mapE, h1, List.modify_succ_cons]
   ·simp only [mput, if_neg hk, List.length_cons, h2]
   ·simpa [mapE] using h3
theorem boxCells_map {bs : List Box} {l : List (Int × AV)} (b : Nat) : boxCells (bs ++ [.mp l]) b = boxCells bs b := by
 rw [boxCells_append]; split
 ·rename_i e; subst e; simp [boxCells, Box.cs?]
 ·rfl
theorem boxLoop_map {bs : List Box} {l : List (Int × AV)} (b : Nat) : boxLoop (bs ++ [.mp l]) b = if b = bs.length then some (mpLB l) else boxLoop bs b := by
 simp only [boxLoop]
 by_cases h : b < bs.length
 ·rw [List.getElem?_append_left h, if_neg (by omega)]
 ·by_cases h2 : b = bs.length
  ·subst h2; simp [Box.lb?]
  ·rw [if_neg h2, List.getElem?_eq_none (by simp; omega), List.getElem?_eq_none (by omega)]
theorem mLB_base (es : List MapEntry) (n : Nat) {M : Hp} : (mLB es n).M.le M ∧ (mLB es n).n = 0 := ⟨(fun _ _ _ h => by cases h), rfl⟩
theorem mpLB_base (l : List (Int × AV)) {M : Hp} : (mpLB l).M.le M ∧ (mpLB l).n = 0 := mLB_base _ _
theorem RS.newMap (h : RS E G s a w) : RS E ⟨G.M, fun b => if b = s.bs.length then w.heap.size else G.σ b, G.cl⟩ ⟨s.env, s.bs ++ [.mp []], s.lo⟩ a (w.alloc (.map #[] 0)) := by
 have hw : ∀ B, B < w.heap.size -> (w.alloc (.map #[] 0)).heap[B]? = w.heap[B]? := fun B hB => Below.heap_alloc _ _ _ hB
 have hg := h.grow (M' := G.M) (w' := w.alloc (.map #[] 0)) ⟨rfl, rfl, rfl, by simp, Hp.le_refl _, fun B hB _ => hw B hB, fun _ _ _ _ => rfl⟩ (fun b o v hv => by
  have := h.ok b o v hv; simp only [Hp.of] at this ⊢; rw [cell_heap (hw b (Hp.lt h.ok hv))]; exact this)
 have hsz : E.w.heap.size ≤ w.heap.size := h.fr.size; have hL : (w.alloc (.map #[] 0)).heap[w.heap.size]? = some (.map #[] 0) := World.alloc_heap_new w _; generalize w.alloc (.map #[] 0) = w' at *
 have hat : ∀ p, (⟨s.env, s.bs ++ [.mp []], s.lo⟩ : St).at p = s.at p := fun p => by
  cases p with
  | sl t => rfl
  | bx b j => simp only [St.at, boxCells_map]
 have hσ : ∀ b, b < s.bs.length -> (if b = s.bs.length then w.heap.size else G.σ b) = G.σ b := fun b hb => by rw [if_neg (by omega)]
 have hval : ∀ p x, s.at p = some x -> valAt (fun b => if b = s.bs.length then w.heap.size else G.σ b) a w' p = valAt G.σ a w' p := fun p x hp => by
  cases p with
  | sl t => rfl
  | bx b j =>
   simp only [St.at] at hp
   cases hb : boxCells s.bs b with
   | none => rw [hb] at hp; cases hp
   | some cs => simp only [valAt]; rw [hσ b (boxCells_lt hb)]
 have hnocl : ∀ B, w.heap.size ≤ B -> ∀ p, G.cl p ≠ some B := fun B hB p hp => by
  have := (h.cllt p B hp).1; omega
 refine ⟨hg.fr, hg.ok, h.nt, fun p x hp => ?_, fun b j x hp => ?_, fun b cs hb => ?_, fun b cs hb => ?_, fun b b' cs cs' hb hb' e => ?_, fun p z l hp => ?_, h.clinj, fun p B hB b cs hb => ?_, hg.cllt, h.lo, by simp only [List.length_append]; exact Nat.le_add_right_of_le h.len, fun b hb => ?_, ?_⟩
 ·rw [hat] at hp; rw [hval p x hp]; exact (hg.val p x hp).mono (Hp.le_refl _) (by simp) hσ
 ·rw [hat] at hp; rw [hval _ x hp]; exact hg.one b j x hp
 ·rw [boxCells_map] at hb; simp only [hσ b (boxCells_lt hb)]; exact hg.box b cs hb
 ·rw [boxCells_map] at hb; simp only [hσ b (boxCells_lt hb)]; exact hg.bmem b cs hb
 ·rw [boxCells_map] at hb hb'; simp only [hσ b (boxCells_lt hb), hσ b' (boxCells_lt hb')] at e; exact h.inj b b' cs cs' hb hb' e
 ·rw [hat] at hp; rw [hval p _ hp]; exact hg.own p z l hp
 ·rw [boxCells_map] at hb; simp only [hσ b (boxCells_lt hb)]; exact h.clbox p B hB b cs hb
 ·have := h.len; simp only [hσ b (by omega)]
  exact h.sig b hb
 ·have hold : ∀ b x, boxLoop s.bs b = some x -> G.σ b < w.heap.size := fun b x hb => (Array.getElem?_eq_some_iff.1 (h.sp.ob _ _ (.inl ⟨b, x, hb, rfl, rfl⟩)).1).1; refine ⟨fun B o hs => ?_, fun b x hb => ?_, fun b b' x x' hb hb' e => ?_, h.sp.ds, fun b x hb j B o hj => ?_⟩
  ·rcases hs with ⟨b, x, hb, e, rfl⟩ | ⟨hm, rfl⟩
   ·rw [boxLoop_map] at hb; split at hb
    ·rename_i eb; cases hb; simp only [eb, if_true] at e; subst e; exact ⟨hL, hnocl _ (Nat.le_refl _), .inr hsz⟩
    ·simp only at e; rw [hσ b (boxLoop_lt hb)] at e; exact hg.sp.ob B _ (.inl ⟨b, x, hb, e, rfl⟩)
   ·exact hg.sp.ob B _ (.inr ⟨hm, rfl⟩)
  ·rw [boxLoop_map] at hb; split at hb
   ·cases hb; exact ⟨(mpLB_base []).1, Nat.zero_le _, fun c hc => absurd hc (Nat.not_lt_zero _)⟩
   ·obtain ⟨h1, h2, h3⟩ := h.sp.base b x hb; have := boxLoop_lt hb; exact ⟨h1, h2, fun c hc => (hσ c (by omega)).trans (h3 c hc)⟩
  ·rw [boxLoop_map] at hb hb'; split at hb
   ·rename_i eb; split at hb'
    ·rename_i eb'; rw [eb, eb']
    ·simp only at e; rw [hσ b' (boxLoop_lt hb'), if_pos eb] at e; exact absurd (hold b' x' hb') (by omega)
   ·split at hb'
    ·rename_i eb'; simp only at e; rw [hσ b (boxLoop_lt hb), if_pos eb'] at e; exact absurd (hold b x hb) (by omega)
    ·simp only [hσ b (boxLoop_lt hb), hσ b' (boxLoop_lt hb')] at e; exact h.sp.inj b b' x x' hb hb' e
  ·rw [boxLoop_map] at hb; split at hb
   ·cases hb; cases hj
   ·exact hg.sp.rows b x hb j B o hj
theorem boxCells_mo {bs : List Box} {b : Nat} {x y : Box} (h : bs[b]? = some x) (hx : x.cs? = none) (hy : y.cs? = none) (c : Nat) : boxCells (bs.set b y) c = boxCells bs c := by
 have hb : b < bs.length := (List.getElem?_eq_some_iff.1 h).1
 by_cases e : b = c
 ·subst e; simp only [boxCells, h, List.getElem?_set, if_true, hb, hx, hy]
 ·simp only [boxCells, List.getElem?_set, if_neg e]
theorem boxLoop_mo {bs : List Box} {b : Nat} {x y : Box} {z : LB} (h : bs[b]? = some x) (hy : y.lb? = some z) (c : Nat) : boxLoop (bs.set b y) c = if c = b then some z else boxLoop bs c := by
 have hb : b < bs.length := (List.getElem?_eq_some_iff.1 h).1; simp only [boxLoop, List.getElem?_set]
 by_cases e : b = c
 ·subst e; simp [hb, hy]
 ·rw [if_neg e, if_neg (fun k => e k.symm)]
theorem RS.mapAtG (h : RS E G s a w) {b : Nat} {x : Box} {es : List MapEntry} {n : Nat} (hb : s.bs[b]? = some x) (hx : x.lb? = some (mLB es n)) : w.heap[G.σ b]? = some (.map es.toArray n) ∧ (∀ p, G.cl p ≠ some (G.σ b)) ∧ (E.FP (G.σ b) ∨ E.w.heap.size ≤ G.σ b) :=
 h.sp.ob (G.σ b) _ (.inl ⟨b, mLB es n, by simp [boxLoop, hb, hx], rfl, rfl⟩)
theorem RS.mapAt (h : RS E G s a w) {b : Nat} {l : List (Int × AV)} (hb : s.bs[b]? = some (.mp l)) : w.heap[G.σ b]? = some (.map (mapEs l) l.length) ∧ (∀ p, G.cl p ≠ some (G.σ b)) ∧ (E.FP (G.σ b) ∨ E.w.heap.size ≤ G.σ b) :=
 h.mapAtG hb rfl
theorem RS.setMapG (h : RS E G s a w) {b : Nat} {x y : Box} {es es' : List MapEntry} {n n' : Nat} (hb : s.bs[b]? = some x) (hx : x.lb? = some (mLB es n)) (hxc : x.cs? = none) (hyc : y.cs? = none) (hy : y.lb? = some (mLB es' n')) : RS E G ⟨s.env, s.bs.set b y, s.lo⟩ a (w.putObj (G.σ b) (.map es'.toArray n')) := by
 obtain ⟨h1, h2, h3⟩ := h.mapAtG hb hx; have hlb : boxLoop s.bs b = some (mLB es n) := by simp [boxLoop, hb, hx]
 have hlt : G.σ b < w.heap.size := (Array.getElem?_eq_some_iff.1 h1).1; refine h.turn (.map es'.toArray n') h1 rfl h3 (by simp) (boxCells_mo hb hxc hyc) ⟨fun B o hs => ?_, fun c z hc => ?_, fun c c' z z' hc hc' e => ?_, h.sp.ds, fun c z hc j B o hj => ?_⟩
 ·rcases hs with ⟨c, z, hc, e, ho⟩ | ⟨hm, ho⟩
  ·rw [boxLoop_mo hb hy] at hc; split at hc
   ·rename_i ec; cases hc; subst ec e ho; exact ⟨World.putObj_heap_same hlt, h2, h3⟩
   ·rename_i ec; obtain ⟨h4, h5, h6⟩ := h.sp.ob B o (.inl ⟨c, z, hc, e, ho⟩); have hne : B ≠ G.σ b := fun e2 => ec (h.sp.inj c b z _ hc hlb (e.trans e2)); exact ⟨by rw [World.putObj_heap_other hne]; exact h4, h5, h6⟩
  ·obtain ⟨h4, h5, h6⟩ := h.sp.ob B o (.inr ⟨hm, ho⟩)
   have hne : B ≠ G.σ b := fun e2 => by
    rw [e2, h1, ho] at h4; cases h4
   exact ⟨by rw [World.putObj_heap_other hne]; exact h4, h5, h6⟩
 ·rw [boxLoop_mo hb hy] at hc; split at hc
  ·cases hc; exact ⟨(mLB_base _ _).1, Nat.zero_le _, fun c hc => absurd hc (Nat.not_lt_zero _)⟩
  ·exact h.sp.base c z hc
 ·rw [boxLoop_mo hb hy] at hc hc'; split at hc
  ·rename_i ec; split at hc'
   ·rename_i ec'; rw [ec, ec']
   ·rename_i ec'; rw [ec] at e; exact absurd (h.sp.inj c' b z' _ hc' hlb e.symm) ec'
  ·rename_i ec; split at hc'
   ·rename_i ec'; rw [ec'] at e; exact absurd (h.sp.inj c b z _ hc hlb e) ec
   ·exact h.sp.inj c c' z z' hc hc' e
 ·rw [boxLoop_mo hb hy] at hc; split at hc
  ·cases hc; cases hj
  ·obtain ⟨h4, h5, h6⟩ := h.sp.rows c z hc j B o hj; have hne : B ≠ G.σ b := fun e2 => h2 _ (e2 ▸ h5); exact ⟨by rw [World.putObj_heap_other hne]; exact h4, h5, h6⟩
theorem RS.setMap (h : RS E G s a w) {b : Nat} {l : List (Int × AV)} (hb : s.bs[b]? = some (.mp l)) (l' : List (Int × AV)) : RS E G ⟨s.env, s.bs.set b (.mp l'), s.lo⟩ a (w.putObj (G.σ b) (.map (mapEs l') l'.length)) :=
 h.setMapG hb rfl rfl rfl rfl
def qget : List (Int × AV × Nat) -> Int -> Option AV
 | [], _ => none
 | (k, x, _) :: l, n => if n = k then some x else qget l n
def qput : List (Int × AV × Nat) -> Int -> AV -> Nat -> List (Int × AV × Nat)
 | [], n, y, c => [(n, y, c)]
 | (k, x, b) :: l, n, y, c => if n = k then (k, y, b) :: l else (k, x, b) :: qput l n y c
def qcnt : List (Int × AV × Nat) -> Int -> Nat -> Nat
 | [], _, c => c + 1
 | (k, _, _) :: l, n, c => if n = k then c else qcnt l n c
def qdel : List (Int × AV × Nat) -> Int -> List (Int × AV × Nat)
 | [], _ => []
 | (k, x, b) :: l, n => if n = k then l else (k, x, b) :: qdel l n
def qfind : List (Int × AV × Nat) -> Int -> Nat -> Option (Nat × Value)
 | [], _, _ => none
 | (k, x, _) :: l, n, j => if n = k then some (j, vOf x) else qfind l n (j + 1)
theorem qfind_get : ∀ (l : List (Int × AV × Nat)) (n : Int) (j : Nat), match qget l n with
  | some x => ∃ i, qfind l n j = some (i, vOf x)
  | none => qfind l n j = none
 | [], n, j => rfl
 | (k, x, b) :: l, n, j => by
  simp only [qget, qfind]
  by_cases h : n = k
  ·simp only [if_pos h]; exact ⟨j, rfl⟩
  ·simp only [if_neg h]; exact qfind_get l n (j + 1)
theorem findNow_mq {ik : IntKind} (n : Int) : ∀ (l : List (Int × AV × Nat)) (j : Nat), Instr.findNow (.int ik) (.int .i64 n) (mqE l) j = some (qfind l n j)
 | [], j => rfl
 | (k, x, b) :: l, j => by
  have ih := findNow_mq (ik := ik) n l (j + 1); simp only [mqE] at ih; simp only [mqE, List.map_cons, Instr.findNow, Instr.sameNow, qfind]
  by_cases h : n = k
  ·subst h; simp
  ·simp only [if_true, h, if_false]; rw [show (n == k) = false by simpa using h]
   exact ih
theorem qput_none (n : Int) (y : AV) (c : Nat) : ∀ (l : List (Int × AV × Nat)) (j : Nat), qfind l n j = none -> mqE (qput l n y c) = mqE l ++ [{ key := .int .i64 n, val := vOf y, born := c }] ∧ qcnt l n c = c + 1
 | [], j, _ => ⟨rfl, rfl⟩
 | (k, x, b) :: l, j, h => by
  simp only [qfind] at h; split at h
  ·cases h
  ·rename_i hk; obtain ⟨h1, h2⟩ := qput_none n y c l (j + 1) h; simp only [qput, qcnt, if_neg hk]; refine ⟨?_, h2⟩; simp only [mqE, List.map_cons, List.cons_append] at h1 ⊢; rw [h1]
theorem qput_some (n : Int) (y : AV) (c : Nat) : ∀ (l : List (Int × AV × Nat)) (j p : Nat) (u : Value), qfind l n j = some (p, u) -> j ≤ p ∧ mqE (qput l n y c) = (mqE l).modify (p - j) (fun e => { e with key := .int .i64 n, val := vOf y }) ∧ qcnt l n c = c ∧ ((mqE l)[p - j]?).map (·.key) = some (.int .i64 n) ∧ mqE (qdel l n) = (mqE l).eraseIdx (p - j) ∧ p - j < (mqE l).length
 | [], j, p, u, h => by cases h
 | (k, x, b) :: l, j, p, u, h => by
  simp only [qfind] at h; split at h
  ·rename_i hk; cases h; subst hk; simp [qput, qcnt, mqE, qdel]
  ·rename_i hk; obtain ⟨h0, h1, h2, h3, h4, h5⟩ := qput_some n y c l (j + 1) p u h; obtain ⟨q, rfl⟩ : ∃ q, p = j + 1 + q := ⟨p - (j + 1), by omega⟩
   rw [show j + 1 + q - (j + 1) = q by omega] at h1 h3 h4 h5
   rw [show j + 1 + q - j = q + 1 by omega]
   simp only [mqE] at h1 h3 h4 h5; refine ⟨by omega, ?_, ?_, ?_, ?_, ?_⟩
   ·simp only [qput, if_neg hk, mqE, List.map_cons, h1, List.modify_succ_cons]
   ·simp only [qcnt, if_neg hk, h2]
   ·simpa [mqE] using h3
   ·simp only [qdel, if_neg hk, mqE, List.map_cons, h4, List.eraseIdx_cons_succ]
   ·simp [mqE] at h5 ⊢; exact h5
def mapOk : AV -> Bool
 | .bool _ => true
 | .int _ _ => true
 | .agg cs => cs.all fun c => match c with
  | .bool _ => true
  | .int _ _ => true
  | _ => false
 | _ => false
theorem mapOk_val {M : Hp} {σ : Nat -> Nat} {n : Nat} {x : AV} {v : Value} (hx : mapOk x = true) (h : RV M σ n x v) : v = vOf x := by
 unfold mapOk at hx; split at hx
 ·exact h.inv_bool
 ·exact h.inv_int
 ·rename_i cs; obtain ⟨vs, rfl, hl, _, hv⟩ := h.inv_agg; simp only [vOf]; congr 2; apply List.ext_getElem (by simpa using hl)
  intro i h1 h2; have hi : i < cs.length := by omega
  have h3 := hv i hi vs[i] (List.getElem?_eq_getElem h1); have h4 := List.all_eq_true.1 hx _ (List.getElem_mem hi); rw [List.getElem_map]; generalize cs[i] = c at h3 h4; split at h4
  ·exact h3.inv_bool
  ·exact h3.inv_int
  ·cases h4
 ·cases hx
theorem vOf_rv {M : Hp} {σ : Nat -> Nat} {n : Nat} {x : AV} (hx : mapOk x = true) : RV M σ n x (vOf x) := by
 unfold mapOk at hx; split at hx
 ·exact .flat (.bool _)
 ·exact .flat (.int _ _)
 ·rename_i cs; refine .flat (.agg cs (cs.map vOf1) (by simp) (fun v hv => ?_) (fun j h v hv => ?_))
  ·obtain ⟨c, hc, rfl⟩ := List.mem_map.1 hv; have h4 := List.all_eq_true.1 hx _ hc; split at h4
   ·rfl
   ·rfl
   ·cases h4
  ·have h4 := List.all_eq_true.1 hx _ (List.getElem_mem h); rw [List.getElem?_map, List.getElem?_eq_getElem h] at hv; simp only [Option.map_some, Option.some.injEq] at hv; subst hv; generalize cs[j] = c at h4; split at h4
   ·exact .bool _
   ·exact .int _ _
   ·cases h4
 ·cases hx
theorem makeMap_sound {s : St} {o : Oper} {t : TypeId} {r : Option Operand} {rr : Option Opd} (ho : o.op = .makeMap t r) (hr : opdO r = some rr) {kt et : TypeId} (ht : P.underlying t = some (.map kt et)) {K : St -> Prop}
  (h : (match rr.map s.ev with | none => True | some (.int _ _) => True | _ => False) ∧ K (St.put ⟨s.env, s.bs ++ [.mp []], s.lo⟩ o.dst (.mpt s.bs.length))) : OpS P o s K := by
 have hd : ∀ c, o.op ≠ .defer c := fun c e => by rw [ho] at e; cases e
 refine OpS.val (.mpt s.bs.length) ⟨s.env, s.bs ++ [.mp []], s.lo⟩ hd h.2 fun E G a w hs => ?_; refine ⟨.map (some w.heap.size), _, _, ?_, hs.newMap, ?_⟩
 ·unfold execOp
  cases r with
  | none => simp [ho, Instr.makeMap]
  | some x =>
   simp only [opdO] at hr; split at hr
   ·rename_i rx hx; cases hr; have h1 := h.1; simp only [Option.map_some] at h1; split at h1
    ·rename_i heq; cases heq
    ·rename_i k n heq; simp only [Option.some.injEq] at heq; have hv := hs.ev hx; rw [heq] at hv; simp [ho, Instr.makeMap, run_underlying ht, hv.inv_int, asInt, asIntOf]
    ·exact h1.elim
   ·cases hr
 ·have := RV.mpt (M := G.M) (σ := fun b => if b = s.bs.length then w.heap.size else G.σ b) (n := (s.bs ++ [Box.mp []]).length) s.bs.length (by simp)
  simpa using this
def setMK (s : St) (m k v : AV) (K : St -> Prop) : Prop :=
 match m, k with
 | .mpt b, .int .i64 n => match s.bs[b]? with
  | some (.mp l) => mapOk v = true ∧ K ⟨s.env, s.bs.set b (.mp (mput l n v)), s.lo⟩
  | some (.mq l c) => mapOk v = true ∧ K ⟨s.env, s.bs.set b (.mq (qput l n v c) (qcnt l n c)), s.lo⟩
  | _ => False
 | _, _ => False
theorem run_getObj' {w : World} {r : Nat} {o : Obj} (h : w.heap[r]? = some o) (hk : o.isCells = false) : (getObj r).run P w = .ok o w := by
 cases o <;> first | (simp [getObj, Sem.run, h]; done) | cases hk
theorem run_setObjM {w : World} {r n : Nat} {es : Array MapEntry} {o' : Obj} (h : w.heap[r]? = some (.map es n)) : (setObj r o').run P w = .ok () (w.putObj r o') := by
 simp [setObj, Sem.run, h, World.putObj]
theorem run_checkKeyI {kt : TypeId} {ik : IntKind} (hkt : P.underlying kt = some (.int ik)) (e : Bool) (n : Int) (w : World) : (Instr.checkKey e 10000 kt (.int .i64 n)).run P w = .ok () w := by
 show (Instr.checkKey e (9999 + 1) kt (.int .i64 n)).run P w = .ok () w; unfold Instr.checkKey; simp only [Sem.run_bind, run_underlying hkt, Result.andThen_ok]; rfl
theorem run_findKeyI {kt : TypeId} {ik : IntKind} (hkt : P.underlying kt = some (.int ik)) (n : Int) (l : List (Int × AV)) (w : World) : (Instr.findKey kt (.int .i64 n) (mapEs l).toList).run P w = .ok (mfind l n 0) w := by
 simp only [Instr.findKey, Sem.run_bind, run_underlying hkt, Result.andThen_ok, mapEs, findNow_map]; rfl
theorem run_findKeyQ {kt : TypeId} {ik : IntKind} (hkt : P.underlying kt = some (.int ik)) (n : Int) (l : List (Int × AV × Nat)) (w : World) : (Instr.findKey kt (.int .i64 n) (mqE l).toArray.toList).run P w = .ok (qfind l n 0) w := by
 simp only [Instr.findKey, Sem.run_bind, run_underlying hkt, Result.andThen_ok, findNow_mq]; rfl
theorem mapUpdate_sound {s : St} {o : Oper} {t : TypeId} {m k v : Operand} (ho : o.op = .mapUpdate t m k v) (hdn : o.dst = none) {rm rk rv : Opd} (hm : opd m = some rm) (hk : opd k = some rk) (hv : opd v = some rv) {kt et : TypeId} {ik : IntKind} (ht : P.underlying t = some (.map kt et)) (hkt : P.underlying kt = some (.int ik)) {K : St -> Prop}
  (h : setMK s (s.ev rm) (s.ev rk) (s.ev rv) K) : OpS P o s K := by
 have hd : ∀ c, o.op ≠ .defer c := fun c e => by rw [ho] at e; cases e
 unfold setMK at h; split at h
 ·rename_i b n hme hke; split at h
  ·rename_i l hb; obtain ⟨hok, hK⟩ := h; refine OpS.skip _ hd hdn hK fun E G a w hs => ?_; have hmv := hs.ev hm; rw [hme] at hmv; have hkv := hs.ev hk; rw [hke] at hkv; have hvv := mapOk_val hok (hs.ev hv); obtain ⟨h1, _, _⟩ := hs.mapAt hb; refine ⟨G, _, ?_, hs.setMap hb _⟩; have e1 := hmv.inv_mpt.1; have e2 := hkv.inv_int; have hf := run_findKeyI hkt n l w; unfold execOp
   cases hq : mfind l n 0 with
   | none =>
    rw [hq] at hf; obtain ⟨h2, h3⟩ := mput_none n (s.ev rv) l 0 0 hq
    have he : (mapEs l).push { key := .int .i64 n, val := vOf (s.ev rv), born := l.length } = mapEs (mput l n (s.ev rv)) := by
     simp only [mapEs, h2, Nat.zero_add]; simp
    simp only [ho, Instr.mapUpdate, e1, e2, hvv, Sem.run_bind, run_underlying ht, Result.andThen_ok, run_getObj' h1 rfl, run_checkKeyI hkt, hf, run_setObjM h1, he, h3]
    rfl
   | some q =>
    obtain ⟨i, u⟩ := q; rw [hq] at hf; obtain ⟨_, h2, h3, h4⟩ := mput_some n (s.ev rv) l 0 0 i u hq; rw [Nat.sub_zero] at h2 h4
    have he : (mapEs l).modify i (fun e => { e with key := .int .i64 n, val := vOf (s.ev rv) }) = mapEs (mput l n (s.ev rv)) := by
     simp only [mapEs, h2]; apply Array.ext'; simp
    have hkey : (((mapEs l)[i]?).map (·.key)).getD (.int .i64 n) = .int .i64 n := by
     simp only [mapEs, List.getElem?_toArray, h4, Option.getD_some]
    have hstay : ∀ w' : World, (Instr.keyThatStays (.int .i64 n) (.int .i64 n)).run P w' = .ok (.int .i64 n) w' := fun w' => by
     simp [Instr.keyThatStays, Instr.sameBits]
    simp only [ho, Instr.mapUpdate, e1, e2, hvv, Sem.run_bind, run_underlying ht, Result.andThen_ok, run_getObj' h1 rfl, run_checkKeyI hkt, hf, hkey, hstay, run_setObjM h1, he, h3]; rfl
  ·rename_i l c hb; obtain ⟨hok, hK⟩ := h; refine OpS.skip _ hd hdn hK fun E G a w hs => ?_; have hmv := hs.ev hm; rw [hme] at hmv; have hkv := hs.ev hk; rw [hke] at hkv; have hvv := mapOk_val hok (hs.ev hv); obtain ⟨h1, _, _⟩ := hs.mapAtG hb rfl; refine ⟨G, _, ?_, hs.setMapG hb rfl rfl rfl rfl⟩; have e1 := hmv.inv_mpt.1; have e2 := hkv.inv_int; have hf := run_findKeyQ hkt n l w; unfold execOp
   cases hq : qfind l n 0 with
   | none =>
    rw [hq] at hf; obtain ⟨h2, h3⟩ := qput_none n (s.ev rv) c l 0 hq
    have he : (mqE l).toArray.push { key := .int .i64 n, val := vOf (s.ev rv), born := c } = (mqE (qput l n (s.ev rv) c)).toArray := by
     rw [h2]; simp
    simp only [ho, Instr.mapUpdate, e1, e2, hvv, Sem.run_bind, run_underlying ht, Result.andThen_ok, run_getObj' h1 rfl, run_checkKeyI hkt, hf, run_setObjM h1, he, h3]
    rfl
   | some q =>
    obtain ⟨i, u⟩ := q; rw [hq] at hf; obtain ⟨_, h2, h3, h4, _, _⟩ := qput_some n (s.ev rv) c l 0 i u hq; rw [Nat.sub_zero] at h2 h4
    have he : (mqE l).toArray.modify i (fun e => { e with key := .int .i64 n, val := vOf (s.ev rv) }) = (mqE (qput l n (s.ev rv) c)).toArray := by
     rw [h2]; apply Array.ext'; simp
    have hkey : (((mqE l).toArray[i]?).map (·.key)).getD (.int .i64 n) = .int .i64 n := by
     simp only [List.getElem?_toArray, h4, Option.getD_some]
    have hstay : ∀ w' : World, (Instr.keyThatStays (.int .i64 n) (.int .i64 n)).run P w' = .ok (.int .i64 n) w' := fun w' => by
     simp [Instr.keyThatStays, Instr.sameBits]
    simp only [ho, Instr.mapUpdate, e1, e2, hvv, Sem.run_bind, run_underlying ht, Result.andThen_ok, run_getObj' h1 rfl, run_checkKeyI hkt, hf, hkey, hstay, run_setObjM h1, he, h3]; rfl
  ·exact h.elim
 ·exact h.elim
def okR (ok : Bool) (x : AV) (b : Bool) : AV := match ok with
 | true => .tup [x, .bool b]
 | false => x
def getMK (ok : Bool) (z : AV) (s : St) (m k : AV) (K : AV -> Prop) : Prop :=
 match m, k with
 | .mpt b, .int .i64 n => match s.bs[b]? with
  | some (.mp l) => match mget l n with
   | some x => mapOk x = true ∧ K (okR ok x true)
   | none => K (okR ok z false)
  | some (.mq l _) => match qget l n with
   | some x => mapOk x = true ∧ K (okR ok x true)
   | none => K (okR ok z false)
  | _ => False
 | .nmp, .int .i64 _ => K (okR ok z false)
 | _, _ => False
theorem RV.inv_nmp {M : Hp} {σ : Nat -> Nat} {n : Nat} {v : Value} (h : RV M σ n .nmp v) : v = .map none := by
 cases h with
 | flat h => cases h; rfl
theorem lookup_sound {s : St} {o : Oper} {t : TypeId} {m k : Operand} {ok : Bool} (ho : o.op = .lookup t m k ok) {rm rk : Opd} (hm : opd m = some rm) (hk : opd k = some rk) {kt et : TypeId} {ik : IntKind} (ht : P.underlying t = some (.map kt et)) (hkt : P.underlying kt = some (.int ik))
  {i : TypeInfo} {zv : Value} {z : AV} (hi : P.info? et = some i) (hz : i.zero = some zv) (hzx : avOf zv = some z) {K : St -> Prop} (h : getMK ok z s (s.ev rm) (s.ev rk) fun r => K (s.put o.dst r)) : OpS P o s K := by
 have hd : ∀ c, o.op ≠ .defer c := fun c e => by rw [ho] at e; cases e
 have tup : ∀ (M : Hp) (σ : Nat -> Nat) (nb : Nat) (x : AV) (v : Value) (b : Bool), RV M σ nb x v -> RV M σ nb (.tup [x, .bool b]) (.tuple #[v, .bool b]) := fun M σ nb x v b hx => by
  refine .tup _ [v, .bool b] rfl fun j hj u hu => ?_
  match j, hj with
  | 0, _ => simp at hu; subst hu; exact hx
  | 1, _ => simp at hu; subst hu; exact .flat (.bool b)
 have fin : ∀ (x : AV) (b : Bool), (∃ v : Value, (∀ (M : Hp) (σ : Nat -> Nat) (nb : Nat), RV M σ nb x v) ∧ ∀ E G a w, RS E G s a w -> (Instr.lookup t (a.eval m) (a.eval k) ok).run P w = .ok (if ok then .tuple #[v, .bool b] else v) w) -> K (s.put o.dst (okR ok x b)) -> OpS P o s K := fun x b ⟨v, hv, hrun⟩ hK => by
  cases ok with
  | true =>
   refine OpS.pure _ hd hK fun E G a w hs => ⟨_, ?_, tup _ _ _ _ _ _ (hv _ _ _)⟩; unfold execOp; simp only [ho, hrun E G a w hs, Sem.run_bind, Result.andThen_ok, if_true]
   rfl
  | false =>
   refine OpS.pure _ hd hK fun E G a w hs => ⟨v, ?_, hv _ _ _⟩; unfold execOp; simp only [ho, hrun E G a w hs, Sem.run_bind, Result.andThen_ok]; rfl
 have hzv : ∀ (M : Hp) (σ : Nat -> Nat) (nb : Nat), RV M σ nb z zv := fun M σ nb => .flat (avOf_fv hzx); have hzr : ∀ w : World, (zeroValue et).run P w = .ok zv w := fun w => by simp [zeroValue, typeInfo, hi, hz]
 unfold getMK at h; split at h
 ·rename_i b n hme hke; split at h
  ·rename_i l hb
   have hrun : ∀ E G a w, RS E G s a w -> a.eval m = .map (some (G.σ b)) ∧ a.eval k = .int .i64 n ∧ w.heap[G.σ b]? = some (.map (mapEs l) l.length) := fun E G a w hs => by
    have hmv := hs.ev hm; rw [hme] at hmv; have hkv := hs.ev hk; rw [hke] at hkv; exact ⟨hmv.inv_mpt.1, hkv.inv_int, (hs.mapAt hb).1⟩
   have hg := mfind_get l n 0; split at h
   ·rename_i x hx; rw [hx] at hg; obtain ⟨j, hj⟩ := hg; refine fin x true ⟨vOf x, fun M σ nb => vOf_rv h.1, fun E G a w hs => ?_⟩ h.2; obtain ⟨e1, e2, e3⟩ := hrun E G a w hs; have hf := run_findKeyI hkt n l w; rw [hj] at hf; simp only [Instr.lookup, e1, e2, Sem.run_bind, run_underlying ht, Result.andThen_ok, run_getObj' e3 rfl, Sem.run_pure, run_checkKeyI hkt, hf]
   ·rename_i hx; rw [hx] at hg; simp only at hg; refine fin z false ⟨zv, hzv, fun E G a w hs => ?_⟩ h; obtain ⟨e1, e2, e3⟩ := hrun E G a w hs; have hf := run_findKeyI hkt n l w; rw [hg] at hf; simp only [Instr.lookup, e1, e2, Sem.run_bind, run_underlying ht, Result.andThen_ok, run_getObj' e3 rfl, Sem.run_pure, run_checkKeyI hkt, hf, hzr]
  ·rename_i l c hb
   have hrun : ∀ E G a w, RS E G s a w -> a.eval m = .map (some (G.σ b)) ∧ a.eval k = .int .i64 n ∧ w.heap[G.σ b]? = some (.map (mqE l).toArray c) := fun E G a w hs => by
    have hmv := hs.ev hm; rw [hme] at hmv; have hkv := hs.ev hk; rw [hke] at hkv; exact ⟨hmv.inv_mpt.1, hkv.inv_int, (hs.mapAtG hb rfl).1⟩
   have hg := qfind_get l n 0; split at h
   ·rename_i x hx; rw [hx] at hg; obtain ⟨j, hj⟩ := hg; refine fin x true ⟨vOf x, fun M σ nb => vOf_rv h.1, fun E G a w hs => ?_⟩ h.2; obtain ⟨e1, e2, e3⟩ := hrun E G a w hs; have hf := run_findKeyQ hkt n l w; rw [hj] at hf; simp only [Instr.lookup, e1, e2, Sem.run_bind, run_underlying ht, Result.andThen_ok, run_getObj' e3 rfl, Sem.run_pure, run_checkKeyI hkt, hf]
   ·rename_i hx; rw [hx] at hg; simp only at hg; refine fin z false ⟨zv, hzv, fun E G a w hs => ?_⟩ h; obtain ⟨e1, e2, e3⟩ := hrun E G a w hs; have hf := run_findKeyQ hkt n l w; rw [hg] at hf; simp only [Instr.lookup, e1, e2, Sem.run_bind, run_underlying ht, Result.andThen_ok, run_getObj' e3 rfl, Sem.run_pure, run_checkKeyI hkt, hf, hzr]
  ·exact h.elim
 ·rename_i n hme hke; refine fin z false ⟨zv, hzv, fun E G a w hs => ?_⟩ h; have hmv := hs.ev hm; rw [hme] at hmv; have hkv := hs.ev hk; rw [hke] at hkv; have e1 : a.eval m = .map none := hmv.inv_nmp; have hf := run_findKeyI (P := P) hkt n [] w; simp only [mfind] at hf; simp only [Instr.lookup, e1, hkv.inv_int, Sem.run_bind, run_underlying ht, Result.andThen_ok, Sem.run_pure, run_checkKeyI hkt]; rw [show ([] : List MapEntry) = (mapEs []).toList from rfl, hf]; simp only [Result.andThen_ok, Sem.run_bind, hzr, Sem.run_pure]
 ·exact h.elim
theorem slN_sound {s : St} {o : Oper} {x hi : Operand} {t e : Nat} (ho : o.op = .slice t x none (some hi) none) {rx rh : Opd} (hx : opd x = some rx) (hhi : opd hi = some rh) {sz : Nat} (ht : P.underlying t = some (.slice e)) (hsz : szOf P e = some sz) {ki : IntKind} (hxe : s.ev rx = .sl .full []) (hhe : s.ev rh = .int ki 0) {K : St -> Prop}
  (h : K (s.put o.dst (.sl .full []))) : OpS P o s K := by
 have hd : ∀ c, o.op ≠ .defer c := fun c e => by rw [ho] at e; cases e
 refine OpS.pure _ hd h fun E G a w hs => ?_; have hxv := hs.ev hx; rw [hxe] at hxv; have hhv := hs.ev hhi; rw [hhe] at hhv; have hhv := hhv.inv_int; obtain ⟨ad, kk, B, off, sz', h1, _, _, _, h2, _⟩ := hxv.inv_sl; have := h2 rfl; subst this; refine ⟨.slice ad 0 0, ?_, ?_⟩
 ·have e1 : (Instr.sliceBounds true 0 0 none (some (.int ki 0)) none).run P w = .ok (0, 0, 0) w := by
   unfold Instr.sliceBounds; simp [Instr.sliceBound, asIntOf]
  unfold execOp; simp only [ho, Instr.sliceAt, Sem.run_bind, run_underlying ht, Result.andThen_ok, h1, Instr.slice, Option.map_none, Option.map_some, hhv, List.length_nil, e1, run_sizeOf' hsz, Sem.run_pure]; simp
 ·have h1' : a.eval x = .slice ad 0 0 := h1; rw [← h1']; exact hxv
theorem cap_sound {s : St} {o : Oper} {x : Operand} {t e : Nat} (ho : o.op = .call { callee := .builtin .cap, args := #[x], argTypes := #[t] }) {rx : Opd} (hx : opd x = some rx) (ht : P.underlying t = some (.slice e)) {K : St -> Prop} (h : moreK .cap [s.ev rx] fun r => K (s.put o.dst r)) : OpS P o s K := by
 have hd : ∀ c, o.op ≠ .defer c := fun c e => by rw [ho] at e; cases e
 have hrun : ∀ (a : Act) (w : World) (ad : Option Addr) (m k : Nat), a.eval x = .slice ad m k -> (execOp a.eval o).run P w = .ok (.value (.int .i64 k)) w := fun a w ad m k h => by
  unfold execOp; simp [ho, resolve, invoke, builtin, Builtin.cap_, run_underlying ht, h, goInt]
 unfold moreK at h; generalize hxe : s.ev rx = v at h; cases v <;> first | (simp [More.val] at h; done) | skip
 ·rename_i c l; cases c <;> first | (simp [More.val] at h; done) | skip
  refine OpS.pure _ hd h fun E G a w hs => ?_; have hxv := hs.ev hx; rw [hxe] at hxv; obtain ⟨ad, kk, B, off, sz', h1, _, _, _, h2, _⟩ := hxv.inv_sl; have := h2 rfl; subst this; exact ⟨_, hrun a w _ _ _ h1, .flat (.int _ _)⟩
 ·refine OpS.pure _ hd h fun E G a w hs => ?_; have hxv := hs.ev hx; rw [hxe] at hxv; obtain ⟨ad, h1, _⟩ := hxv.inv_bsl; exact ⟨_, hrun a w _ _ _ h1, .flat (.int _ _)⟩
theorem strOf_push (ns : List Int) : ∀ (b : ByteArray), (ns.foldl (fun r n => r.push (UInt8.ofNat n.toNat)) b).size = b.size + ns.length := by
 induction ns with
 | nil => intro b; simp
 | cons n ns ih => intro b; rw [List.foldl_cons, ih, ByteArray.size_push, List.length_cons]; omega
theorem intsOf_eq : ∀ {l : List AV} {ns : List Int}, intsOf l = some ns -> l = ns.map (AV.int .u8)
 | [], ns, h => by cases h; rfl
 | x :: l, ns, h => by
  unfold intsOf at h; split at h
  ·rename_i e; cases e
  ·rename_i n r e; cases e; split at h
   ·rename_i m hm; cases h; rw [intsOf_eq hm]; rfl
   ·cases h
  ·cases h
theorem bts_sound {s : St} {o : Oper} {x : Operand} {t u e : Nat} (ho : o.op = .convert t u x) {rx : Opd} (hx : opd x = some rx) (ht : P.underlying t = some (.slice e)) (he : P.underlying e = some (.int .u8)) (hu : P.underlying u = some .string) {K : St -> Prop} (h : moreK .bts [s.ev rx] fun r => K (s.put o.dst r)) : OpS P o s K := by
 have hd : ∀ c, o.op ≠ .defer c := fun c e => by rw [ho] at e; cases e
 unfold moreK at h; generalize hxe : s.ev rx = v at h; cases v <;> first | (simp [More.val] at h; done) | skip
 rename_i oc l
 cases hn : intsOf l with
 | none => simp [More.val, hn] at h
 | some ns =>
  simp only [More.val, hn] at h; have hl := intsOf_eq hn; refine OpS.pure _ hd h fun E G a w hs => ?_; have hxv := hs.ev hx; rw [hxe] at hxv; obtain ⟨ad, k, B, off, hsv⟩ := hxv.sv (sz := 1) (fun y hy => by rw [hl] at hy; obtain ⟨n, _, rfl⟩ := List.mem_map.1 hy; rfl)
  have hlen : l.length = ns.length := by rw [hl, List.length_map]
  have hcell : ∀ j (hj : j < ns.length), w.cell? ⟨B, off + j, none⟩ = some (.int .u8 ns[j]) := fun j hj => by
   obtain ⟨_, h2⟩ := hsv.el j (by omega)
   obtain ⟨v, h3, _, h4⟩ := h2 0 (by simp [hl, AV.cells])
   have h5 := hs.ok _ _ _ h3; simp only [hl, List.getElem_map, AV.cells, List.getElem_cons_zero] at h4; cases h4; simp only [Hp.of, Nat.mul_one, Nat.add_zero] at h5; exact h5
  refine ⟨.string (strOf ns), ?_, .flat (.str _ (by rw [strOf, strOf_push, ← hlen]; have := hsv.len; simpa using this))⟩
  have hrun : (convert t u (a.eval x)).run P w = .ok (.string (strOf ns)) w := by
   rw [hsv.eq, run_convert_bytes_string w t u e ad l.length k ht he hu]
   cases had : ad with
   | none =>
    have h0 : l = [] := Classical.byContradiction fun h1 => by have := hsv.at_ h1; rw [had] at this; cases this
    have h0' : ns = [] := by cases ns with | nil => rfl | cons => rw [hl] at h0; cases h0
    subst h0'
    simp [Conv.bytesToString, strOf]
   | some ad =>
    have hload := run_loadCells_list (P := P) (w := w) ad (ns.map (Value.int .u8)) (fun j v hj => by
     have hj' : j < ns.length := by
      have := (List.getElem?_eq_some_iff.1 hj).1; simpa using this
     have h0 : l ≠ [] := fun h1 => by rw [h1] at hlen; simp at hlen; omega
     have h1 := hsv.at_ h0; rw [had] at h1; cases h1; rw [addr_add, hcell j hj']; simp [List.getElem?_eq_getElem hj'] at hj; rw [← hj])
    rw [List.length_map] at hload; rw [hlen]; exact run_bytesToString w ad ns.length k ns hload
  unfold execOp; simp only [ho, Sem.run_bind, hrun, Result.andThen_ok, Sem.run_pure]
theorem lde_sound {s : St} {o : Oper} {t : TypeId} {x : Operand} (ho : o.op = .load t x) {rx : Opd} (hx : opd x = some rx) {agg : Bool} {n : Nat} (ha : aggOf P t = some agg) (hn : agg = true -> szOf P t = some n) {K : St -> Prop} (h : moreK (.lde agg n) [s.ev rx] fun r => K (s.put o.dst r)) : OpS P o s K := by
 refine load_sound ho hx ha hn ?_; unfold moreK at h; generalize s.ev rx = v at h; cases v <;> first | (simp [More.val] at h; done) | skip
 rename_i cs; simp only [More.val, ldeV] at h; simp only [St.rd, loadK]
 cases agg with
 | true =>
  simp only at h ⊢
  cases hb : Nat.ble n cs.length with
  | true => rw [hb] at h; exact req_iff.2 ⟨rfl, h⟩
  | false => rw [hb] at h; exact h.elim
 | false =>
  cases cs with
  | nil => exact h.elim
  | cons c r => exact h
theorem avOf_nilS {v : Value} (h : avOf v = some (.sl .full [])) : v = .slice none 0 0 := by
 cases v <;> first | (simp [avOf, avOf1] at h; done) | skip
 case pointer a => cases a <;> simp [avOf, avOf1] at h
 case map a => cases a <;> simp [avOf, avOf1] at h
 case slice a n k =>
  cases a with
  | some a => simp [avOf, avOf1] at h
  | none =>
   match n, k, h with
   | 0, 0, _ => rfl
   | 0, k + 1, h => simp [avOf, avOf1] at h
   | n + 1, k, h => simp [avOf, avOf1] at h
theorem opd_nilS {y : Operand} (h : opd y = some (.c (.sl .full []))) : y = .const (.slice none 0 0) := by
 cases y with
 | tmp t => cases h
 | const v =>
  simp only [opd] at h
  cases hv : avOf v with
  | none => rw [hv] at h; cases h
  | some x =>
   rw [hv] at h; have hx : x = .sl .full [] := by simpa using h
   subst hx
   rw [avOf_nilS hv]
 | func f => cases h
 | global g => cases h
theorem nilS_sound {s : St} {o : Oper} {neg : Bool} {t u e : Nat} {x y : Operand} (ho : o.op = .binOp (match neg with | true => .neq | false => .eql) t x y u) {rx : Opd} (hx : opd x = some rx) (hy : y = .const (.slice none 0 0)) (ht : P.underlying t = some (.slice e)) {K : St -> Prop} {oc : Cap} {l : List AV} (hxe : s.ev rx = .sl oc l)
  (h : (l ≠ [] -> K (s.put o.dst (.bool (negIf neg false)))) ∧ (l = [] -> ∀ b, K (s.put o.dst (.bool (negIf neg b))))) : OpS P o s K := by
 have hd : ∀ c, o.op ≠ .defer c := fun c e => by rw [ho] at e; cases e
 refine OpS.ex (ι := Bool) (fun b => l ≠ [] -> b = false) (fun b => .bool (negIf neg b)) (fun _ => s) hd (fun b hb => ?_) fun E G a w hs => ?_
 ·by_cases hl : l = []
  ·exact h.2 hl b
  ·rw [hb hl]; exact h.1 hl
 ·have hxv := hs.ev hx; rw [hxe] at hxv; obtain ⟨ad, k, B, off, sz, h1, _, _, _, _, h2, _⟩ := hxv.inv_sl; refine ⟨ad.isNone, .bool (negIf neg ad.isNone), G, w, fun hl => by rw [h2 hl]; rfl, ?_, hs, .flat (.bool _)⟩
  subst hy; have h1' : a.eval x = .slice ad l.length k := h1; rw [exec_binOp P _ o ho w (by rw [h1']; simp) (by rw [h1']; simp), h1']
  cases neg with
  | false =>
   have h3 := Lib.run_eql_slice_nil (P := P) w t e ad l.length k 0 0 ht
   simp only [Act.eval, h3, Result.andThen_ok, negIf]
  | true =>
   have h3 := run_neq_slice_nil_any (P := P) w t e ad l.length k 0 0 ht; simp only [Act.eval, h3, Result.andThen_ok, negIf]
def entMK (zx : AV) (s : St) (m k : AV) (K : AV -> St -> Prop) : Prop :=
 match m, k with
 | .mpt b, .int .i64 n => match s.bs[b]? with
  | some (.mp l) => (mget l n = none ∧ mapOk zx = true) ∧ K (.tup [zx, .int .i64 l.length]) ⟨s.env, s.bs.set b (.mp (l ++ [(n, zx)])), s.lo⟩
  | _ => False
 | _, _ => False
theorem mput_new : ∀ {l : List (Int × AV)} {n : Int}, mget l n = none -> ∀ y, mput l n y = l ++ [(n, y)]
 | [], _, _, _ => rfl
 | (k, x) :: l, n, h, y => by
  simp only [mget] at h; split at h
  ·cases h
  ·rename_i hk; simp only [mput, if_neg hk, mput_new h y, List.cons_append]
theorem entM_sound {s : St} {o : Oper} {t : TypeId} {m k : Operand} (ho : o.op = .mapEntry t m k) {rm rk : Opd} (hm : opd m = some rm) (hk : opd k = some rk) {kt et : TypeId} {ik : IntKind} (ht : P.underlying t = some (.map kt et)) (hkt : P.underlying kt = some (.int ik))
  {i : TypeInfo} {zv : Value} {z : AV} (hi : P.info? et = some i) (hz : i.zero = some zv) (hzx : avOf zv = some z) {K : St -> Prop} (h : entMK z s (s.ev rm) (s.ev rk) fun r s' => K (s'.put o.dst r)) : OpS P o s K := by
 have hd : ∀ c, o.op ≠ .defer c := fun c e => by rw [ho] at e; cases e
 unfold entMK at h; split at h
 ·rename_i b n hme hke; split at h
  ·rename_i l hb; obtain ⟨⟨hn, hok⟩, hK⟩ := h; refine OpS.ex (ι := Unit) (fun _ => True) (fun _ => .tup [z, .int .i64 l.length]) (fun _ => ⟨s.env, s.bs.set b (.mp (l ++ [(n, z)])), s.lo⟩) hd (fun _ _ => hK) fun E G a w hs => ?_; have hmv := hs.ev hm; rw [hme] at hmv; have hkv := hs.ev hk; rw [hke] at hkv; obtain ⟨h1, _, _⟩ := hs.mapAt hb; have e1 := hmv.inv_mpt.1; have e2 := hkv.inv_int
   have hq : mfind l n 0 = none := by
    have := mfind_get l n 0; rw [hn] at this; exact this
   have hf := run_findKeyI hkt n l w; rw [hq] at hf; have hzv : zv = vOf z := mapOk_val hok (RV.flat (M := G.M) (σ := G.σ) (n := 0) (avOf_fv hzx)); obtain ⟨h2, h3⟩ := mput_none n z l 0 0 hq; rw [mput_new hn] at h2 h3
   have he : (mapEs l).push { key := .int .i64 n, val := zv, born := l.length } = mapEs (l ++ [(n, z)]) := by
    simp only [mapEs, h2, Nat.zero_add, hzv]; simp
   have hzr : ∀ w : World, (zeroValue et).run P w = .ok zv w := fun w => by simp [zeroValue, typeInfo, hi, hz]
   refine ⟨(), .tuple #[zv, .int .i64 l.length], _, _, trivial, ?_, hs.setMap hb (l ++ [(n, z)]), ?_⟩
   ·unfold execOp; simp only [ho, Instr.mapEntry, e1, e2, Sem.run_bind, run_underlying ht, Result.andThen_ok, run_getObj' h1 rfl, run_checkKeyI hkt, hf, hzr, run_setObjM h1, he, h3, Sem.run_pure, goInt]
   ·refine .tup _ [zv, .int .i64 l.length] rfl fun j hj u hu => ?_
    match j, hj with
    | 0, _ => simp at hu; subst hu; exact .flat (avOf_fv hzx)
    | 1, _ => simp at hu; subst hu; exact .flat (.int _ _)
  ·exact h.elim
 ·exact h.elim
def stoMK (s : St) (m j v : AV) (K : St -> Prop) : Prop :=
 match m, j with
 | .mpt b, .int .i64 j => match s.bs[b]? with
  | some (.mp l) => match l[j.toNat]? with
   | some (k, _) => (0 ≤ j ∧ mapOk v = true) ∧ K ⟨s.env, s.bs.set b (.mp (l.set j.toNat (k, v))), s.lo⟩
   | none => False
  | _ => False
 | _, _ => False
theorem mapE_find : ∀ (l : List (Int × AV)) (i j : Nat), j < l.length -> (mapE i l).findIdx? (fun e => (e.born : Int) == ((i + j : Nat) : Int)) = some j
 | [], i, j, h => by cases h
 | (k, x) :: l, i, j, h => by
  simp only [mapE, List.findIdx?_cons]
  cases j with
  | zero => simp
  | succ j =>
   have h1 : ((i : Int) == ((i + (j + 1) : Nat) : Int)) = false := by
    rw [beq_eq_false_iff_ne]; omega
   have h2 := mapE_find l (i + 1) j (by simpa using h)
   rw [show i + 1 + j = i + (j + 1) by omega] at h2
   rw [h1]; simp only [Bool.false_eq_true, if_false, h2, Option.map_some]
theorem mapE_set (y : AV) : ∀ (l : List (Int × AV)) (i j : Nat) (k : Int) (x : AV), l[j]? = some (k, x) -> mapE i (l.set j (k, y)) = (mapE i l).modify j fun e => { e with val := vOf y }
 | [], i, j, k, x, h => by simp at h
 | (k0, x0) :: l, i, j, k, x, h => by
  cases j with
  | zero => simp at h; obtain ⟨rfl, rfl⟩ := h; simp [mapE]
  | succ j =>
   have := mapE_set y l (i + 1) j k x (by simpa using h)
   simp only [List.set_cons_succ, mapE, this, List.modify_succ_cons]
theorem stoM_sound {s : St} {o : Oper} {t : TypeId} {m j v : Operand} (ho : o.op = .entryStore t m j v) (hdn : o.dst = none) {rm rj rv : Opd} (hm : opd m = some rm) (hj : opd j = some rj) (hv : opd v = some rv) {K : St -> Prop}
  (h : stoMK s (s.ev rm) (s.ev rj) (s.ev rv) K) : OpS P o s K := by
 have hd : ∀ c, o.op ≠ .defer c := fun c e => by rw [ho] at e; cases e
 unfold stoMK at h; split at h
 ·rename_i b q hme hje; split at h
  ·rename_i l hb; split at h
   ·rename_i k x hl; obtain ⟨⟨h0, hok⟩, hK⟩ := h; obtain ⟨q, rfl⟩ : ∃ n : Nat, q = n := ⟨q.toNat, by omega⟩
    simp only [Int.toNat_natCast] at hl hK; refine OpS.skip _ hd hdn hK fun E G a w hs => ?_; have hmv := hs.ev hm; rw [hme] at hmv; have hjv := hs.ev hj; rw [hje] at hjv; have hvv := mapOk_val hok (hs.ev hv); obtain ⟨h1, _, _⟩ := hs.mapAt hb; refine ⟨G, _, ?_, hs.setMap hb _⟩; have e1 := hmv.inv_mpt.1; have e2 := hjv.inv_int; have hlt : q < l.length := (List.getElem?_eq_some_iff.1 hl).1; have hf := mapE_find l 0 q hlt; rw [Nat.zero_add] at hf
    have he : (mapEs l).modify q (fun e => { e with val := vOf (s.ev rv) }) = mapEs (l.set q (k, s.ev rv)) := by
     simp only [mapEs, mapE_set (s.ev rv) l 0 q k x hl]; apply Array.ext'; simp
    have hf2 : (mapEs l).findIdx? (fun e => (e.born : Int) == (q : Int)) = some q := by
     simp only [mapEs, List.findIdx?_toArray]; exact hf
    unfold execOp; simp only [ho, Instr.entryStore, e1, e2, hvv, Sem.run_bind, Result.andThen_ok, run_getObj' h1 rfl, asInt, asIntOf, Sem.run_pure, hf2, run_setObjM h1, he, List.length_set]
   ·exact h.elim
  ·exact h.elim
 ·exact h.elim
def skE : Nat -> List (List AV × AV) -> List MapEntry
 | _, [] => []
 | i, (k, x) :: l => { key := .agg (k.map vOf1).toArray, val := vOf x, born := i } :: skE (i + 1) l
theorem skE_snoc (k : List AV) (x : AV) : ∀ (l : List (List AV × AV)) (i : Nat), skE i (l ++ [(k, x)]) = skE i l ++ [{ key := .agg (k.map vOf1).toArray, val := vOf x, born := i + l.length }]
 | [], i => rfl
 | (k', x') :: l, i => by
  show _ :: skE (i + 1) (l ++ [(k, x)]) = _ :: (skE (i + 1) l ++ _); rw [skE_snoc k x l (i + 1), List.length_cons, show i + 1 + l.length = i + (l.length + 1) by omega]
def sfind (ks : List FK) (cs : List AV) : List (List AV × AV) -> Option (Option AV)
 | [] => some none
 | (k, x) :: l => match eqCs ks cs k with
  | some true => some (some x)
  | some false => sfind ks cs l
  | none => none
def skOk (ks : List FK) (cs : List AV) : Prop := mapOk (.agg cs) = true ∧ cs.length = ks.length
def slOk (l : List (List AV × AV)) : Prop := ∀ e ∈ l, mapOk (.agg e.1) = true ∧ mapOk e.2 = true
theorem flatF_len : ∀ (fs : List Field) (k : Nat) (ks : List FK), flatF P k fs = some ks -> ks.length = fs.length
 | [], k, ks, h => by simp only [flatF, Option.some.injEq] at h; subst h; rfl
 | f :: fs, k, ks, h => by
  simp only [flatF] at h; split at h
  ·rename_i h4; cases h; rw [List.length_cons, List.length_cons, flatF_len fs (k + 1) _ h4]
  ·cases h
theorem vOf1_at {cs : List AV} (h : mapOk (.agg cs) = true) : ∀ j (hj : j < cs.length) v, (cs.map vOf1).toArray[j]? = some v -> RV (fun _ _ => none) (fun _ => 0) 0 cs[j] v := by
 obtain ⟨us, hu, _, _, hr⟩ := (vOf_rv (M := fun _ _ => none) (σ := fun _ => 0) (n := 0) h).inv_agg; intro j hj v hv
 have e : (cs.map vOf1).toArray = us.toArray := by
  have := hu; simp only [vOf, Value.agg.injEq] at this; exact this
 rw [e] at hv; exact hr j hj v (by simpa using hv)
theorem run_eqS {t : TypeId} {ks : List FK} (hk : eqaOf P t = some ks) {cs ds : List AV} (ha : mapOk (.agg cs) = true) (hb : mapOk (.agg ds) = true) {b : Bool} (he : eqCs ks cs ds = some b) (w : World) :
  (Op.equal t (.agg (cs.map vOf1).toArray) (.agg (ds.map vOf1).toArray)).run P w = .ok b w := by
 unfold eqaOf at hk; split at hk
 ·rename_i fs ht; split at hk
  ·rename_i hst hg; have hfo : P.fieldsOf t = fs := by simp [Program.fieldsOf, ht]
   have := run_equalIn_struct (P := P) w 9999 t (cs.map vOf1).toArray (ds.map vOf1).toArray (by rw [hfo]; exact ht) hst
   unfold Op.equal; rw [show Op.maxDepth = 9999 + 1 from rfl, this, hfo]; exact eqFields_run (d := 9998) w fs.toList 0 ks cs ds b hk he (fun j hj v hv => vOf1_at ha j hj v (by simpa using hv)) (fun j hj v hv => vOf1_at hb j hj v (by simpa using hv)) (by simp) (by simp)
  ·cases hk
 ·cases hk
theorem run_checkFields (em : Bool) (d : Nat) (w : World) {xs : Array Value} : ∀ (fs : List Field) (k : Nat) (ks : List FK), flatF P k fs = some ks -> k + fs.length ≤ xs.size ->
  (forIn fs PUnit.unit fun f _ => (do
    if f.name ≠ "_" then Instr.checkKey em (d + 1) f.type (← part f.type xs f.offset)
    pure (ForInStep.yield PUnit.unit) : Sem (ForInStep PUnit))).run P w = .ok PUnit.unit w
 | [], k, ks, h, hl => by simp
 | f :: fs, k, ks, h, hl => by
  simp only [flatF] at h; split at h
  ·rename_i x xs' h1 h2 h3 h4; cases h; have h2 := Nat.eq_of_beq_eq_true h2; have hn : f.name ≠ "_" := by simpa using h1
   rw [List.length_cons] at hl; obtain ⟨u, hu⟩ : ∃ u, xs[k]? = some u := ⟨_, Array.getElem?_eq_getElem (by omega)⟩
   have hp : P.plainKey f.type = true := by
    unfold fkOf at h3; split at h3 <;> first | (rename_i hu; simp [Program.plainKey, hu]; done) | cases h3
   have p1 := run_part_plain (P := P) w hp (xs := xs) (off := f.offset) (v := u) (by rw [h2]; exact hu)
   have p2 : (Instr.checkKey em (d + 1) f.type u).run P w = .ok () w := by
    unfold Instr.checkKey; unfold fkOf at h3; split at h3 <;> first | (rename_i hu; simp only [Sem.run_bind, run_underlying hu, Result.andThen_ok]; cases u <;> rfl) | cases h3
   have ih := run_checkFields em d w (xs := xs) fs (k + 1) xs' h4 (by omega)
   simp only [List.forIn_cons, Sem.run_bind, hn, ne_eq, not_false_eq_true, if_true, Result.andThen_ok, p1, p2, Sem.run_pure]; simpa using ih
  ·cases h
theorem run_checkKeyS {t : TypeId} {ks : List FK} (hk : eqaOf P t = some ks) {cs : List AV} (ha : skOk ks cs) (em : Bool) (w : World) : (Instr.checkKey em 10000 t (.agg (cs.map vOf1).toArray)).run P w = .ok () w := by
 unfold eqaOf at hk; split at hk
 ·rename_i fs ht; split at hk
  ·show (Instr.checkKey em (9999 + 1) t _).run P w = .ok () w; unfold Instr.checkKey; simp only [Sem.run_bind, run_underlying ht, Result.andThen_ok]; rw [← Array.forIn_toList]; have := run_checkFields (P := P) em 9998 w (xs := (cs.map vOf1).toArray) fs.toList 0 ks hk (by rw [← flatF_len _ _ _ hk, ← ha.2]; simp)
   simp at this; simp [this]
  ·cases hk
 ·cases hk
theorem run_findAskS {t : TypeId} {ks : List FK} (hk : eqaOf P t = some ks) {cs : List AV} (ha : skOk ks cs) (w : World) : ∀ (l : List (List AV × AV)) (i j : Nat) (r : Option AV), slOk l -> sfind ks cs l = some r -> ∃ q, (Instr.findAsking t (.agg (cs.map vOf1).toArray) (skE i l) j).run P w = .ok q w ∧ q.map (·.2) = r.map vOf
 | [], i, j, r, _, h => by
  cases h
  exact ⟨none, by simp [skE, Instr.findAsking], rfl⟩
 | (k, x) :: l, i, j, r, hl, h => by
  have hkx := (hl _ (List.mem_cons_self ..)).1; simp only [sfind] at h; split at h
  ·rename_i he; cases h; refine ⟨some (j, vOf x), ?_, rfl⟩; simp only [skE, Instr.findAsking, Sem.run_bind, run_eqS hk ha.1 hkx he w, Result.andThen_ok, if_true, Sem.run_pure]
  ·rename_i he; obtain ⟨q, h1, h2⟩ := run_findAskS hk ha w l (i + 1) (j + 1) r (fun e he => hl e (List.mem_cons_of_mem _ he)) h; refine ⟨q, ?_, h2⟩; simp only [skE, Instr.findAsking, Sem.run_bind, run_eqS hk ha.1 hkx he w, Result.andThen_ok, Bool.false_eq_true, if_false, h1]
  ·cases h
theorem run_findKeyS {t : TypeId} {ks : List FK} (hk : eqaOf P t = some ks) {cs : List AV} (ha : skOk ks cs) (w : World) {l : List (List AV × AV)} {r : Option AV} (hl : slOk l) (h : sfind ks cs l = some r) : ∃ q, (Instr.findKey t (.agg (cs.map vOf1).toArray) (skE 0 l).toArray.toList).run P w = .ok q w ∧ q.map (·.2) = r.map vOf := by
 obtain ⟨q, h1, h2⟩ := run_findAskS (P := P) hk ha w l 0 0 r hl h; refine ⟨q, ?_, h2⟩
 rw [run_findKey_eq w (by
  unfold eqaOf at hk; split at hk
  ·rename_i fs ht; rw [ht]
  ·cases hk)]
 exact h1
def setSK (ks : List FK) (s : St) (m k v : AV) (K : St -> Prop) : Prop :=
 ∃ b cs l x, m = .mpt b ∧ k = .agg cs ∧ s.bs[b]? = some x ∧ x.lb? = some (mLB (skE 0 l) l.length) ∧ x.cs? = none ∧ skOk ks cs ∧ slOk l ∧ sfind ks cs l = some none ∧ mapOk v = true ∧ K ⟨s.env, s.bs.set b (.loop (mLB (skE 0 (l ++ [(cs, v)])) (l.length + 1))), s.lo⟩
def getSK (ks : List FK) (ok : Bool) (z : AV) (s : St) (m k : AV) (K : AV -> Prop) : Prop :=
 ∃ b cs l x r, m = .mpt b ∧ k = .agg cs ∧ s.bs[b]? = some x ∧ x.lb? = some (mLB (skE 0 l) l.length) ∧ skOk ks cs ∧ slOk l ∧ sfind ks cs l = some r ∧ (∀ y, r = some y -> K (okR ok y true)) ∧ (r = none -> K (okR ok z false))
theorem setS_sound {s : St} {o : Oper} {t : TypeId} {m k v : Operand} (ho : o.op = .mapUpdate t m k v) (hdn : o.dst = none) {rm rk rv : Opd} (hm : opd m = some rm) (hk : opd k = some rk) (hv : opd v = some rv) {kt et : TypeId} {ks : List FK} (ht : P.underlying t = some (.map kt et)) (hkt : eqaOf P kt = some ks) {K : St -> Prop}
  (h : setSK ks s (s.ev rm) (s.ev rk) (s.ev rv) K) : OpS P o s K := by
 have hd : ∀ c, o.op ≠ .defer c := fun c e => by rw [ho] at e; cases e
 obtain ⟨b, cs, l, x, hme, hke, hb, hx, hxc, hok, hl, hf, hvo, hK⟩ := h; refine OpS.skip _ hd hdn hK fun E G a w hs => ?_; have hmv := hs.ev hm; rw [hme] at hmv; have hkv := hs.ev hk; rw [hke] at hkv; have hkv := mapOk_val hok.1 hkv; have hvv := mapOk_val hvo (hs.ev hv); obtain ⟨h1, _, _⟩ := hs.mapAtG hb hx; refine ⟨G, _, ?_, hs.setMapG hb hx hxc rfl rfl⟩; have e1 := hmv.inv_mpt.1; obtain ⟨q, h2, h3⟩ := run_findKeyS (P := P) hkt hok w hl hf
 cases q with
 | some q => cases h3
 | none =>
  have he : (skE 0 l).toArray.push { key := .agg (cs.map vOf1).toArray, val := vOf (s.ev rv), born := l.length } = (skE 0 (l ++ [(cs, s.ev rv)])).toArray := by
   rw [skE_snoc, Nat.zero_add]; simp
  simp only [vOf] at hkv; unfold execOp; simp only [ho, Instr.mapUpdate, e1, hkv, hvv, Sem.run_bind, run_underlying ht, Result.andThen_ok, run_getObj' h1 rfl, run_checkKeyS hkt hok, h2, run_setObjM h1, he]; rfl
theorem getS_sound {s : St} {o : Oper} {t : TypeId} {m k : Operand} {ok : Bool} (ho : o.op = .lookup t m k ok) {rm rk : Opd} (hm : opd m = some rm) (hk : opd k = some rk) {kt et : TypeId} {ks : List FK} (ht : P.underlying t = some (.map kt et)) (hkt : eqaOf P kt = some ks)
  {i : TypeInfo} {zv : Value} {z : AV} (hi : P.info? et = some i) (hz : i.zero = some zv) (hzx : avOf zv = some z) {K : St -> Prop} (h : getSK ks ok z s (s.ev rm) (s.ev rk) fun r => K (s.put o.dst r)) : OpS P o s K := by
 have hd : ∀ c, o.op ≠ .defer c := fun c e => by rw [ho] at e; cases e
 have tup : ∀ (M : Hp) (σ : Nat -> Nat) (nb : Nat) (x : AV) (v : Value) (b : Bool), RV M σ nb x v -> RV M σ nb (.tup [x, .bool b]) (.tuple #[v, .bool b]) := fun M σ nb x v b hx => by
  refine .tup _ [v, .bool b] rfl fun j hj u hu => ?_
  match j, hj with
  | 0, _ => simp at hu; subst hu; exact hx
  | 1, _ => simp at hu; subst hu; exact .flat (.bool b)
 have fin : ∀ (x : AV) (b : Bool), (∃ v : Value, (∀ (M : Hp) (σ : Nat -> Nat) (nb : Nat), RV M σ nb x v) ∧ ∀ E G a w, RS E G s a w -> (Instr.lookup t (a.eval m) (a.eval k) ok).run P w = .ok (if ok then .tuple #[v, .bool b] else v) w) -> K (s.put o.dst (okR ok x b)) -> OpS P o s K := fun x b ⟨v, hv, hrun⟩ hK => by
  cases ok with
  | true =>
   refine OpS.pure _ hd hK fun E G a w hs => ⟨_, ?_, tup _ _ _ _ _ _ (hv _ _ _)⟩; unfold execOp; simp only [ho, hrun E G a w hs, Sem.run_bind, Result.andThen_ok, if_true]
   rfl
  | false =>
   refine OpS.pure _ hd hK fun E G a w hs => ⟨v, ?_, hv _ _ _⟩; unfold execOp; simp only [ho, hrun E G a w hs, Sem.run_bind, Result.andThen_ok]; rfl
 have hzv : ∀ (M : Hp) (σ : Nat -> Nat) (nb : Nat), RV M σ nb z zv := fun M σ nb => .flat (avOf_fv hzx); have hzr : ∀ w : World, (zeroValue et).run P w = .ok zv w := fun w => by simp [zeroValue, typeInfo, hi, hz]
 obtain ⟨b, cs, l, x, r, hme, hke, hb, hx, hok, hl, hf, hK1, hK2⟩ := h
 have hrun : ∀ E G a w, RS E G s a w -> a.eval m = .map (some (G.σ b)) ∧ a.eval k = .agg (cs.map vOf1).toArray ∧ w.heap[G.σ b]? = some (.map (skE 0 l).toArray l.length) := fun E G a w hs => by
  have hmv := hs.ev hm; rw [hme] at hmv; have hkv := hs.ev hk; rw [hke] at hkv; exact ⟨hmv.inv_mpt.1, mapOk_val hok.1 hkv, (hs.mapAtG hb hx).1⟩
 have hyo : ∀ y, r = some y -> mapOk y = true := fun y hy => by
  subst hy; clear hK1 hK2 hrun hx
  induction l with
  | nil => cases hf
  | cons e l ih =>
   obtain ⟨k', x'⟩ := e; simp only [sfind] at hf; split at hf
   ·cases hf; exact (hl _ (List.mem_cons_self ..)).2
   ·exact ih (fun e he => hl e (List.mem_cons_of_mem _ he)) hf
   ·cases hf
 cases r with
 | some y =>
  refine fin y true ⟨vOf y, fun M σ nb => vOf_rv (hyo y rfl), fun E G a w hs => ?_⟩ (hK1 y rfl); obtain ⟨e1, e2, e3⟩ := hrun E G a w hs; obtain ⟨q, h2, h3⟩ := run_findKeyS (P := P) hkt hok w hl hf
  cases q with
  | none => cases h3
  | some q =>
   obtain ⟨i', u⟩ := q; simp only [Option.map_some, Option.some.injEq] at h3; subst h3
   simp only [Instr.lookup, e1, e2, Sem.run_bind, run_underlying ht, Result.andThen_ok, run_getObj' e3 rfl, Sem.run_pure, run_checkKeyS hkt hok, h2]
 | none =>
  refine fin z false ⟨zv, hzv, fun E G a w hs => ?_⟩ (hK2 rfl); obtain ⟨e1, e2, e3⟩ := hrun E G a w hs; obtain ⟨q, h2, h3⟩ := run_findKeyS (P := P) hkt hok w hl hf
  cases q with
  | some q => cases h3
  | none => simp only [Instr.lookup, e1, e2, Sem.run_bind, run_underlying ht, Result.andThen_ok, run_getObj' e3 rfl, Sem.run_pure, run_checkKeyS hkt hok, h2, hzr]
structure TR where
 key : ByteArray
 ids : List Int
 born : Nat
 B : Nat
 junk : List Value
 T : TypeId
namespace TR
def cap (r : TR) : Nat := r.ids.length + r.junk.length
def vals (r : TR) : List Value := r.ids.map (Value.int .i64) ++ r.junk
def val (r : TR) : Value := .slice (some ⟨r.B, 0, none⟩) r.ids.length r.cap
def lit (r : TR) : AV := .lit (some ⟨r.B, 0, none⟩) r.ids.length r.cap
def ent (r : TR) : MapEntry := { key := .string r.key, val := r.val, born := r.born }
def row (r : TR) : Nat × Nat × Obj := (r.B, r.B, .cells r.vals.toArray r.T (0, 0))
end TR
structure TbOk (x : TB) (l : List TR) : Prop where
 es : x.es = l.map TR.ent
 rows : ∀ r ∈ l, r.row ∈ x.rows
 jB : ∀ q ∈ x.rows, q.1 = q.2.1
 nodK : (l.map TR.key).Nodup
 nodB : (l.map TR.B).Nodup
 cap : ∀ r ∈ l, r.cap ≤ 9223372036854775807
structure TbOut (x : TB) (l : List TR) (r : TR) : Prop where
 es : x.es = l.map TR.ent
 rows : ∀ q ∈ l, q.key ≠ r.key -> q.row ∈ x.rows
 row : r.row ∈ x.rows
 jB : ∀ q ∈ x.rows, q.1 = q.2.1
 nodK : (l.map TR.key).Nodup
 nodB : (l.map TR.B).Nodup
 new : ∀ q ∈ l, q.key ≠ r.key -> q.B ≠ r.B
 cap : ∀ q ∈ l, q.cap ≤ 9223372036854775807
 cap1 : r.cap ≤ 9223372036854775807
def tbPut : List TR -> TR -> Nat -> List TR
 | [], r, c => [{ r with born := c }]
 | q :: l, r, c => if q.key = r.key then { r with born := q.born } :: l else q :: tbPut l r c
def tbDel (l : List TR) (k : ByteArray) : List TR := l.filter fun q => decide (q.key ≠ k)
theorem ba_self (k : ByteArray) : (k == k) = true := by
 rcases k with ⟨⟨l⟩⟩; show (Array.mk l == Array.mk l) = true; simp
theorem ba_ne {k q : ByteArray} (h : k ≠ q) : (k == q) = false := by
 rcases k with ⟨⟨l⟩⟩; rcases q with ⟨⟨m⟩⟩; show (Array.mk l == Array.mk m) = false; simpa using h
theorem eraseIdx_mapT {α β : Type} (f : α -> β) : ∀ (l : List α) (i : Nat), (l.map f).eraseIdx i = (l.eraseIdx i).map f
 | [], _ => rfl
 | _ :: _, 0 => rfl
 | x :: l, i + 1 => by simp only [List.map_cons, List.eraseIdx_cons_succ, eraseIdx_mapT f l i]
def tbFind (k : ByteArray) : List TR -> Nat -> Option (Nat × Value)
 | [], _ => none
 | q :: l, j => if q.key = k then some (j, q.val) else tbFind k l (j + 1)
theorem findNow_tb (k : ByteArray) : ∀ (l : List TR) (j : Nat), Instr.findNow .string (.string k) (l.map TR.ent) j = some (tbFind k l j)
 | [], j => rfl
 | q :: l, j => by
  simp only [List.map_cons, Instr.findNow, TR.ent, Instr.sameNow, tbFind]
  by_cases h : q.key = k
  ·rw [if_pos h, h, ba_self]
  ·rw [if_neg h, ba_ne (fun e => h e.symm)]; exact findNow_tb k l (j + 1)
theorem tbFind_some {k : ByteArray} : ∀ {l : List TR} {j i : Nat} {v : Value}, tbFind k l j = some (i, v) -> ∃ q, l[i - j]? = some q ∧ j ≤ i ∧ q.key = k ∧ v = q.val ∧ ∀ i' q', i' < i - j -> l[i']? = some q' -> q'.key ≠ k
 | [], j, i, v, h => by cases h
 | q :: l, j, i, v, h => by
  simp only [tbFind] at h; split at h
  ·rename_i hk; cases h; exact ⟨q, by simp, Nat.le_refl _, hk, rfl, fun i' q' h => by omega⟩
  ·rename_i hk; obtain ⟨q1, h1, h2, h3, h4, h5⟩ := tbFind_some h; refine ⟨q1, by rw [show i - j = (i - (j + 1)) + 1 by omega]; simpa using h1, by omega, h3, h4, fun i' q' h6 h7 => ?_⟩
   cases i' with
   | zero => simp at h7; subst h7; exact hk
   | succ i' => exact h5 i' q' (by omega) (by simpa using h7)
theorem tbFind_none {k : ByteArray} : ∀ {l : List TR} {j : Nat}, tbFind k l j = none -> ∀ q ∈ l, q.key ≠ k
 | [], _, _, q, hq => by cases hq
 | q :: l, j, h, q', hq' => by
  simp only [tbFind] at h; split at h
  ·cases h
  ·rename_i hk; rcases List.mem_cons.1 hq' with rfl | hq'
   ·exact hk
   ·exact tbFind_none h q' hq'
theorem tbPut_none : ∀ {l : List TR} {r : TR} {c : Nat}, (∀ q ∈ l, q.key ≠ r.key) -> tbPut l r c = l ++ [{ r with born := c }]
 | [], _, _, _ => rfl
 | q :: l, r, c, h => by
  rw [tbPut, if_neg (h q (List.mem_cons_self ..)), tbPut_none fun q' hq' => h q' (List.mem_cons_of_mem _ hq')]; rfl
theorem tbPut_some : ∀ {l : List TR} {r q : TR} {c i : Nat}, l[i]? = some q -> q.key = r.key -> (∀ i' q', i' < i -> l[i']? = some q' -> q'.key ≠ r.key) -> tbPut l r c = l.set i { r with born := q.born }
 | [], _, _, _, _, h, _, _ => by simp at h
 | p :: l, r, q, c, 0, h, hk, _ => by
  simp at h; subst h
  rw [tbPut, if_pos hk]; rfl
 | p :: l, r, q, c, i + 1, h, hk, hn => by
  rw [tbPut, if_neg (hn 0 p (by omega) rfl), tbPut_some (by simpa using h) hk fun i' q' h1 h2 => hn (i' + 1) q' (by omega) (by simpa using h2)]
  rfl
theorem tbPut_mem {l : List TR} {r q : TR} {c : Nat} (h : q ∈ tbPut l r c) (hn : (l.map TR.key).Nodup) : (q ∈ l ∧ q.key ≠ r.key) ∨ (∃ n, q = { r with born := n }) := by
 induction l with
 | nil => simp [tbPut] at h; exact .inr ⟨c, h⟩
 | cons p l ih =>
  rw [List.map_cons, List.nodup_cons] at hn; rw [tbPut] at h; split at h
  ·rename_i hk; rcases List.mem_cons.1 h with h | h
   ·exact .inr ⟨_, h⟩
   ·refine .inl ⟨List.mem_cons_of_mem _ h, fun e => hn.1 ?_⟩; rw [hk, ← e]; exact List.mem_map_of_mem h
  ·rename_i hk; rcases List.mem_cons.1 h with h | h
   ·subst h; exact .inl ⟨List.mem_cons_self .., hk⟩
   ·rcases ih h hn.2 with h | h
    ·exact .inl ⟨List.mem_cons_of_mem _ h.1, h.2⟩
    ·exact .inr h
theorem tbPut_nodK {l : List TR} {r : TR} {c : Nat} (hn : (l.map TR.key).Nodup) : ((tbPut l r c).map TR.key).Nodup := by
 induction l with
 | nil => simp [tbPut]
 | cons p l ih =>
  have hn' := hn; rw [List.map_cons, List.nodup_cons] at hn; rw [tbPut]; split
  ·rename_i hk; rw [List.map_cons]; show (r.key :: _).Nodup; rw [← hk]; exact hn'
  ·rename_i hk; rw [List.map_cons, List.nodup_cons]; refine ⟨fun h => ?_, ih hn.2⟩; obtain ⟨q, h1, h2⟩ := List.mem_map.1 h; rcases tbPut_mem h1 hn.2 with h3 | ⟨n, rfl⟩
   ·exact hn.1 (by rw [← h2]; exact List.mem_map_of_mem h3.1)
   ·exact hk h2.symm
theorem tbPut_nodB {l : List TR} {r : TR} {c : Nat} (hnk : (l.map TR.key).Nodup) (hn : (l.map TR.B).Nodup) (hr : ∀ q ∈ l, q.key ≠ r.key -> q.B ≠ r.B) : ((tbPut l r c).map TR.B).Nodup := by
 induction l with
 | nil => simp [tbPut]
 | cons p l ih =>
  rw [List.map_cons, List.nodup_cons] at hn hnk; rw [tbPut]; split
  ·rename_i hk; rw [List.map_cons, List.nodup_cons]; refine ⟨fun h => ?_, hn.2⟩; obtain ⟨q, h1, h2⟩ := List.mem_map.1 h; exact hr q (List.mem_cons_of_mem _ h1) (fun e => hnk.1 (by rw [hk, ← e]; exact List.mem_map_of_mem h1)) h2
  ·rename_i hk; rw [List.map_cons, List.nodup_cons]; refine ⟨fun h => ?_, ih hnk.2 hn.2 fun q hq => hr q (List.mem_cons_of_mem _ hq)⟩; obtain ⟨q, h1, h2⟩ := List.mem_map.1 h; rcases tbPut_mem h1 hnk.2 with h3 | ⟨n, rfl⟩
   ·exact hn.1 (by rw [← h2]; exact List.mem_map_of_mem h3.1)
   ·exact hr p (List.mem_cons_self ..) hk h2.symm
theorem TbOut.put {x : TB} {l : List TR} {r : TR} (h : TbOut x l r) {es' : List MapEntry} {c' : Nat} (he : es' = (tbPut l r x.c).map TR.ent) : TbOk ⟨es', c', x.rows⟩ (tbPut l r x.c) := by
 refine ⟨he, fun q hq => ?_, h.jB, tbPut_nodK h.nodK, tbPut_nodB h.nodK h.nodB h.new, fun q hq => ?_⟩
 ·rcases tbPut_mem hq h.nodK with h1 | ⟨n, rfl⟩
  ·exact h.rows q h1.1 h1.2
  ·exact h.row
 ·rcases tbPut_mem hq h.nodK with h1 | ⟨n, rfl⟩
  ·exact h.cap q h1.1
  ·exact h.cap1
theorem tbDel_map {α : Type} (f : TR -> α) (l : List TR) (k : ByteArray) : ((tbDel l k).map f).Sublist (l.map f) := (List.filter_sublist).map f
theorem TbOut.del {x : TB} {l : List TR} {r : TR} (h : TbOut x l r) : TbOk ⟨(tbDel l r.key).map TR.ent, x.c, x.rows⟩ (tbDel l r.key) := by
 refine ⟨rfl, fun q hq => ?_, h.jB, h.nodK.sublist (tbDel_map _ l _), h.nodB.sublist (tbDel_map _ l _), fun q hq => h.cap q (List.mem_filter.1 hq).1⟩; obtain ⟨h1, h2⟩ := List.mem_filter.1 hq; exact h.rows q h1 (by simpa using h2)
theorem tbDel_none {l : List TR} {k : ByteArray} (h : ∀ q ∈ l, q.key ≠ k) : tbDel l k = l := List.filter_eq_self.2 fun q hq => by simpa using h q hq
theorem tbDel_some : ∀ {l : List TR} {k : ByteArray} {q : TR} {i : Nat}, l[i]? = some q -> q.key = k -> (l.map TR.key).Nodup -> tbDel l k = l.eraseIdx i
 | [], _, _, _, h, _, _ => by simp at h
 | p :: l, k, q, 0, h, hk, hn => by
  simp at h; subst h; rw [List.map_cons, List.nodup_cons] at hn; rw [tbDel, List.filter_cons_of_neg (by simpa using hk)]
  exact tbDel_none fun q' hq' e => hn.1 (by rw [hk, ← e]; exact List.mem_map_of_mem hq')
 | p :: l, k, q, i + 1, h, hk, hn => by
  rw [List.map_cons, List.nodup_cons] at hn; have h' : l[i]? = some q := by simpa using h
  have : p.key ≠ k := fun e => hn.1 (by rw [e, ← hk]; exact List.mem_map_of_mem (List.mem_of_getElem? h'))
  rw [tbDel, List.filter_cons_of_pos (by simpa using this)]
  show p :: tbDel l k = _; rw [tbDel_some h' hk hn.2]; rfl
section
variable {E : Entry} {G : Gh} {s : St} {a : Act} {w : World} {P : Program}
theorem RS.tabAt (h : RS E G s a w) {b : Nat} {x : TB} (hb : s.bs[b]? = some (.tab x)) : w.heap[G.σ b]? = some (.map x.es.toArray x.c) ∧ (∀ p, G.cl p ≠ some (G.σ b)) ∧ (E.FP (G.σ b) ∨ E.w.heap.size ≤ G.σ b) :=
 h.sp.ob (G.σ b) _ (.inl ⟨b, x.lb, by simp [boxLoop, hb, Box.lb?], rfl, rfl⟩)
theorem RS.tabRow (h : RS E G s a w) {b : Nat} {x : TB} (hb : s.bs[b]? = some (.tab x)) {j B : Nat} {o : Obj} (hj : (j, B, o) ∈ x.rows) : w.heap[B]? = some o ∧ G.cl (.bx b j) = some B ∧ ∀ k, G.M B k = none :=
 h.sp.rows b x.lb (by simp [boxLoop, hb, Box.lb?]) j B o hj
theorem RS.setTab (h : RS E G s a w) {b : Nat} {x : TB} (x' : TB) (hb : s.bs[b]? = some (.tab x)) (hr : ∀ q ∈ x'.rows, q ∈ x.rows) : RS E G ⟨s.env, s.bs.set b (.tab x'), s.lo⟩ a (w.putObj (G.σ b) (.map x'.es.toArray x'.c)) := by
 obtain ⟨h1, h2, h3⟩ := h.tabAt hb; have hlb : boxLoop s.bs b = some x.lb := by simp [boxLoop, hb, Box.lb?]
 have hlt : G.σ b < w.heap.size := (Array.getElem?_eq_some_iff.1 h1).1; refine h.turn (.map x'.es.toArray x'.c) h1 rfl h3 (by simp) (boxCells_mo hb rfl rfl) ⟨fun B o hs => ?_, fun c z hc => ?_, fun c c' z z' hc hc' e => ?_, h.sp.ds, fun c z hc j B o hj => ?_⟩
 ·rcases hs with ⟨c, z, hc, e, ho⟩ | ⟨hm, ho⟩
  ·rw [boxLoop_mo hb rfl] at hc; split at hc
   ·rename_i ec; cases hc; subst ec e ho; exact ⟨World.putObj_heap_same hlt, h2, h3⟩
   ·rename_i ec; obtain ⟨h4, h5, h6⟩ := h.sp.ob B o (.inl ⟨c, z, hc, e, ho⟩); have hne : B ≠ G.σ b := fun e2 => ec (h.sp.inj c b z _ hc hlb (e.trans e2)); exact ⟨by rw [World.putObj_heap_other hne]; exact h4, h5, h6⟩
  ·obtain ⟨h4, h5, h6⟩ := h.sp.ob B o (.inr ⟨hm, ho⟩)
   have hne : B ≠ G.σ b := fun e2 => by
    rw [e2, h1, ho] at h4; cases h4
   exact ⟨by rw [World.putObj_heap_other hne]; exact h4, h5, h6⟩
 ·rw [boxLoop_mo hb rfl] at hc; split at hc
  ·cases hc; exact ⟨(fun _ _ _ h => by cases h), Nat.zero_le _, fun c hc => absurd hc (Nat.not_lt_zero _)⟩
  ·exact h.sp.base c z hc
 ·rw [boxLoop_mo hb rfl] at hc hc'; split at hc
  ·rename_i ec; split at hc'
   ·rename_i ec'; rw [ec, ec']
   ·rename_i ec'; rw [ec] at e; exact absurd (h.sp.inj c' b z' _ hc' hlb e.symm) ec'
  ·rename_i ec; split at hc'
   ·rename_i ec'; rw [ec'] at e; exact absurd (h.sp.inj c b z _ hc hlb e) ec
   ·exact h.sp.inj c c' z z' hc hc' e
 ·have key : ∀ y, boxLoop s.bs c = some y -> (j, B, o) ∈ y.rs -> (w.putObj (G.σ b) (.map x'.es.toArray x'.c)).heap[B]? = some o ∧ G.cl (.bx c j) = some B ∧ ∀ k, G.M B k = none := fun y hy hjy => by
   obtain ⟨h4, h5, h6⟩ := h.sp.rows c y hy j B o hjy; have hne : B ≠ G.σ b := fun e2 => h2 _ (e2 ▸ h5); exact ⟨by rw [World.putObj_heap_other hne]; exact h4, h5, h6⟩
  rw [boxLoop_mo hb rfl] at hc; split at hc
  ·rename_i ec; cases hc; subst ec; exact key _ hlb (hr _ hj)
  ·exact key z hc hj
theorem run_checkKeyT {kt : TypeId} (hkt : P.underlying kt = some .string) (e : Bool) (k : ByteArray) (w : World) : (Instr.checkKey e 10000 kt (.string k)).run P w = .ok () w := by
 show (Instr.checkKey e (9999 + 1) kt (.string k)).run P w = .ok () w; unfold Instr.checkKey; simp only [Sem.run_bind, run_underlying hkt, Result.andThen_ok]; rfl
theorem run_findKeyT {kt : TypeId} (hkt : P.underlying kt = some .string) (k : ByteArray) (l : List TR) (w : World) : (Instr.findKey kt (.string k) (l.map TR.ent).toArray.toList).run P w = .ok (tbFind k l 0) w := by
 simp only [Instr.findKey, Sem.run_bind, run_underlying hkt, Result.andThen_ok, findNow_tb]; rfl
inductive TbE where
 | get
 | put
 | del
 | clr
deriving Inhabited
def tbK (e : TbE) (vals : List AV) (s : St) (d : Option Nat) (K : St -> Prop) : Prop :=
 match e with
 | .get => ∃ b x l key, vals = [.mpt b, .str key] ∧ s.bs[b]? = some (.tab x) ∧ TbOk x l ∧ (∀ r ∈ l, r.key = key -> K (s.put d r.lit)) ∧ ((∀ r ∈ l, r.key ≠ key) -> K (s.put d (.sl .full [])))
 | .put => ∃ b x l r, vals = [.mpt b, .str r.key, r.lit] ∧ s.bs[b]? = some (.tab x) ∧ TbOut x l r ∧ ∀ x', TbOk x' (tbPut l r x.c) -> K ⟨s.env, s.bs.set b (.tab x'), s.lo⟩
 | .del => ∃ b x l r, vals = [.mpt b, .str r.key] ∧ s.bs[b]? = some (.tab x) ∧ TbOut x l r ∧ ∀ x', TbOk x' (tbDel l r.key) -> K ((⟨s.env, s.bs.set b (.tab x'), s.lo⟩ : St).put d (.tup []))
 | .clr => ∃ b x, vals = [.mpt b] ∧ s.bs[b]? = some (.tab x) ∧ (∀ q ∈ x.rows, q.1 = q.2.1) ∧ ∀ x', TbOk x' [] -> K ((⟨s.env, s.bs.set b (.tab x'), s.lo⟩ : St).put d (.tup []))
theorem tbK_mono {e : TbE} {vals : List AV} {s : St} {d : Option Nat} {K K' : St -> Prop} (hk : ∀ s, K s -> K' s) (h : tbK e vals s d K) : tbK e vals s d K' := by
 cases e with
 | get =>
  obtain ⟨b, x, l, key, h1, h2, h3, h4, h5⟩ := h
  exact ⟨b, x, l, key, h1, h2, h3, fun r hr hkr => hk _ (h4 r hr hkr), fun hn => hk _ (h5 hn)⟩
 | put =>
  obtain ⟨b, x, l, r, h1, h2, h3, h4⟩ := h
  exact ⟨b, x, l, r, h1, h2, h3, fun x' hx' => hk _ (h4 x' hx')⟩
 | del =>
  obtain ⟨b, x, l, r, h1, h2, h3, h4⟩ := h
  exact ⟨b, x, l, r, h1, h2, h3, fun x' hx' => hk _ (h4 x' hx')⟩
 | clr =>
  obtain ⟨b, x, h1, h2, h3, h4⟩ := h; exact ⟨b, x, h1, h2, h3, fun x' hx' => hk _ (h4 x' hx')⟩
theorem tabGet_sound {s : St} {o : Oper} {t : TypeId} {m k : Operand} (ho : o.op = .lookup t m k false) {rm rk : Opd} (hm : opd m = some rm) (hk : opd k = some rk) {kt et : TypeId} (ht : P.underlying t = some (.map kt et)) (hkt : P.underlying kt = some .string)
  {i : TypeInfo} {zv : Value} (hi : P.info? et = some i) (hz : i.zero = some zv) (hzx : avOf zv = some (.sl .full [])) {K : St -> Prop} (h : tbK .get [s.ev rm, s.ev rk] s o.dst K) : OpS P o s K := by
 have hd : ∀ c, o.op ≠ .defer c := fun c e => by rw [ho] at e; cases e
 obtain ⟨b, x, l, key, he, hb, hx, hK1, hK2⟩ := h; simp only [List.cons.injEq, and_true] at he; obtain ⟨hme, hke⟩ := he; have hzr : ∀ w : World, (zeroValue et).run P w = .ok zv w := fun w => by simp [zeroValue, typeInfo, hi, hz]
 have hrun : ∀ E G a w, RS E G s a w -> a.eval m = .map (some (G.σ b)) ∧ a.eval k = .string key ∧ w.heap[G.σ b]? = some (.map (l.map TR.ent).toArray x.c) := fun E G a w hs => by
  have hmv := hs.ev hm; rw [hme] at hmv; have hkv := hs.ev hk; rw [hke] at hkv; exact ⟨hmv.inv_mpt.1, hkv.inv_str.1, by rw [← hx.es]; exact (hs.tabAt hb).1⟩
 cases hf : tbFind key l 0 with
 | some q =>
  obtain ⟨j, v⟩ := q; obtain ⟨r, h1, _, h3, rfl, _⟩ := tbFind_some hf; refine OpS.pure _ hd (hK1 r (List.mem_of_getElem? h1) h3) fun E G a w hs => ⟨r.val, ?_, .flat (.lit _ _ _)⟩; obtain ⟨e1, e2, e3⟩ := hrun E G a w hs; unfold execOp
  simp [ho, Instr.lookup, e1, e2, run_underlying ht, run_getObj' e3 rfl, run_checkKeyT hkt, run_findKeyT hkt, hf]
 | none =>
  refine OpS.pure _ hd (hK2 (tbFind_none hf)) fun E G a w hs => ⟨zv, ?_, .flat (avOf_fv hzx)⟩; obtain ⟨e1, e2, e3⟩ := hrun E G a w hs; unfold execOp; simp [ho, Instr.lookup, e1, e2, run_underlying ht, run_getObj' e3 rfl, run_checkKeyT hkt, run_findKeyT hkt, hf, hzr]
theorem tabPut_sound {s : St} {o : Oper} {t : TypeId} {m k v : Operand} (ho : o.op = .mapUpdate t m k v) (hdn : o.dst = none) {rm rk rv : Opd} (hm : opd m = some rm) (hk : opd k = some rk) (hv : opd v = some rv) {kt et : TypeId} (ht : P.underlying t = some (.map kt et)) (hkt : P.underlying kt = some .string) {K : St -> Prop}
  (h : tbK .put [s.ev rm, s.ev rk, s.ev rv] s o.dst K) : OpS P o s K := by
 have hd : ∀ c, o.op ≠ .defer c := fun c e => by rw [ho] at e; cases e
 obtain ⟨b, x, l, r, he, hb, hx, hK⟩ := h; simp only [List.cons.injEq, and_true] at he; obtain ⟨hme, hke, hve⟩ := he; have hlen : l.length = (l.map TR.ent).toArray.size := by simp
 cases hf : tbFind r.key l 0 with
 | none =>
  have hn := tbFind_none hf
  have hes : (l.map TR.ent).toArray.push { key := .string r.key, val := r.val, born := x.c } = ((tbPut l r x.c).map TR.ent).toArray := by
   rw [tbPut_none hn]; simp [TR.ent, TR.val, TR.cap]
  refine OpS.skip _ hd hdn (hK ⟨(tbPut l r x.c).map TR.ent, x.c + 1, x.rows⟩ (hx.put rfl)) fun E G a w hs => ⟨G, _, ?_, hs.setTab _ hb fun q hq => hq⟩; have hmv := hs.ev hm; rw [hme] at hmv; have e1 := hmv.inv_mpt.1; have hkv := hs.ev hk; rw [hke] at hkv; have e2 := hkv.inv_str.1; have hvv := hs.ev hv; rw [hve] at hvv; have e3 : a.eval v = r.val := hvv.inv_lit; have h1 := (hs.tabAt hb).1; rw [hx.es] at h1; unfold execOp; simp only [ho, Instr.mapUpdate, e1, e2, e3, Sem.run_bind, run_underlying ht, Result.andThen_ok, run_getObj' h1 rfl, run_checkKeyT hkt, run_findKeyT hkt, hf, run_setObjM h1, hes]
  rfl
 | some q =>
  obtain ⟨j, v'⟩ := q; obtain ⟨q, h1, _, h3, rfl, h5⟩ := tbFind_some hf; rw [Nat.sub_zero] at h1 h5
  have hjl : j < l.length := by
   rcases Nat.lt_or_ge j l.length with h | h
   ·exact h
   ·rw [List.getElem?_eq_none h] at h1; cases h1
  have hkey : ((((l.map TR.ent).toArray[j]?).map (·.key)).getD (.string r.key)) = .string r.key := by
   simp [h1, TR.ent, h3]
  have hes : (l.map TR.ent).toArray.modify j (fun e => { e with key := .string r.key, val := r.val }) = ((tbPut l r x.c).map TR.ent).toArray := by
   rw [tbPut_some h1 h3 h5]; apply Array.ext
   ·simp
   ·intro i hi1 hi2; simp only [Array.getElem_modify, List.getElem_toArray, List.getElem_map, List.getElem_set]; split
    ·rename_i e; subst e; have := (List.getElem?_eq_some_iff.1 h1).2; rw [this]; rfl
    ·rfl
  have hstay : ∀ w' : World, (Instr.keyThatStays (.string r.key) (.string r.key)).run P w' = .ok (.string r.key) w' := fun w' => by
   simp [Instr.keyThatStays, Instr.sameBits, ba_self]
  refine OpS.skip _ hd hdn (hK ⟨(tbPut l r x.c).map TR.ent, x.c, x.rows⟩ (hx.put rfl)) fun E G a w hs => ⟨G, _, ?_, hs.setTab _ hb fun q hq => hq⟩; have hmv := hs.ev hm; rw [hme] at hmv; have e1 := hmv.inv_mpt.1; have hkv := hs.ev hk; rw [hke] at hkv; have e2 := hkv.inv_str.1; have hvv := hs.ev hv; rw [hve] at hvv; have e3 : a.eval v = r.val := hvv.inv_lit; have h1 := (hs.tabAt hb).1; rw [hx.es] at h1; unfold execOp; simp only [ho, Instr.mapUpdate, e1, e2, e3, Sem.run_bind, run_underlying ht, Result.andThen_ok, run_getObj' h1 rfl, run_checkKeyT hkt, run_findKeyT hkt, hf, hkey, hstay, run_setObjM h1, hes]; rfl
end
section
variable {P : Program}
theorem tabDel_sound {s : St} {o : Oper} {t u : TypeId} {m k : Operand} (ho : o.op = .call { callee := .builtin .delete, args := #[m, k], argTypes := #[t, u] }) {rm rk : Opd} (hm : opd m = some rm) (hk : opd k = some rk) {kt et : TypeId} (ht : P.underlying t = some (.map kt et)) (hkt : P.underlying kt = some .string) {K : St -> Prop}
  (h : tbK .del [s.ev rm, s.ev rk] s o.dst K) : OpS P o s K := by
 have hd : ∀ c, o.op ≠ .defer c := fun c e => by rw [ho] at e; cases e
 obtain ⟨b, x, l, r, he, hb, hx, hK⟩ := h; simp only [List.cons.injEq, and_true] at he; obtain ⟨hme, hke⟩ := he; refine OpS.val _ _ hd (hK _ hx.del) fun E G a w hs => ?_; have hmv := hs.ev hm; rw [hme] at hmv; have e1 := hmv.inv_mpt.1; have hkv := hs.ev hk; rw [hke] at hkv; have e2 := hkv.inv_str.1; have h1 := (hs.tabAt hb).1; rw [hx.es] at h1; refine ⟨.tuple #[], G, _, ?_, hs.setTab ⟨(tbDel l r.key).map TR.ent, x.c, x.rows⟩ hb fun q hq => hq, .tup [] [] rfl fun j hj => by cases hj⟩
 cases hf : tbFind r.key l 0 with
 | none =>
  unfold execOp
  simp [ho, resolve, invoke, builtin, Builtin.delete_, e1, e2, run_underlying ht, run_getObj' h1 rfl, run_checkKeyT hkt, run_findKeyT hkt, hf, run_setObjM h1, tbDel_none (tbFind_none hf)]
 | some q =>
  obtain ⟨j, v'⟩ := q; obtain ⟨q, h2, _, h3, rfl, h5⟩ := tbFind_some hf; rw [Nat.sub_zero] at h2
  have hes : (l.map TR.ent).eraseIdx j = (tbDel l r.key).map TR.ent := by
   rw [tbDel_some h2 h3 hx.nodK, ← eraseIdx_mapT]
  unfold execOp; simp [ho, resolve, invoke, builtin, Builtin.delete_, e1, e2, run_underlying ht, run_getObj' h1 rfl, run_checkKeyT hkt, run_findKeyT hkt, hf, run_setObjM h1, hes]
theorem tabClr_sound {s : St} {o : Oper} {t : TypeId} {m : Operand} (ho : o.op = .call { callee := .builtin .clear, args := #[m], argTypes := #[t] }) {rm : Opd} (hm : opd m = some rm) {kt et : TypeId} (ht : P.underlying t = some (.map kt et)) {K : St -> Prop}
  (h : tbK .clr [s.ev rm] s o.dst K) : OpS P o s K := by
 have hd : ∀ c, o.op ≠ .defer c := fun c e => by rw [ho] at e; cases e
 obtain ⟨b, x, he, hb, hj, hK⟩ := h; simp only [List.cons.injEq, and_true] at he; refine OpS.val _ _ hd (hK ⟨[], x.c, []⟩ ⟨rfl, (fun _ h => by cases h), (fun _ h => by cases h), List.nodup_nil, List.nodup_nil, (fun _ h => by cases h)⟩) fun E G a w hs => ?_
 have hmv := hs.ev hm; rw [he] at hmv; have e1 := hmv.inv_mpt.1; have h1 := (hs.tabAt hb).1; refine ⟨.tuple #[], G, _, ?_, hs.setTab ⟨[], x.c, []⟩ hb (fun q hq => by cases hq), .tup [] [] rfl fun j hj => by cases hj⟩
 unfold execOp; simp [ho, resolve, invoke, builtin, Builtin.clear_, e1, run_underlying ht, run_getObj' h1 rfl, run_setObjM h1]
end
inductive Eff where
 | appB (z : Nat)
 | appZ (z : Nat)
 | slN
 | mkM
 | setM
 | getM (ok : Bool) (zx : AV)
 | mkB (z : Nat) (zx : AV)
 | nilS (neg : Bool)
 | entM (zx : AV)
 | stoM
 | bsR (z : Nat)
 | setS (ks : List FK)
 | getS (ks : List FK) (ok : Bool) (zx : AV)
 | tab (e : TbE)
deriving Inhabited
def mkMK (s : St) (d : Option Nat) (K : St -> Prop) : Prop := K (St.put ⟨s.env, s.bs ++ [.mp []], s.lo⟩ d (.mpt s.bs.length))
def slNK (x n : AV) (s : St) (d : Option Nat) (K : St -> Prop) : Prop :=
 match x, n with
 | .sl .full [], .int _ n => n = 0 ∧ K (s.put d (.sl .full []))
 | _, _ => False
def effK (e : Eff) (vals : List AV) (s : St) (d : Option Nat) (K : St -> Prop) : Prop :=
 match e, vals with
 | .appB z, [x, y] => appB z s x y fun r s' => K (s'.put d r)
 | .appZ z, [x, y] => appZ z s x y fun r s' => K (s'.put d r)
 | .slN, [x, n] => slNK x n s d K
 | .mkM, [] => mkMK s d K
 | .mkM, [.int _ _] => mkMK s d K
 | .setM, [m, k, v] => setMK s m k v K
 | .getM ok zx, [m, k] => getMK ok zx s m k fun r => K (s.put d r)
 | .mkB z zx, [l, c] => mkB z zx s l c fun r s' => K (s'.put d r)
 | .entM zx, [m, k] => entMK zx s m k fun r s' => K (s'.put d r)
 | .stoM, [m, j, v] => stoMK s m j v K
 | .bsR z, vals => bsRK z vals s fun r s' => K (s'.put d r)
 | .nilS neg, [.sl _ l] => (l ≠ [] -> K (s.put d (.bool (negIf neg false)))) ∧ (l = [] -> ∀ b, K (s.put d (.bool (negIf neg b))))
 | .setS ks, [m, k, v] => setSK ks s m k v K
 | .getS ks ok zx, [m, k] => getSK ks ok zx s m k fun r => K (s.put d r)
 | .tab e, vals => tbK e vals s d K
 | _, _ => False
theorem elsK_mono {z : Nat} {bs : List Box} {y : AV} {K K' : Nat -> List AV -> Prop} (hk : ∀ n ys, K n ys -> K' n ys) (h : elsK z bs y K) : elsK z bs y K' := by
 obtain ⟨n, ys, h1, h2⟩ := elsK_ex h; unfold elsK at h1 ⊢; split at h1
 ·obtain ⟨h3, rfl, rfl⟩ := h1; exact ⟨h3, hk _ _ h2⟩
 ·split at h1
  ·obtain ⟨h3, rfl, rfl⟩ := h1; exact ⟨h3, hk _ _ h2⟩
  ·exact h1.elim
 ·exact h1.elim
theorem srcK_mono {bs : List Box} {x : AV} {K K' : Nat -> Nat -> List AV -> Option Nat -> Prop} (hk : ∀ m k cs ob, K m k cs ob -> K' m k cs ob) (h : srcK bs x K) : srcK bs x K' := by
 unfold srcK at h ⊢; split at h
 ·exact hk _ _ _ _ h
 ·split at h
  ·exact hk _ _ _ _ h
  ·exact h
 ·exact h
theorem effK_mono {e : Eff} {vals : List AV} {s : St} {d : Option Nat} {K K' : St -> Prop} (hk : ∀ s, K s -> K' s) (h : effK e vals s d K) : effK e vals s d K' := by
 unfold effK at h ⊢; split at h
 ·exact srcK_mono (fun m k cs ob h => elsK_mono (fun n ys h => ⟨h.1, fun k' hk' => hk _ (h.2 k' hk')⟩) h) h
 ·unfold appZ at h ⊢; split at h
  ·exact srcK_mono (fun m k cs ob h => ⟨h.1, fun k' hk' => hk _ (h.2 k' hk')⟩) h
  ·exact h
 ·unfold slNK at h ⊢; split at h
  ·exact ⟨h.1, hk _ h.2⟩
  ·exact h
 ·exact hk _ h
 ·exact hk _ h
 ·unfold setMK at h ⊢; split at h
  ·split at h
   ·exact ⟨h.1, hk _ h.2⟩
   ·exact ⟨h.1, hk _ h.2⟩
   ·exact h
  ·exact h
 ·unfold getMK at h ⊢; split at h
  ·split at h
   ·split at h
    ·exact ⟨h.1, hk _ h.2⟩
    ·exact hk _ h
   ·split at h
    ·exact ⟨h.1, hk _ h.2⟩
    ·exact hk _ h
   ·exact h
  ·exact hk _ h
  ·exact h
 ·unfold mkB at h ⊢; split at h
  ·exact ⟨h.1, hk _ h.2⟩
  ·exact h
 ·unfold entMK at h ⊢; split at h
  ·split at h
   ·exact ⟨h.1, hk _ h.2⟩
   ·exact h
  ·exact h
 ·unfold stoMK at h ⊢; split at h
  ·split at h
   ·split at h
    ·exact ⟨h.1, hk _ h.2⟩
    ·exact h
   ·exact h
  ·exact h
 ·exact ⟨h.1, hk _ h.2⟩
 ·exact ⟨fun e => hk _ (h.1 e), fun e b => hk _ (h.2 e b)⟩
 ·obtain ⟨b, cs, l, x, h1, h2, h3, h4, h5, h6, h7, h8, h9, h⟩ := h; exact ⟨b, cs, l, x, h1, h2, h3, h4, h5, h6, h7, h8, h9, hk _ h⟩
 ·obtain ⟨b, cs, l, x, r, h1, h2, h3, h4, h5, h6, h7, h8, h9⟩ := h; exact ⟨b, cs, l, x, r, h1, h2, h3, h4, h5, h6, h7, fun y e => hk _ (h8 y e), fun e => hk _ (h9 e)⟩
 ·exact tbK_mono hk h
 ·exact h
end
end Go.AM
