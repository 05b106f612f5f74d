/-
  Texts of this claim joined (wip/gen/bundle.py), those declarations only that are needed: AmM AmN. By an AI agent.
-/
import Derived.Test.YtcjfkbdbcgmomaaGreatDoorBab
set_option linter.unusedSimpArgs false
set_option linter.unusedVariables false
namespace Go.AM
open Go.CK Go.RowKit
theorem addr_add (B off n : Nat) : (⟨B, off, none⟩ : Addr).add n = ⟨B, off + n, none⟩ := by
 unfold Addr.add; split <;> simp_all
def dAgg : TypeDesc -> Bool
 | .struct _ | .array _ _ => true
 | _ => false
def cellOk : AV -> Bool
 | .top | .tup _ => false
 | _ => true
section
variable {E : Entry} {G : Gh} {s : St} {a : Act} {w : World} {P : Program} {M : Hp} {σ : Nat -> Nat} {n : Nat}
theorem FV.one {x : AV} {v : Value} (h : FV M x v) (ht : cellOk x = true) (ha : x.isAgg = false) : v.oneCell' = true := by
 cases h <;> first | rfl | (simp [cellOk] at ht; done) | (simp [AV.isAgg] at ha; done)
theorem RV.one {x : AV} {v : Value} (h : RV M σ n x v) (ht : cellOk x = true) (ha : x.isAgg = false) : v.oneCell' = true := by
 cases h with
 | flat h => exact h.one ht ha
 | agg => simp [AV.isAgg] at ha
 | tup => simp [cellOk] at ht
 | _ => rfl
theorem FV.scalar {x : AV} {v : Value} (h : FV M x v) (ht : cellOk x = true) (ha : x.isAgg = false) : v.cells = #[v] := by
 cases h <;> first | rfl | (simp [cellOk] at ht; done) | (simp [AV.isAgg] at ha; done)
theorem RV.scalar {x : AV} {v : Value} (h : RV M σ n x v) (ht : cellOk x = true) (ha : x.isAgg = false) : v.cells = #[v] := by
 cases h with
 | flat h => exact h.scalar ht ha
 | agg => simp [AV.isAgg] at ha
 | tup => simp [cellOk] at ht
 | _ => rfl
theorem RV.cells {x : AV} {v : Value} (h : RV M σ n x v) (ht : cellOk x = true) :
  v.cells.toList.length = x.cells.length ∧ (∀ u ∈ v.cells.toList, u.oneCell' = true) ∧ ∀ j (hj : j < x.cells.length) u, v.cells.toList[j]? = some u -> RV M σ n (x.cells[j]) u := by
 cases hx : x.isAgg with
 | false =>
  have hc : x.cells = [x] := by cases x <;> first | rfl | (simp [AV.isAgg] at hx)
  rw [h.scalar ht hx]; have h1 := h.one ht hx; refine ⟨by rw [hc]; rfl, fun u hu => by simp at hu; rw [hu]; exact h1, fun j hj u hu => ?_⟩
  rw [hc] at hj; obtain rfl : j = 0 := by simpa using hj
  simp at hu; subst hu
  simp only [hc, List.getElem_cons_zero]; exact h
 | true =>
  cases x with
  | agg cs =>
   obtain ⟨vs, rfl, hl, h1, hv⟩ := h.inv_agg
   exact ⟨by simpa [Value.cells, AV.cells] using hl, by simpa [Value.cells] using h1, fun j hj u hu => hv j hj u (by simpa [Value.cells] using hu)⟩
  | _ => simp [AV.isAgg] at hx
def St.rd (s : St) : AV -> Option (List AV)
 | .ept cs => some cs
 | .ptr b off => match boxCells s.bs b with
  | some cs => some ((cs.drop off).map AV.deown)
  | none => none
 | .elp b i z off => match boxCells s.bs b with
  | some cs => some ((cs.drop (i * z + off)).map AV.deown)
  | none => none
 | _ => none
theorem RS.bval (h : RS E G s a w) {b : Nat} {cs : List AV} (hb : boxCells s.bs b = some cs) (j : Nat) (hj : j < cs.length) :
  ∃ u, w.cell? ⟨G.σ b, j, none⟩ = some u ∧ u.oneCell' = true ∧ RV G.M G.σ s.bs.length (cs[j]).deown u := by
 obtain ⟨vs, T, h1, h2⟩ := h.box b cs hb
 have hc : w.cell? ⟨G.σ b, j, none⟩ = some (vs[j]'(by omega)) := by
  simp only [World.cell?, h1]; simp [show j < vs.size by omega]
 have hat : s.at (.bx b j) = some cs[j] := by simp [St.at, hb, hj]
 have hv := h.val (.bx b j) _ hat; have h3 := h.one b j _ hat; simp only [valAt, hc, Option.getD_some] at hv h3; exact ⟨_, hc, h3, hv⟩
theorem RS.rd (h : RS E G s a w) {x : AV} {v : Value} (hx : RV G.M G.σ s.bs.length x v) {cs : List AV} (hr : s.rd x = some cs) :
  ∃ B off, v = .pointer (some ⟨B, off, none⟩) ∧ ∀ j (hj : j < cs.length), ∃ u, w.cell? ⟨B, off + j, none⟩ = some u ∧ u.oneCell' = true ∧ RV G.M G.σ s.bs.length cs[j] u := by
 cases x <;> first | (cases hr; done) | skip
 case ept ds =>
  cases hr; obtain ⟨B, off, rfl, hc⟩ := hx.inv_ept; refine ⟨B, off, rfl, fun j hj => ?_⟩; obtain ⟨u, h1, h2, h3⟩ := hc j hj; exact ⟨u, h.ok _ _ _ h1, h2, .flat h3⟩
 case ptr b off =>
  simp only [St.rd] at hr; obtain ⟨rfl, hb⟩ := hx.inv_ptr
  cases hbc : boxCells s.bs b with
  | none => rw [hbc] at hr; cases hr
  | some ds =>
   rw [hbc] at hr; cases hr; refine ⟨G.σ b, off, rfl, fun j hj => ?_⟩; simp only [List.length_map, List.length_drop] at hj; obtain ⟨u, h1, h2, h3⟩ := h.bval hbc (off + j) (by omega)
   refine ⟨u, h1, h2, ?_⟩; rw [List.getElem_map, List.getElem_drop]; exact h3
 case elp b i z o =>
  simp only [St.rd] at hr; obtain ⟨rfl, hb⟩ := hx.inv_elp
  cases hbc : boxCells s.bs b with
  | none => rw [hbc] at hr; cases hr
  | some ds =>
   rw [hbc] at hr; cases hr; refine ⟨G.σ b, i * z + o, rfl, fun j hj => ?_⟩; simp only [List.length_map, List.length_drop] at hj; obtain ⟨u, h1, h2, h3⟩ := h.bval hbc (i * z + o + j) (by omega)
   refine ⟨u, h1, h2, ?_⟩; rw [List.getElem_map, List.getElem_drop]; exact h3
def cellList (w : World) (B off n : Nat) : List Value := (List.range n).map fun j => (w.cell? ⟨B, off + j, none⟩).getD undef
theorem run_loadCells_there (P : Program) (w : World) (B off n : Nat) (h : ∀ j, j < n -> ∃ u, w.cell? ⟨B, off + j, none⟩ = some u) :
  (loadCells ⟨B, off, none⟩ n).run P w = .ok (cellList w B off n).toArray w := by
 have := run_loadCells_list (P := P) w ⟨B, off, none⟩ (cellList w B off n) (fun j v hv => by
  rw [addr_add]
  have hj : j < n := by
   rcases Nat.lt_or_ge j n with h1 | h1
   ·exact h1
   ·rw [List.getElem?_eq_none (by simpa [cellList] using h1)] at hv; cases hv
  obtain ⟨u, hu⟩ := h j hj; simp [cellList, hj, hu] at hv; rw [hu, hv])
 simpa [cellList] using this
theorem run_isAgg' {t : TypeId} {b : Bool} {d : TypeDesc} (hu : P.underlying t = some d) (hd : dAgg d = b) (w : World) : (isAgg t).run P w = .ok b w := by
 unfold isAgg; rw [Sem.run_bind, run_underlying hu w]; cases d <;> subst hd <;> rfl
theorem run_sizeOf' {t : TypeId} {k : Nat} (h : (P.info? t).map (·.size) = some k) (w : World) : (sizeOf t).run P w = .ok k w := by
 cases hi : P.info? t with
 | none => rw [hi] at h; cases h
 | some i =>
  rw [hi] at h; simp only [Option.map_some, Option.some.injEq] at h; simp [sizeOf, typeInfo, hi, h]
end
def aggOf (P : Program) (t : TypeId) : Option Bool := (P.underlying t).map dAgg
def szOf (P : Program) (t : TypeId) : Option Nat := (P.info? t).map (·.size)
theorem aggOf_run {P : Program} {t : TypeId} {b : Bool} (h : aggOf P t = some b) (w : World) : (isAgg t).run P w = .ok b w := by
 unfold aggOf at h
 cases hu : P.underlying t with
 | none => rw [hu] at h; cases h
 | some d => rw [hu] at h; simp only [Option.map_some, Option.some.injEq] at h; exact run_isAgg' hu h w
def loadK (agg : Bool) (n : Nat) (cs : Option (List AV)) (K : AV -> Prop) : Prop :=
 match cs with
 | some cs => match agg with
  | true => req (Nat.ble n cs.length) (K (.agg (cs.take n)))
  | false => match cs with
   | c :: _ => K c
   | [] => False
 | none => False
theorem load_sound {P : Program} {s : St} {o : Oper} {t : TypeId} {x : Operand} (ho : o.op = .load t x) {rx : Opd} (hx : opd x = some rx) {agg : Bool} {n : Nat} (ha : aggOf P t = some agg) (hn : agg = true -> szOf P t = some n) {K : St -> Prop}
  (h : loadK agg n (s.rd (s.ev rx)) fun r => K (s.put o.dst r)) : OpS P o s K := by
 have hd : ∀ c, o.op ≠ .defer c := fun c e => by rw [ho] at e; cases e
 unfold loadK at h; split at h
 ·rename_i cs hcs; split at h
  ·obtain ⟨h1, h2⟩ := req_iff.1 h; have hle : n ≤ cs.length := Nat.le_of_ble_eq_true h1; refine OpS.pure _ hd h2 fun E G a w hs => ?_; obtain ⟨B, off, hv, hc⟩ := hs.rd (hs.ev hx) hcs; have hr := run_loadCells_there P w B off n (fun j hj => let ⟨u, h, _⟩ := hc j (by omega); ⟨u, h⟩)
   refine ⟨.agg (cellList w B off n).toArray, ?_, ?_⟩
   ·unfold execOp; simp [ho, Instr.loadAt, hv, Instr.sureAddr, loadVar, aggOf_run ha, run_sizeOf' (hn rfl), hr]
   ·refine .agg _ _ (by simp [cellList]; omega) (fun u hu => ?_) (fun j hj u hu => ?_)
    ·simp only [cellList, List.mem_map, List.mem_range] at hu; obtain ⟨j, hj, rfl⟩ := hu; obtain ⟨u, h1, h2, _⟩ := hc j (by omega)
     rw [h1]; exact h2
    ·simp only [List.length_take] at hj; obtain ⟨u', h1, h2, h3⟩ := hc j (by omega)
     simp [cellList, show j < n by omega, h1] at hu
     subst hu; rw [List.getElem_take]; exact h3
  ·split at h
   ·rename_i c rest; refine OpS.pure _ hd h fun E G a w hs => ?_; obtain ⟨B, off, hv, hc⟩ := hs.rd (hs.ev hx) hcs; obtain ⟨u, h1, _, h3⟩ := hc 0 (by simp)
    rw [Nat.add_zero] at h1; refine ⟨u, ?_, h3⟩; unfold execOp; simp [ho, Instr.loadAt, hv, Instr.sureAddr, loadVar, aggOf_run ha, h1]
   ·exact h.elim
 ·exact h.elim
theorem RS.newBoxG {E : Entry} {G : Gh} {s : St} {a : Act} {w : World} (h : RS E G s a w) (bx : Box) (cs : List AV) (hlb : bx.lb? = none) (hbx : ∀ ds, bx.cs? = some ds -> ds = cs) (vs : List Value) (T : TypeId) (hl : cs.length ≤ vs.length) (h1 : ∀ v ∈ vs, v.oneCell' = true)
  (hv : ∀ j (hj : j < cs.length) v, vs[j]? = some v -> RV G.M G.σ s.bs.length cs[j] v) :
  RS E { G with σ := fun b => if b = s.bs.length then w.heap.size else G.σ b } ⟨s.env, s.bs ++ [bx], s.lo⟩ a (w.alloc (.cells vs.toArray T)) := by
 have hg : RS E G s a (w.alloc (.cells vs.toArray T)) := h.grow (M' := G.M) ⟨rfl, rfl, rfl, by simp, Hp.le_refl _, fun B hB _ => Below.heap_alloc _ _ _ hB, fun _ _ _ _ => rfl⟩ (Hp.ext h.ok ((Ext.refl w).alloc _))
 have hsig : ∀ b, b < s.bs.length -> (fun b => if b = s.bs.length then w.heap.size else G.σ b) b = G.σ b := fun b hb => by simp only; rw [if_neg (by omega)]
 have hlen : (s.bs ++ [bx]).length = s.bs.length + 1 := by simp
 have hnew : (w.alloc (.cells vs.toArray T)).heap[w.heap.size]? = some (.cells vs.toArray T (0, 0)) := heap_alloc_new w _
 have hold : ∀ b ds, boxCells (s.bs ++ [bx]) b = some ds -> (b = s.bs.length ∧ ds = cs) ∨ (b < s.bs.length ∧ boxCells s.bs b = some ds) := fun b ds hb => by
  rw [boxCells_append] at hb
  by_cases e : b = s.bs.length
  ·rw [if_pos e] at hb; exact .inl ⟨e, hbx _ hb⟩
  ·rw [if_neg e] at hb; exact .inr ⟨boxCells_lt hb, hb⟩
 have hatold : ∀ p x, (⟨s.env, s.bs ++ [bx], s.lo⟩ : St).at p = some x -> (∃ j, p = .bx s.bs.length j ∧ cs[j]? = some x) ∨ (s.at p = some x ∧ ∀ j, p ≠ .bx s.bs.length j) := fun p x hp => by
  cases p with
  | sl t => exact .inr ⟨hp, fun j e => by cases e⟩
  | bx b j =>
   simp only [St.at] at hp
   cases hb : boxCells (s.bs ++ [bx]) b with
   | none => rw [hb] at hp; cases hp
   | some ds =>
    rw [hb] at hp; simp only [Option.bind_some] at hp; rcases hold b ds hb with ⟨rfl, rfl⟩ | ⟨hlt, hb'⟩
    ·exact .inl ⟨j, rfl, hp⟩
    ·refine .inr ⟨by simp only [St.at, hb', Option.bind_some]; exact hp, fun j' e => ?_⟩
     cases e; omega
 have hvalold : ∀ p x, s.at p = some x -> valAt (fun b => if b = s.bs.length then w.heap.size else G.σ b) a (w.alloc (.cells vs.toArray T)) p = valAt G.σ a (w.alloc (.cells vs.toArray T)) p := fun p x hp => by
  cases p with
  | sl t => rfl
  | bx b j =>
   simp only [St.at] at hp
   cases hb : boxCells s.bs b with
   | none => rw [hb] at hp; cases hp
   | some ds => simp only [valAt]; rw [if_neg (by have := boxCells_lt hb; omega)]
 have hvalnew : ∀ j x, cs[j]? = some x -> ∃ v, vs[j]? = some v ∧ v.oneCell' = true ∧ RV G.M G.σ s.bs.length x v ∧ valAt (fun b => if b = s.bs.length then w.heap.size else G.σ b) a (w.alloc (.cells vs.toArray T)) (.bx s.bs.length j) = v := fun j x hj => by
  have hjl : j < cs.length := by
   rcases Nat.lt_or_ge j cs.length with h1 | h1
   ·exact h1
   ·rw [List.getElem?_eq_none h1] at hj; cases hj
  have hjv : vs[j]? = some (vs[j]'(by omega)) := List.getElem?_eq_getElem _
  rw [List.getElem?_eq_getElem hjl] at hj; cases hj; refine ⟨_, hjv, h1 _ (List.getElem_mem _), hv j hjl _ hjv, ?_⟩; simp only [valAt, if_true, World.cell?, hnew]; simp [show j < vs.length by omega]
 refine ⟨hg.fr, hg.ok, h.nt, fun p x hp => ?_, fun b j x hp => ?_, fun b ds hb => ?_, fun b ds hb => ?_, fun b b' ds ds' hb hb' e => ?_, fun p z l hp => ?_, h.clinj, fun p B hB b ds hb => ?_, hg.cllt, h.lo, by rw [hlen]; exact Nat.le_succ_of_le h.len, fun b hb => by simp only; rw [if_neg (by have := h.len; omega)]; exact h.sig b hb, hg.sp.step (Hp.le_refl _) (fun b hb => by simp only; rw [if_neg (by omega)]) (fun _ _ k => boxLoop_append hlb k) (fun _ _ k _ => k) (fun _ _ _ _ p k => ⟨p, k⟩) (fun _ k => k)⟩
 ·simp only [hlen]; rcases hatold p x hp with ⟨j, rfl, hj⟩ | ⟨hp', _⟩
  ·obtain ⟨v, _, _, h3, h4⟩ := hvalnew j x hj; rw [h4, h3.deown_of]; exact h3.mono (Hp.le_refl _) (Nat.le_succ _) hsig
  ·rw [hvalold p x hp']; exact (hg.val p x hp').mono (Hp.le_refl _) (Nat.le_succ _) hsig
 ·rcases hatold _ x hp with ⟨j', e, hj⟩ | ⟨hp', _⟩
  ·cases e; obtain ⟨v, _, h2, _, h4⟩ := hvalnew j x hj; rw [h4]; exact h2
  ·rw [hvalold _ x hp']; exact hg.one b j x hp'
 ·rcases hold b ds hb with ⟨rfl, rfl⟩ | ⟨hlt, hb'⟩
  ·exact ⟨vs.toArray, T, by simp only [if_true]; exact hnew, by simpa using hl⟩
  ·simp only; rw [if_neg (by omega)]; exact hg.box b ds hb'
 ·rcases hold b ds hb with ⟨rfl, rfl⟩ | ⟨hlt, hb'⟩
  ·simp only [if_true]; refine ⟨fun o => ?_, .inr h.fr.size⟩
   cases hq : G.M w.heap.size o with
   | none => rfl
   | some v => exact absurd (Hp.lt h.ok hq) (by omega)
  ·simp only; rw [if_neg (by omega)]; exact hg.bmem b ds hb'
 ·simp only at e; rcases hold b ds hb with ⟨rfl, rfl⟩ | ⟨hlt, hb1⟩ <;> rcases hold b' ds' hb' with ⟨rfl, rfl⟩ | ⟨hlt', hb1'⟩
  ·rfl
  ·rw [if_pos rfl, if_neg (by omega)] at e
   exact absurd (h.blt hb1') (by omega)
  ·rw [if_pos rfl, if_neg (by omega)] at e
   exact absurd (h.blt hb1) (by omega)
  ·rw [if_neg (by omega), if_neg (by omega)] at e
   exact h.inj b b' ds ds' hb1 hb1' e
 ·rcases hatold _ _ hp with ⟨j, rfl, hj⟩ | ⟨hp', _⟩
  ·obtain ⟨v, _, _, h3, _⟩ := hvalnew j _ hj; have := h3.deown_of; simp [AV.deown] at this
  ·rw [hvalold p _ hp']; exact hg.own p z l hp'
 ·rcases hold b ds hb with ⟨rfl, rfl⟩ | ⟨hlt, hb'⟩
  ·simp only [if_true]; have := (h.cllt p B hB).1; omega
  ·simp only; rw [if_neg (by omega)]; exact h.clbox p B hB b ds hb'
theorem RS.newBox {E : Entry} {G : Gh} {s : St} {a : Act} {w : World} (h : RS E G s a w) (cs : List AV) (vs : List Value) (T : TypeId) (hl : vs.length = cs.length) (h1 : ∀ v ∈ vs, v.oneCell' = true)
  (hv : ∀ j (hj : j < cs.length) v, vs[j]? = some v -> RV G.M G.σ s.bs.length cs[j] v) :
  RS E { G with σ := fun b => if b = s.bs.length then w.heap.size else G.σ b } ⟨s.env, s.bs ++ [.cells cs], s.lo⟩ a (w.alloc (.cells vs.toArray T)) :=
 h.newBoxG (.cells cs) cs rfl (fun ds e => by cases e; rfl) vs T (by omega) h1 hv
def St.addBox (s : St) (cs : List AV) : St := ⟨s.env, s.bs ++ [.cells cs], s.lo⟩
def boxK (s : St) (x : AV) (K : AV -> St -> Prop) : Prop := req (cellOk x) (K (.ptr s.bs.length 0) (s.addBox x.cells))
theorem box_run {P : Program} {s : St} {x : AV} (hx : cellOk x = true) {E : Entry} {G : Gh} {a : Act} {w : World} (hs : RS E G s a w) {v : Value} (hv : RV G.M G.σ s.bs.length x v) (t : TypeId) :
  ∃ G' w', (newVar t v).run P w = .ok ⟨w.heap.size, 0, none⟩ w' ∧ RS E G' (s.addBox x.cells) a w' ∧ RV G'.M G'.σ (s.addBox x.cells).bs.length (.ptr s.bs.length 0) (.pointer (some ⟨w.heap.size, 0, none⟩)) := by
 obtain ⟨h1, h2, h3⟩ := hv.cells hx; have := hs.newBox x.cells v.cells.toList t h1 h2 h3; refine ⟨_, _, ?_, this, ?_⟩
 ·simp [newVar, newRow]
 ·have := RV.ptr (M := G.M) (σ := fun b => if b = s.bs.length then w.heap.size else G.σ b) (n := (s.addBox x.cells).bs.length) s.bs.length 0 (by simp [St.addBox])
  simpa using this
theorem box_sound {P : Program} {s : St} {o : Oper} {t : TypeId} {x : Operand} (ho : o.op = .box t x) {rx : Opd} (hx : opd x = some rx) {K : St -> Prop}
  (h : boxK s (s.ev rx) fun r s' => K (s'.put o.dst r)) : OpS P o s K := by
 have hd : ∀ c, o.op ≠ .defer c := fun c e => by rw [ho] at e; cases e
 obtain ⟨h1, h2⟩ := req_iff.1 h; refine OpS.val _ _ hd h2 fun E G a w hs => ?_; obtain ⟨G', w', h3, h4, h5⟩ := box_run (P := P) h1 hs (hs.ev hx) t; refine ⟨_, G', w', ?_, h4, h5⟩; unfold execOp; simp [ho, Instr.box, h3]
theorem alloc_sound {P : Program} {s : St} {o : Oper} {t : TypeId} (ho : o.op = .alloc t) {i : TypeInfo} {z : Value} {x : AV} (hi : P.info? t = some i) (hz : i.zero = some z) (hx : avOf z = some x) {K : St -> Prop}
  (h : boxK s x fun r s' => K (s'.put o.dst r)) : OpS P o s K := by
 have hd : ∀ c, o.op ≠ .defer c := fun c e => by rw [ho] at e; cases e
 obtain ⟨h1, h2⟩ := req_iff.1 h; refine OpS.val _ _ hd h2 fun E G a w hs => ?_; obtain ⟨G', w', h3, h4, h5⟩ := box_run (P := P) h1 hs (.flat (avOf_fv hx)) t; refine ⟨_, G', w', ?_, h4, h5⟩; unfold execOp; simp [ho, Instr.alloc, zeroValue, typeInfo, hi, hz, h3]
theorem RS.setCell {E : Entry} {G : Gh} {s : St} {a : Act} {w : World} (h : RS E G s a w) {b j : Nat} {cs : List AV} (hb : boxCells s.bs b = some cs) (hj : j < cs.length) {x : AV} {v : Value} (hx : RV G.M G.σ s.bs.length x v) (h1 : v.oneCell' = true) :
  RS E G (s.setBox b (cs.set j x)) a (w.setCell ⟨G.σ b, j, none⟩ v) ∧ w.frozen? ⟨G.σ b, j, none⟩ = false ∧ ∃ u, w.cell? ⟨G.σ b, j, none⟩ = some u := by
 have hblt := h.blt hb; obtain ⟨vs, T, hc, hvl⟩ := h.box b cs hb; obtain ⟨hM, hmine⟩ := h.bmem b cs hb; have hat0 : s.at (.bx b j) = some cs[j] := by simp [St.at, hb, hj]
 have hset : s.setBox b (cs.set j x) = s.upd (.bx b j) x := by simp [St.upd, hb]
 have hcell : ∃ u, w.cell? ⟨G.σ b, j, none⟩ = some u := ⟨vs[j]'(by omega), by simp only [World.cell?, hc]; simp [show j < vs.size by omega]⟩
 have hother : ∀ k, k ≠ G.σ b -> (w.setCell ⟨G.σ b, j, none⟩ v).heap[k]? = w.heap[k]? := fun k hk => Below.heap_setCell _ _ _ _ hk
 have hsame : (w.setCell ⟨G.σ b, j, none⟩ v).heap[G.σ b]? = some (.cells (vs.setIfInBounds j v) T (0, 0)) := by
  simp only [World.setCell, Array.getElem?_modify, if_true, hc]; rfl
 have hsize : (w.setCell ⟨G.σ b, j, none⟩ v).heap.size = w.heap.size := by simp [World.setCell]
 have hcl : ∀ p B, G.cl p = some B -> B ≠ G.σ b := fun p B hB e => h.clbox p B hB b cs hb e.symm
 have hval : ∀ p y, s.at p = some y -> valAt G.σ a (w.setCell ⟨G.σ b, j, none⟩ v) p = if p = .bx b j then v else valAt G.σ a w p := fun p y hp => by
  cases p with
  | sl t => simp [valAt]
  | bx b' j' =>
   simp only [St.at] at hp
   cases hb' : boxCells s.bs b' with
   | none => rw [hb'] at hp; cases hp
   | some ds =>
    simp only [valAt]; rw [cell_set]
    by_cases e : b' = b
    ·subst e
     by_cases e2 : j' = j
     ·subst e2; obtain ⟨u, hu⟩ := hcell; simp [hu]
     ·rw [if_neg (by simpa using fun e => e2 e.symm), if_neg (by simpa using e2)]
    ·rw [if_neg (fun h' => e (h.inj b' b ds cs hb' hb h'.1.symm)), if_neg (by simp [e])]
 refine ⟨?_, ?_, hcell⟩
 ·rw [hset]; have hatu := fun p => St.at_upd s hat0 x p; refine ⟨?_, fun B o u hu => ?_, h.nt, fun p y hp => ?_, fun b' j' y hp => ?_, fun b' ds hb' => ?_, fun b' ds hb' => ?_, fun b' b'' ds ds' hb' hb'' e => ?_, fun p z l hp => ?_, h.clinj, fun p B hB b' ds hb' => ?_, fun p B hB => ?_, (St.upd_lo s _ x).trans h.lo, by rw [St.upd_len]; exact h.len, h.sig, h.sp.step (Hp.le_refl _) (fun _ _ => rfl) (fun _ _ k => St.upd_loop k) (fun B o ho hk => by rw [hother B (fun e => by subst e; rw [hc] at ho; cases ho; cases hk)]; exact ho) (fun _ _ _ _ p k => ⟨p, k⟩) (fun _ k => k) (fun _ _ B _ _ h1 h2 => ⟨h1, (hother B (hcl _ B h1)).trans h2, fun h3 => h3⟩)⟩
  ·refine ⟨h.fr.os, h.fr.tape, h.fr.output, by rw [hsize]; exact h.fr.size, h.fr.le, fun B hB hn => ?_, h.fr.mem, h.fr.kn.keep (hother _ (h.fr.kn.ne hM))⟩
   rw [hother B (fun e => ?_)]
   ·exact h.fr.heap B hB hn
   ·subst e; rcases hmine with hm | hm
    ·exact hn hm
    ·omega
  ·have := h.ok _ _ _ hu; show (w.setCell _ v).cell? _ = some u; rw [cell_set, if_neg (fun e => by rw [← e.1] at hu; rw [hM] at hu; cases hu)]
   exact this
  ·rw [St.upd_len]; rw [hatu] at hp
   by_cases e : p = .bx b j
   ·rw [if_pos e] at hp; cases hp; rw [hval p _ (e ▸ hat0), if_pos e, hx.deown_of]; exact hx
   ·rw [if_neg e] at hp; rw [hval p y hp, if_neg e]; exact h.val p y hp
  ·rw [hatu] at hp
   by_cases e : Pl.bx b' j' = .bx b j
   ·rw [hval _ _ (e ▸ hat0), if_pos e]; exact h1
   ·rw [if_neg e] at hp; rw [hval _ y hp, if_neg e]; exact h.one b' j' y hp
  ·obtain ⟨es, h2, h3⟩ := s.upd_box _ x b' ds hb'
   by_cases e : b' = b
   ·subst e; rw [hb] at h2; cases h2; exact ⟨_, T, hsame, by simp; omega⟩
   ·obtain ⟨us, T', h4, h5⟩ := h.box b' es h2; exact ⟨us, T', by rw [hother _ (fun e2 => e (h.inj b' b es cs h2 hb e2))]; exact h4, by omega⟩
  ·obtain ⟨es, h2, h3⟩ := s.upd_box _ x b' ds hb'; exact h.bmem b' es h2
  ·obtain ⟨es, h2, _⟩ := s.upd_box _ x b' ds hb'; obtain ⟨es', h2', _⟩ := s.upd_box _ x b'' ds' hb''; exact h.inj b' b'' es es' h2 h2' e
  ·rw [hatu] at hp
   by_cases e : p = .bx b j
   ·rw [if_pos e] at hp; cases hp; have := hx.deown_of; simp [AV.deown] at this
   ·rw [if_neg e] at hp; obtain ⟨ad, k, h2, hz, h3⟩ := h.own p z l hp; refine ⟨ad, k, by rw [hval p _ hp, if_neg e]; exact h2, hz, ?_⟩
    rcases h3 with h3 | ⟨B, hB, h4, h5⟩
    ·exact .inl h3
    ·obtain ⟨us, T', h6, h7⟩ := h5.cells; exact .inr ⟨B, hB, h4, h5.lt, ⟨us, T', by rw [hother B (hcl p B hB)]; exact h6, h7⟩, h5.free, h5.mine⟩
  ·obtain ⟨es, h2, _⟩ := s.upd_box _ x b' ds hb'; exact h.clbox p B hB b' es h2
  ·obtain ⟨h2, h3⟩ := h.cllt p B hB; exact ⟨by rw [hsize]; exact h2, h3⟩
 ·simp only [World.frozen?, hc]; simp
def setAt (xs : List AV) : Nat -> List AV -> List AV
 | _, [] => xs
 | o, c :: cs => setAt (xs.set o c) (o + 1) cs
theorem setAt_length : ∀ (cs xs : List AV) (o : Nat), (setAt xs o cs).length = xs.length
 | [], _, _ => rfl
 | c :: cs, xs, o => by rw [setAt, setAt_length cs, List.length_set]
theorem St.setBox_set (s : St) (b : Nat) (xs ys : List AV) : (s.setBox b xs).setBox b ys = s.setBox b ys := by
 simp [St.setBox]
theorem storeCells_run {P : Program} {E : Entry} {G : Gh} {a : Act} : ∀ (us : List Value) (xs : List AV) (s : St) (w : World) (b off i : Nat) (cs : List AV), RS E G s a w -> boxCells s.bs b = some cs -> off + i + xs.length ≤ cs.length -> us.length = xs.length -> (∀ u ∈ us, u.oneCell' = true) ->
  (∀ j (hj : j < xs.length) u, us[j]? = some u -> RV G.M G.σ s.bs.length xs[j] u) -> ∃ w', (storeCells ⟨G.σ b, off, none⟩ us i).run P w = .ok () w' ∧ RS E G (s.setBox b (setAt cs (off + i) xs)) a w'
 | [], [], s, w, b, off, i, cs, h, hb, _, _, _, _ => by
  refine ⟨w, rfl, ?_⟩; have hlt := boxCells_lt hb; refine h.sameBoxes (bs' := s.bs.set b (.cells cs)) (fun c => ?_) (fun c => ?_) (by simp)
  ·rw [boxCells_set hb]; split
   ·rename_i e; rw [e, hb]
   ·rfl
  ·simp only [boxLoop, List.getElem?_set]
   by_cases e : b = c
   ·subst e; simp only [boxCells] at hb; rw [if_pos rfl, if_pos hlt]
    cases hx : s.bs[b]? with
    | none => rw [hx] at hb; cases hb
    | some y =>
     rw [hx] at hb; cases y <;> first | rfl | cases hb
   ·rw [if_neg e]
 | u :: us, x :: xs, s, w, b, off, i, cs, h, hb, hle, hl, h1, hv => by
  simp only [List.length_cons] at hle hl; obtain ⟨h2, h3, v0, h4⟩ := h.setCell hb (j := off + i) (by omega) (hv 0 (by simp) u rfl) (h1 u (by simp))
  have hb2 : boxCells (s.setBox b (cs.set (off + i) x)).bs b = some (cs.set (off + i) x) := by
   simp only [St.setBox]; rw [boxCells_set hb, if_pos rfl]
  obtain ⟨w', h5, h6⟩ := storeCells_run us xs _ _ b off (i + 1) _ h2 hb2 (by simp; omega) (by omega) (fun v hv' => h1 v (by simp [hv'])) (fun j hj v hv' => by
   have := hv (j + 1) (by simp; omega) v (by simpa using hv')
   simpa [St.setBox] using this)
  refine ⟨w', ?_, ?_⟩
  ·simp only [storeCells, Sem.run_bind]; rw [run_store P w _ u .plain (h1 u (by simp)), addr_add, h4]
   simp only [h3, Bool.false_eq_true, if_false, Result.andThen_ok]; exact h5
  ·rw [St.setBox_set] at h6; rw [setAt]
   rw [Nat.add_assoc]; exact h6
 | [], _ :: _, _, _, _, _, _, _, _, _, _, hl, _, _ => by simp at hl
 | _ :: _, [], _, _, _, _, _, _, _, _, _, hl, _, _ => by simp at hl
def storeK (n : Nat) (s : St) (p v : AV) (K : St -> Prop) : Prop :=
 match p with
 | .ptr b off => match boxCells s.bs b with
  | some cs => req (cellOk v && (Nat.beq v.cells.length n && Nat.ble (off + n) cs.length)) (K (s.setBox b (setAt cs off v.cells)))
  | none => False
 | _ => False
theorem store_sound {P : Program} {s : St} {o : Oper} {t : TypeId} {p x : Operand} (ho : o.op = .store t p x) (hdn : o.dst = none) {rp rx : Opd} (hp : opd p = some rp) (hx : opd x = some rx) {n : Nat} (hn : szOf P t = some n) {K : St -> Prop}
  (h : storeK n s (s.ev rp) (s.ev rx) K) : OpS P o s K := by
 have hd : ∀ c, o.op ≠ .defer c := fun c e => by rw [ho] at e; cases e
 unfold storeK at h; split at h
 ·rename_i b off hpe; split at h
  ·rename_i cs hb; obtain ⟨h1, h2⟩ := req_iff.1 h; simp only [Bool.and_eq_true] at h1; obtain ⟨hc, hl, hle⟩ := h1; have hl := Nat.eq_of_beq_eq_true hl; have hle := Nat.le_of_ble_eq_true hle; refine OpS.skip _ hd hdn h2 fun E G a w hs => ?_; have hpv := hs.ev hp; rw [hpe] at hpv; obtain ⟨hpv, _⟩ := hpv.inv_ptr; obtain ⟨c1, c2, c3⟩ := (hs.ev hx).cells hc; obtain ⟨w', h5, h6⟩ := storeCells_run (P := P) (a.eval x).cells.toList (s.ev rx).cells s w b off 0 cs hs hb (by omega) c1 c2 c3
   refine ⟨G, w', ?_, h6⟩; have hsz : (a.eval x).cells.size = n := by rw [← Array.length_toList, c1, hl]
   unfold execOp; simp [ho, Instr.storeAt, hpv, Instr.sureAddr, storeVar, run_sizeOf' hn, hsz, h5]
  ·exact h.elim
 ·exact h.elim
def storeEK (n : Nat) (s : St) (b i z off : Nat) (v : AV) (K : St -> Prop) : Prop :=
 match boxCells s.bs b with
 | some cs => (cellOk v = true ∧ v.cells.length = n ∧ 0 < n ∧ i * z + off + n ≤ cs.length) ∧ K ⟨s.env, s.bs.set b (.row (setAt cs (i * z + off) v.cells)), s.lo⟩
 | none => False
theorem RS.rowed {E : Entry} {G : Gh} {s : St} {a : Act} {w : World} (h : RS E G s a w) {b : Nat} {cs : List AV} (hb : s.bs[b]? = some (.cells cs)) (h0 : cs ≠ []) : RS E G ⟨s.env, s.bs.set b (.row cs), s.lo⟩ a w := by
 have hlt : b < s.bs.length := (List.getElem?_eq_some_iff.1 hb).1; refine h.sameBoxes (fun c => ?_) (fun c => ?_) (by simp)
 ·simp only [boxCells, List.getElem?_set]
  by_cases e : b = c
  ·subst e; rw [if_pos rfl, if_pos hlt, hb]
   cases cs with
   | nil => exact absurd rfl h0
   | cons c cs => rfl
  ·rw [if_neg e]
 ·simp only [boxLoop, List.getElem?_set]
  by_cases e : b = c
  ·subst e; rw [if_pos rfl, if_pos hlt, hb]; rfl
  ·rw [if_neg e]
theorem storeE_sound {P : Program} {s : St} {o : Oper} {t : TypeId} {p x : Operand} (ho : o.op = .store t p x) (hdn : o.dst = none) {rp rx : Opd} (hp : opd p = some rp) (hx : opd x = some rx) {n : Nat} (hn : szOf P t = some n) {b i z off : Nat} (hpe : s.ev rp = .elp b i z off) {K : St -> Prop}
  (h : storeEK n s b i z off (s.ev rx) K) : OpS P o s K := by
 have hd : ∀ c, o.op ≠ .defer c := fun c e => by rw [ho] at e; cases e
 unfold storeEK at h; split at h
 ·rename_i cs hb; obtain ⟨⟨hc, hl, h0, hle⟩, h2⟩ := h; refine OpS.skip _ hd hdn h2 fun E G a w hs => ?_; have hpv := hs.ev hp; rw [hpe] at hpv; obtain ⟨hpv, _⟩ := hpv.inv_elp; obtain ⟨c1, c2, c3⟩ := (hs.ev hx).cells hc; obtain ⟨w', h5, h6⟩ := storeCells_run (P := P) (a.eval x).cells.toList (s.ev rx).cells s w b (i * z + off) 0 cs hs hb (by omega) c1 c2 c3
  have hsz : (a.eval x).cells.size = n := by rw [← Array.length_toList, c1, hl]
  refine ⟨G, w', ?_, ?_⟩
  ·unfold execOp; simp [ho, Instr.storeAt, hpv, Instr.sureAddr, storeVar, run_sizeOf' hn, hsz, h5]
  ·have hlt := boxCells_lt hb
   have h0' : setAt cs (i * z + off) (s.ev rx).cells ≠ [] := fun e => by
    have := congrArg List.length e; rw [setAt_length] at this; simp only [List.length_nil] at this; omega
   have := h6.rowed (b := b) (cs := setAt cs (i * z + off) (s.ev rx).cells) (by simp [St.setBox, hlt]) h0'
   simpa [St.setBox] using this
 ·exact h.elim
end Go.AM
namespace Go.AM
open Go.CK Go.RowKit
def addCells (M : Hp) (B off : Nat) (us : List Value) : Hp := fun b o => if b = B ∧ off ≤ o ∧ o < off + us.length then us[o - off]? else M b o
theorem addCells_at {M : Hp} {B off : Nat} {us : List Value} {j : Nat} {u : Value} (h : us[j]? = some u) : addCells M B off us B (off + j) = some u := by
 have hj : j < us.length := by
  rcases Nat.lt_or_ge j us.length with h1 | h1
  ·exact h1
  ·rw [List.getElem?_eq_none h1] at h; cases h
 unfold addCells; rw [if_pos ⟨rfl, by omega, by omega⟩, show off + j - off = j by omega]
 exact h
theorem addCells_le {M : Hp} {B off : Nat} {us : List Value} (h : ∀ o, off ≤ o -> M B o = none) : M.le (addCells M B off us) := fun b o v hv => by
 simp only [addCells]; rw [if_neg]
 ·exact hv
 ·rintro ⟨rfl, h1, _⟩; rw [h o h1] at hv; cases hv
theorem addCells_ne {M : Hp} {B off : Nat} {us : List Value} {b : Nat} (h : b ≠ B) (o : Nat) : addCells M B off us b o = M b o := by
 simp only [addCells]; rw [if_neg (fun e => h e.1)]
theorem addCells_inv {M : Hp} {B off : Nat} {us : List Value} {b o : Nat} {v : Value} (h : addCells M B off us b o = some v) : (b = B ∧ ∃ j, o = off + j ∧ us[j]? = some v) ∨ M b o = some v := by
 simp only [addCells] at h; split at h
 ·rename_i hc; exact .inl ⟨hc.1, o - off, by omega, h⟩
 ·exact .inr h
def RowOf (M : Hp) (sz : Nat) (l : List AV) (us : List Value) : Prop :=
 us.length = l.length * sz ∧ ∀ i (h : i < l.length), l[i].cells.length = sz ∧ ∀ j (hj : j < l[i].cells.length), ∃ u, us[i * sz + j]? = some u ∧ u.oneCell' = true ∧ FV M (l[i].cells[j]) u
theorem RowOf.nil (M : Hp) (sz : Nat) : RowOf M sz [] [] := ⟨by simp, fun i hi => by cases hi⟩
theorem RowOf.append {M : Hp} {sz : Nat} {l l2 : List AV} {us us2 : List Value} (h : RowOf M sz l us) (h2 : RowOf M sz l2 us2) : RowOf M sz (l ++ l2) (us ++ us2) := by
 refine ⟨by rw [List.length_append, List.length_append, h.1, h2.1, Nat.add_mul], fun i hi => ?_⟩
 by_cases hlt : i < l.length
 ·have hmul : (i + 1) * sz ≤ l.length * sz := Nat.mul_le_mul_right _ hlt; rw [Nat.add_mul, Nat.one_mul] at hmul; simp only [List.getElem_append_left hlt]; obtain ⟨a1, a2⟩ := h.2 i hlt; refine ⟨a1, fun j hj => ?_⟩; obtain ⟨u, b1, b2, b3⟩ := a2 j hj; exact ⟨u, by rw [List.getElem?_append_left (by rw [h.1]; omega)]; exact b1, b2, b3⟩
 ·obtain ⟨k, rfl⟩ : ∃ k, i = l.length + k := ⟨i - l.length, by omega⟩
  have hk : k < l2.length := by simp at hi; omega
  have he : (l ++ l2)[l.length + k]'hi = l2[k] := by
   rw [List.getElem_append_right (by omega)]
   simp
  obtain ⟨a1, a2⟩ := h2.2 k hk; rw [he]; refine ⟨a1, fun j hj => ?_⟩; obtain ⟨u, b1, b2, b3⟩ := a2 j hj; refine ⟨u, ?_, b2, b3⟩; rw [Nat.add_mul, ← h.1, List.getElem?_append_right (by omega), show us.length + k * sz + j - us.length = k * sz + j by omega]
  exact b1
theorem RowOf.elems {M M' : Hp} (hM : M.le M') {sz B off : Nat} {l : List AV} {us : List Value} (h : RowOf M sz l us) (hu : ∀ j u, us[j]? = some u -> M' B (off + j) = some u) : Elems M' B off sz l := fun i hi => by
 obtain ⟨a1, a2⟩ := h.2 i hi; refine ⟨a1, fun j hj => ?_⟩; obtain ⟨u, b1, b2, b3⟩ := a2 j hj; exact ⟨u, by rw [Nat.add_assoc]; exact hu _ _ b1, b2, b3.mono hM⟩
theorem Elems.rowOf {M : Hp} {B off sz : Nat} {l : List AV} (h : Elems M B off sz l) : ∃ us, RowOf M sz l us ∧ ∀ j u, us[j]? = some u -> M B (off + j) = some u := by
 have hget : ∀ o, o < l.length * sz -> ∃ u, M B (off + o) = some u := fun o ho => by
  have hsz : 0 < sz := by
   rcases Nat.eq_zero_or_pos sz with h0 | h0
   ·subst h0; omega
   ·exact h0
  have hi : o / sz < l.length := (Nat.div_lt_iff_lt_mul hsz).2 ho; have hj := Nat.mod_lt o hsz; obtain ⟨a1, a2⟩ := h _ hi; obtain ⟨u, b1, _⟩ := a2 (o % sz) (by omega)
  refine ⟨u, ?_⟩; rw [← b1, Nat.add_assoc]; congr 1; have := Nat.div_add_mod o sz; rw [Nat.mul_comm] at this; omega
 refine ⟨(List.range (l.length * sz)).map fun o => (M B (off + o)).getD undef, ⟨by simp, fun i hi => ⟨(h i hi).1, fun j hj => ?_⟩⟩, fun j u hu => ?_⟩
 ·obtain ⟨a1, a2⟩ := h i hi; obtain ⟨u, b1, b2, b3⟩ := a2 j hj; have hmul : (i + 1) * sz ≤ l.length * sz := Nat.mul_le_mul_right _ hi; rw [Nat.add_mul, Nat.one_mul] at hmul; refine ⟨u, ?_, b2, b3⟩; rw [Nat.add_assoc] at b1; simp [List.getElem?_range (show i * sz + j < l.length * sz by omega), b1]
 ·have hj : j < l.length * sz := by
   rcases Nat.lt_or_ge j (l.length * sz) with h1 | h1
   ·exact h1
   ·rw [List.getElem?_eq_none (by simpa using h1)] at hu; cases hu
  obtain ⟨u', hu'⟩ := hget j hj; simp [hj, hu'] at hu; rw [hu', hu]
section
variable {E : Entry} {G : Gh} {s : St} {a : Act} {w : World} {P : Program}
theorem RS.noM (h : RS E G s a w) (o : Nat) : G.M w.heap.size o = none := by
 cases hq : G.M w.heap.size o with
 | none => rfl
 | some v => exact absurd (Hp.lt h.ok hq) (by omega)
theorem RS.newRow (h : RS E G s a w) (vs : Array Value) (T : TypeId) (us : List Value) (hp : ∀ (j : Nat) u, us[j]? = some u -> vs[j]? = some u) :
  RS E { G with M := addCells G.M w.heap.size 0 us } s a (w.alloc (.cells vs T)) := by
 refine h.grow ⟨rfl, rfl, rfl, by simp, addCells_le fun o _ => h.noM o, fun B hB _ => Below.heap_alloc _ _ _ hB, fun B hB _ o => addCells_ne (by omega) o⟩ fun b o v hv => ?_
 rcases addCells_inv hv with ⟨rfl, j, rfl, hj⟩ | hv
 ·have hnew : (w.alloc (.cells vs T)).heap[w.heap.size]? = some (.cells vs T (0, 0)) := heap_alloc_new w _; simp only [Hp.of, World.cell?, hnew]; simpa using hp j v hj
 ·exact (Ext.refl w).alloc _ |>.cell (h.ok _ _ _ hv)
structure Spare (E : Entry) (G : Gh) (s : St) (w : World) (B z n k : Nat) (p : Pl) : Prop where
 row : Row E.FP E.w G.M w B z n k
 only : ∀ q, G.cl q = some B -> q = p
 box : ∀ b cs, boxCells s.bs b = some cs -> G.σ b ≠ B
 lt : B < w.heap.size
 not : ∀ z l, s.at p ≠ some (.sl (.own z) l)
 nl : ∀ b j, p = .bx b j -> boxLoop s.bs b = none
theorem RS.own_of (h : RS E G s a w) {d p : Pl} {o : Cap} {l : List AV} {B z k : Nat} (hd : s.at d = some (.sl o l)) (hv : valAt G.σ a w d = .slice (some ⟨B, 0, none⟩) l.length k) (hs : Spare E G s w B z l.length k p) (hz : ∀ y ∈ l, y.cells.length = z) :
  RS E { G with cl := fun r => if r = d then some B else if r = p then none else G.cl r } (s.upd d (.sl (.own z) l)) a w := by
 have hvd := h.val d _ hd
 refine ⟨h.fr, h.ok, h.nt, fun r u hu => ?_, fun b j u hu => ?_, fun b cs hb => ?_, fun b cs hb => ?_, fun b b' cs cs' hb hb' e => ?_, fun r z' l' hr => ?_, fun r r' B' hr hr' => ?_, fun r B' hB' b cs hb => ?_, fun r B' hB' => ?_, (St.upd_lo s d _).trans h.lo, by rw [St.upd_len]; exact h.len, h.sig, h.sp.step (Hp.le_refl _) (fun _ _ => rfl) (fun _ _ k => St.upd_loop k) (fun _ _ k _ => k) (fun B' o ho hk r k => by
  simp only at k
  by_cases e1 : r = d
  ·rw [if_pos e1] at k; cases k; obtain ⟨vs, T, hc, _⟩ := hs.row.cells; rw [hc] at ho; cases ho; cases hk
  ·rw [if_neg e1] at k
   by_cases e2 : r = p
   ·rw [if_pos e2] at k; cases k
   ·rw [if_neg e2] at k; exact ⟨r, k⟩) (fun _ k => k) (fun b j B' o h1 h2 h3 => ⟨by
    have e1 : Pl.bx b j ≠ d := fun e => by rw [← e, at_loop h1] at hd; cases hd
    have e2 : Pl.bx b j ≠ p := fun e => by rw [hs.nl b j e.symm] at h1; cases h1
    simp only [if_neg e1, if_neg e2]; exact h2, h3, fun h4 => h4⟩)⟩
 ·rw [St.at_upd s hd] at hu; rw [St.upd_len]
  by_cases hr : r = d
  ·rw [if_pos hr] at hu; cases hu; rw [hr]; have := hvd.norm1; rw [deown_norm1] at this; exact this
  ·rw [if_neg hr] at hu; exact h.val r u hu
 ·rw [St.at_upd s hd] at hu
  by_cases hr : Pl.bx b j = d
  ·exact h.one b j _ (hr ▸ hd)
  ·rw [if_neg hr] at hu; exact h.one b j u hu
 ·obtain ⟨ds, h1, h2⟩ := s.upd_box d _ b cs hb; obtain ⟨vs, T, h3, h4⟩ := h.box b ds h1; exact ⟨vs, T, h3, Nat.le_trans (by omega) h4⟩
 ·obtain ⟨ds, h1, h2⟩ := s.upd_box d _ b cs hb; exact h.bmem b ds h1
 ·obtain ⟨ds, h1, _⟩ := s.upd_box d _ b cs hb; obtain ⟨ds', h1', _⟩ := s.upd_box d _ b' cs' hb'; exact h.inj b b' ds ds' h1 h1' e
 ·rw [St.at_upd s hd] at hr
  by_cases hrd : r = d
  ·rw [if_pos hrd] at hr; cases hr; exact ⟨_, k, by rw [hrd]; exact hv, hz, .inr ⟨B, by simp [hrd], rfl, hs.row⟩⟩
  ·rw [if_neg hrd] at hr; obtain ⟨ad, k', h2, hz', h3⟩ := h.own r z' l' hr; refine ⟨ad, k', h2, hz', ?_⟩; rcases h3 with h3 | ⟨B', hB', h4, h5⟩
   ·exact .inl h3
   ·refine .inr ⟨B', ?_, h4, h5⟩; have : r ≠ p := fun e => hs.not _ _ (e ▸ hr); simp only [hrd, this, if_false]; exact hB'
 ·simp only at hr hr'
  by_cases hrd : r = d
  ·rw [if_pos hrd] at hr
   by_cases hrd' : r' = d
   ·rw [hrd, hrd']
   ·rw [if_neg hrd'] at hr'
    by_cases hrp' : r' = p
    ·rw [if_pos hrp'] at hr'; cases hr'
    ·rw [if_neg hrp'] at hr'; cases hr; exact absurd (hs.only _ hr') hrp'
  ·rw [if_neg hrd] at hr
   by_cases hrp : r = p
   ·rw [if_pos hrp] at hr; cases hr
   ·rw [if_neg hrp] at hr
    by_cases hrd' : r' = d
    ·rw [if_pos hrd'] at hr'; cases hr'; exact absurd (hs.only _ hr) hrp
    ·rw [if_neg hrd'] at hr'
     by_cases hrp' : r' = p
     ·rw [if_pos hrp'] at hr'; cases hr'
     ·rw [if_neg hrp'] at hr'; exact h.clinj _ _ B' hr hr'
 ·obtain ⟨ds, h1, _⟩ := s.upd_box d _ b cs hb; simp only at hB'
  by_cases hrd : r = d
  ·rw [if_pos hrd] at hB'; cases hB'; exact hs.box b ds h1
  ·rw [if_neg hrd] at hB'
   by_cases hrp : r = p
   ·rw [if_pos hrp] at hB'; cases hB'
   ·rw [if_neg hrp] at hB'; exact h.clbox r B' hB' b ds h1
 ·simp only at hB'
  by_cases hrd : r = d
  ·rw [if_pos hrd] at hB'; cases hB'; exact ⟨hs.lt, hs.row.mine⟩
  ·rw [if_neg hrd] at hB'
   by_cases hrp : r = p
   ·rw [if_pos hrp] at hB'; cases hB'
   ·rw [if_neg hrp] at hB'; exact h.cllt r B' hB'
theorem RS.fill (h : RS E G s a w) {B z n k : Nat} {p : Pl} (hs : Spare E G s w B z n k p) {m : Nat} (us : List Value) (hu : us.length = m * z) (hmk : n + m ≤ k) (h1 : ∀ u ∈ us, u.oneCell' = true) :
  ∃ w', (storeCells (⟨B, n * z, none⟩ : Addr) us).run P w = .ok () w' ∧ RS E { G with M := addCells G.M B (n * z) us } s a w' ∧ w'.heap.size = w.heap.size ∧
   (n + m < k -> Spare E { G with M := addCells G.M B (n * z) us } s w' B z (n + m) k p) := by
 obtain ⟨vs, T, hc, hvs⟩ := hs.row.cells
 have hfit : n * z + us.length ≤ vs.size := by
  rw [hu, hvs, ← Nat.add_mul]; exact Nat.mul_le_mul_right _ hmk
 have hrun := run_storeCells_at P B (n * z) T us 0 vs w hc (by simpa using hfit) h1
 simp only [Nat.add_zero] at hrun; have hnew := setRow_heap w B vs (vs.toList.take (n * z) ++ us ++ vs.toList.drop (n * z + us.length)).toArray T (0, 0) hc
 have hother : ∀ k, k ≠ B -> (w.setRow B (vs.toList.take (n * z) ++ us ++ vs.toList.drop (n * z + us.length)).toArray).heap[k]? = w.heap[k]? := fun k hk => by
  simp only [World.setRow, Array.getElem?_modify]; rw [if_neg (Ne.symm hk)]
 have hsize : (w.setRow B (vs.toList.take (n * z) ++ us ++ vs.toList.drop (n * z + us.length)).toArray).heap.size = w.heap.size := by simp [World.setRow]
 have hlen : (vs.toList.take (n * z) ++ us ++ vs.toList.drop (n * z + us.length)).length = vs.size := by
  simp; omega
 have hin : ∀ (j : Nat) u, us[j]? = some u -> (vs.toList.take (n * z) ++ us ++ vs.toList.drop (n * z + us.length))[n * z + j]? = some u := fun j u hj => by
  have hjl : j < us.length := by
   rcases Nat.lt_or_ge j us.length with h1 | h1
   ·exact h1
   ·rw [List.getElem?_eq_none h1] at hj; cases hj
  rw [List.append_assoc, List.getElem?_append_right (by simp; omega)]
  simp only [List.length_take, Array.length_toList]; rw [show n * z + j - min (n * z) vs.size = j by omega, List.getElem?_append_left hjl]; exact hj
 have hout : ∀ (o : Nat), o < n * z -> (vs.toList.take (n * z) ++ us ++ vs.toList.drop (n * z + us.length))[o]? = vs[o]? := fun o ho => by
  rw [List.append_assoc, List.getElem?_append_left (by simp; omega), List.getElem?_take, if_pos ho, Array.getElem?_toList]
 have hval : ∀ q y, s.at q = some y -> valAt G.σ a (w.setRow B (vs.toList.take (n * z) ++ us ++ vs.toList.drop (n * z + us.length)).toArray) q = valAt G.σ a w q := fun q y hq => by
  cases q with
  | sl t => rfl
  | bx b j =>
   simp only [St.at] at hq
   cases hb : boxCells s.bs b with
   | none => rw [hb] at hq; cases hq
   | some cs => simp only [valAt]; rw [cell_heap (hother _ (hs.box b cs hb))]
 have hfree := hs.row.free; have hMle : G.M.le (addCells G.M B (n * z) us) := addCells_le hfree
 have hKB : KB ≠ B := by
  rcases Nat.eq_zero_or_pos z with h0 | h0
  ·intro e; obtain ⟨T', fz, h1⟩ := h.fr.kn.tb; rw [e, hc] at h1; cases h1; subst h0; simp [KV] at hvs
  ·exact h.fr.kn.neR (m := n * z) hc (by rw [hvs]; exact Nat.mul_lt_mul_of_pos_right hs.row.lt h0) (hfree _ (Nat.le_refl _))
 refine ⟨_, hrun, ?_, hsize, fun hlt => ?_⟩
 ·refine ⟨?_, fun b o v hv => ?_, h.nt, fun q y hq => ?_, fun b j y hq => ?_, fun b cs hb => ?_, fun b cs hb => ?_, h.inj, fun q z' l' hq => ?_, h.clinj, h.clbox, fun q B' hB' => by rw [hsize]; exact h.cllt q B' hB', h.lo, h.len, h.sig, h.sp.step hMle (fun _ _ => rfl) (fun _ _ k => k) (fun B' o ho hk => by rw [hother B' (fun e => by subst e; rw [hc] at ho; cases ho; cases hk)]; exact ho) (fun _ _ _ _ p k => ⟨p, k⟩) (fun _ k => k) (fun b j B' o h1 h2 h3 => by
   have hne : B' ≠ B := fun e => by
    have := hs.nl b j (hs.only _ (e ▸ h2)).symm; rw [this] at h1; cases h1
   exact ⟨h2, (hother B' hne).trans h3, fun h4 k => (addCells_ne hne k).trans (h4 k)⟩)⟩
  ·refine ⟨h.fr.os, h.fr.tape, h.fr.output, by rw [hsize]; exact h.fr.size, Hp.le_trans h.fr.le hMle, fun B' hB' hn => ?_, fun B' hB' hn o => ?_, (h.fr.kn.mono hMle).keep (hother _ hKB)⟩
   ·have : B' ≠ B := fun e => by
     subst e; rcases hs.row.mine with h1 | h1
     ·exact hn h1
     ·omega
    rw [hother B' this]; exact h.fr.heap B' hB' hn
   ·have : B' ≠ B := fun e => by
     subst e; rcases hs.row.mine with h1 | h1
     ·exact hn h1
     ·omega
    exact (addCells_ne this o).trans (h.fr.mem B' hB' hn o)
  ·rcases addCells_inv hv with ⟨rfl, j, rfl, hj⟩ | hv2
   ·simp only [Hp.of, World.cell?, hnew]; simp only [Option.isSome_none, Bool.false_eq_true, if_false, List.getElem?_toArray]; exact hin j v hj
   ·have := h.ok _ _ _ hv2
    by_cases e : b = B
    ·subst e
     have ho : o < n * z := by
      rcases Nat.lt_or_ge o (n * z) with h1 | h1
      ·exact h1
      ·rw [hfree o h1] at hv2; cases hv2
     simp only [Hp.of, World.cell?, hc] at this; simp only [Hp.of, World.cell?, hnew]; simp only [Option.isSome_none, Bool.false_eq_true, if_false, List.getElem?_toArray] at this ⊢; rw [hout o ho]; exact this
    ·simp only [Hp.of]; rw [cell_heap (hother b e)]; exact this
  ·rw [hval q y hq]; exact (h.val q y hq).mono hMle (Nat.le_refl _) (fun _ _ => rfl)
  ·rw [hval _ y hq]; exact h.one b j y hq
  ·obtain ⟨us', T', h2, h3⟩ := h.box b cs hb; exact ⟨us', T', by rw [hother _ (hs.box b cs hb)]; exact h2, h3⟩
  ·obtain ⟨h2, h3⟩ := h.bmem b cs hb; exact ⟨fun o => (addCells_ne (hs.box b cs hb) o).trans (h2 o), h3⟩
  ·obtain ⟨ad, k', h2, hz', h3⟩ := h.own q z' l' hq; refine ⟨ad, k', by rw [hval q _ hq]; exact h2, hz', ?_⟩
   rcases h3 with h3 | ⟨B', hB', h4, h5⟩
   ·exact .inl h3
   ·have hne : B' ≠ B := fun e => by
     subst e; have := hs.only q hB'; subst this; exact hs.not _ _ hq
    obtain ⟨us', T', h6, h7⟩ := h5.cells; exact .inr ⟨B', hB', h4, h5.lt, ⟨us', T', by rw [hother B' hne]; exact h6, h7⟩, fun o ho => (addCells_ne hne o).trans (h5.free o ho), h5.mine⟩
 ·refine ⟨⟨hlt, ⟨_, T, hnew, by rw [List.size_toArray, hlen, hvs]⟩, fun o ho => ?_, hs.row.mine⟩, hs.only, hs.box, by rw [hsize]; exact hs.lt, hs.not, hs.nl⟩
  simp only [addCells]; rw [if_neg (fun e => by have := e.2.2; rw [hu, ← Nat.add_mul] at this; omega)]
  exact hfree o (Nat.le_trans (Nat.mul_le_mul_right _ (Nat.le_add_right _ _)) ho)
structure SV (M : Hp) (l : List AV) (sz : Nat) (v : Value) (ad : Option Addr) (k B off : Nat) : Prop where
 eq : v = .slice ad l.length k
 cap : l.length ≤ k
 len : l.length ≤ lim
 at_ : l ≠ [] -> ad = some ⟨B, off, none⟩
 el : Elems M B off sz l
theorem RV.sv {M : Hp} {σ : Nat -> Nat} {n : Nat} {o : Cap} {l : List AV} {v : Value} (h : RV M σ n (.sl o l) v) {sz : Nat} (hz : ∀ y ∈ l, y.cells.length = sz) : ∃ ad k B off, SV M l sz v ad k B off := by
 obtain ⟨ad, k, B, off, sz', h1, h2, h3, h4, h5, h6, h7⟩ := h.inv_sl; refine ⟨ad, k, B, off, h1, h3, h4, h6, fun i hi => ?_⟩; obtain ⟨a1, a2⟩ := h7 i hi; have := hz _ (List.getElem_mem hi); refine ⟨this, ?_⟩; rw [← this, a1]; exact a2
theorem SV.rv {M : Hp} {σ : Nat -> Nat} {n sz : Nat} {o : Cap} {l : List AV} {v : Value} {ad : Option Addr} {k B off : Nat} (h : SV M l sz v ad k B off) (ho : ∀ z, o ≠ .own z) (hf : o = .full -> k = l.length) : RV M σ n (.sl o l) v := by
 rw [h.eq]; exact .flat (.mk_sl ho h.cap h.len hf h.at_ h.el)
theorem SV.row {M : Hp} {l : List AV} {sz : Nat} {v : Value} {ad : Option Addr} {k B off : Nat} (h : SV M l sz v ad k B off) (hok : M.le (Hp.of w)) :
  ∃ us, RowOf M sz l us ∧ (∀ u ∈ us, u.oneCell' = true) ∧ ∀ j u, us[j]? = some u -> w.cell? ⟨B, off + j, none⟩ = some u := by
 obtain ⟨us, h1, h2⟩ := h.el.rowOf; refine ⟨us, h1, fun u hu => ?_, fun j u hj => hok _ _ _ (h2 j u hj)⟩; obtain ⟨o, ho, rfl⟩ := List.mem_iff_getElem.1 hu
 have hsz : 0 < sz := by
  rcases Nat.eq_zero_or_pos sz with h0 | h0
  ·subst h0; rw [h1.1] at ho; omega
  ·exact h0
 rw [h1.1] at ho; have hi : o / sz < l.length := (Nat.div_lt_iff_lt_mul hsz).2 ho; obtain ⟨a1, a2⟩ := h1.2 _ hi; obtain ⟨u, b1, b2, _⟩ := a2 (o % sz) (by rw [a1]; exact Nat.mod_lt o hsz)
 have he : o / sz * sz + o % sz = o := by have := Nat.div_add_mod o sz; rw [Nat.mul_comm] at this; exact this
 rw [he, List.getElem?_eq_getElem (by rw [h1.1]; exact ho)] at b1
 cases b1; exact b2
theorem run_firstCells_any (w : World) (ad : Option Addr) (B off n sz k : Nat) (us : List Value) (hl : us.length = n * sz) (ha : n ≠ 0 -> ad = some ⟨B, off, none⟩) (hu : ∀ j u, us[j]? = some u -> w.cell? ⟨B, off + j, none⟩ = some u) :
  (Builtin.firstCells sz n (.slice ad n k)).run P w = .ok us.toArray w ∨ (n = 0 ∧ us = [] ∧ (Builtin.firstCells sz n (.slice ad n k)).run P w = .ok #[] w) := by
 by_cases h0 : n = 0
 ·subst h0
  have hnil : us = [] := by
   have : us.length = 0 := by rw [hl]; simp
   exact List.length_eq_zero_iff.1 this
  refine .inr ⟨rfl, hnil, ?_⟩
  cases ad with
  | none => rfl
  | some b => simp [Builtin.firstCells, loadCells, loadCellsFrom]
 ·refine .inl ?_; rw [ha h0]; simp only [Builtin.firstCells]; have := run_loadCells_list (P := P) w ⟨B, off, none⟩ us (fun j v hv => by rw [addr_add]; exact hu j v hv)
  rw [hl] at this; exact this
theorem firstCells_run (w : World) {ad : Option Addr} {B off n sz k : Nat} {us : List Value} (hl : us.length = n * sz) (ha : n ≠ 0 -> ad = some ⟨B, off, none⟩) (hu : ∀ j u, us[j]? = some u -> w.cell? ⟨B, off + j, none⟩ = some u) :
  (Builtin.firstCells sz n (.slice ad n k)).run P w = .ok us.toArray w := by
 rcases run_firstCells_any (P := P) w ad B off n sz k us hl ha hu with h | ⟨_, h2, h3⟩
 ·exact h
 ·rw [h2]; exact h3
structure EInf (P : Program) (t e : TypeId) (sz : Nat) : Prop where
 sl : P.underlying t = some (.slice e)
 ex : ∃ i z, P.info? e = some i ∧ i.zero = some z ∧ i.size = sz ∧ z.cells.size = sz ∧ i.bytes ≤ 4096
theorem append_unfold {t e sz bytes : Nat} {i : TypeInfo} {z : Value} (ht : P.underlying t = some (.slice e)) (hi : P.info? e = some i) (hz : i.zero = some z) (hsz : i.size = sz) (hby : i.bytes = bytes)
  (ty : TypeId) (ad : Option Addr) (n k : Nat) (xa : Option Addr) (m c : Nat) (w : World) (hle : n + m ≤ glim) (hb : bytes ≤ 4096) :
  (Builtin.append_ #[t, t] ty #[.slice ad n k, .slice xa m c]).run P w =
   if n + m ≤ k then ((Builtin.firstCells sz m (.slice xa m c)).run P w).andThen fun new w1 =>
     ((match ad with | some a => storeCells (a.add (n * sz)) new.toList | none => Pure.pure () : Sem Unit).run P w1).andThen fun _ w2 => .ok (.slice ad (n + m) k) w2
   else ((Builtin.firstCells sz n (.slice ad n k)).run P w.drew).andThen fun old w1 => ((Builtin.firstCells sz m (.slice xa m c)).run P w1).andThen fun new w2 =>
    .ok (.slice (some ⟨w2.heap.size, 0, none⟩) (n + m) (grownCap w (n + m) k e)) (w2.alloc (.cells (old ++ new ++ Builtin.zeroCells z.cells (grownCap w (n + m) k e - (n + m))) e)) := by
 subst hsz hby
 by_cases h : n + m ≤ k
 ·rw [if_pos h]; cases ad <;> simp [Builtin.append_, run_underlying ht, sizeOf, typeInfo, hi, Builtin.lenOf, h]
 ·rw [if_neg h]; have h63' : ¬ (9223372036854775807 < ((n : Int) + (m : Int))) := by ((try unfold glim at hle);(try unfold lim at hle)); omega
  have h48' : ¬ (281474976710656 < Builtin.nextslicecap (n + m) k * i.bytes) := by
   have h1 := Nat.mul_le_mul hle hb; have := growslice_fits (need := n + m) (old := k) (bytes := i.bytes) (by omega) (by ((try unfold glim at h1);(try unfold lim at h1)); omega)
   omega
  simp [Builtin.append_, run_underlying ht, sizeOf, typeInfo, zeroValue, hi, hz, Builtin.lenOf, h, h63', h48', Question.forced, newRow, grownCap]
end
end Go.AM
