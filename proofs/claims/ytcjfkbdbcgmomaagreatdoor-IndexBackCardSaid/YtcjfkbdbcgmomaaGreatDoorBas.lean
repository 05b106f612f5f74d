/-
  Texts of this claim joined (wip/gen/bundle.py), those declarations only that are needed: AmRn AmVx. By an AI agent.
-/
import Derived.Test.YtcjfkbdbcgmomaaGreatDoorBar
import Derived.Test.YtcjfkbdbcgmomaaGreatDoorBaq
set_option linter.unusedSimpArgs false
set_option linter.unusedVariables false
namespace Go.AM
open Go.CK Go.RowKit
namespace AV
def rn0 (f : Nat -> Nat) : AV -> AV
 | .ptr b o => .ptr (f b) o
 | .yl b => .yl (f b)
 | .bsl b m k => .bsl (f b) m k
 | .elp b i z o => .elp (f b) i z o
 | .mpt b => .mpt (f b)
 | x => x
def rn1 (f : Nat -> Nat) : AV -> AV
 | .fn g xs ys => .fn g (xs.map (rn0 f)) (ys.map (rn0 f))
 | x => x.rn0 f
def rn2 (f : Nat -> Nat) : AV -> AV
 | .agg cs => .agg (cs.map (rn1 f))
 | x => x.rn1 f
def rn (f : Nat -> Nat) : AV -> AV
 | .agg cs => .agg (cs.map (rn1 f))
 | .tup cs => .tup (cs.map (rn2 f))
 | x => x.rn1 f
def at0 (p : Nat -> Bool) : AV -> Bool
 | .ptr b _ => p b
 | .yl b => p b
 | .bsl b _ _ => p b
 | .elp b _ _ _ => p b
 | .mpt b => p b
 | .ept _ => true
 | v => v.flat1
def at1 (p : Nat -> Bool) : AV -> Bool
 | .fn _ xs ys => xs.all (at0 p) && ys.all (at0 p)
 | v => v.at0 p
def at2 (p : Nat -> Bool) : AV -> Bool
 | .agg cs => cs.all (at1 p)
 | v => v.at1 p
def atp (p : Nat -> Bool) : AV -> Bool
 | .agg cs => cs.all (at1 p)
 | .tup cs => cs.all (at2 p)
 | .ept _ => true
 | .sl _ _ => true
 | v => v.at1 p
end AV
section
variable {M : Hp} {σ σ' : Nat -> Nat} {n n' : Nat} {f : Nat -> Nat} {p : Nat -> Bool}
theorem RV.rn0 (hf : ∀ b, p b = true -> b < n -> σ' (f b) = σ b ∧ f b < n') {x : AV} {v : Value} (h : RV M σ n x v) (hp : x.at0 p = true) : RV M σ' n' (x.rn0 f) v := by
 cases x <;> simp only [AV.at0] at hp <;> simp only [AV.rn0] <;> first | exact .flat (h.flat1 hp) | skip
 case ptr b o => obtain ⟨rfl, hb⟩ := h.inv_ptr; obtain ⟨h1, h2⟩ := hf b hp hb; rw [← h1]; exact .ptr _ _ h2
 case ept cs => obtain ⟨B, off, rfl, hc⟩ := h.inv_ept; exact .ept cs B off hc
 case yl b => obtain ⟨rfl, hb⟩ := h.inv_yl; obtain ⟨h1, h2⟩ := hf b hp hb; rw [← h1]; exact .yl _ h2
 case bsl b m k => obtain ⟨a, rfl, hb, h3, h4, h5⟩ := h.inv_bsl; obtain ⟨h1, h2⟩ := hf b hp hb; exact .bsl _ _ _ a h2 h3 h4 (by rw [h1]; exact h5)
 case elp b i z o => obtain ⟨rfl, hb⟩ := h.inv_elp; obtain ⟨h1, h2⟩ := hf b hp hb; rw [← h1]; exact .elp _ _ _ _ h2
 case mpt b => obtain ⟨rfl, hb⟩ := h.inv_mpt; obtain ⟨h1, h2⟩ := hf b hp hb; rw [← h1]; exact .mpt _ h2
theorem RV.rn1 (hf : ∀ b, p b = true -> b < n -> σ' (f b) = σ b ∧ f b < n') {x : AV} {v : Value} (h : RV M σ n x v) (hp : x.at1 p = true) : RV M σ' n' (x.rn1 f) v := by
 cases x <;> first | exact RV.rn0 hf h hp | skip
 case fn g xs ys =>
  simp only [AV.at1, Bool.and_eq_true, List.all_eq_true] at hp; obtain ⟨us, vs, rfl, h1, h2, h3, h4⟩ := h.inv_fn; refine .fn g _ _ us vs (by simpa using h1) (by simpa using h2) (fun j hj v hv => ?_) (fun j hj v hv => ?_)
  ·simp only [List.length_map] at hj; rw [List.getElem_map]; exact RV.rn0 hf (h3 j hj v hv) (hp.1 _ (List.getElem_mem hj))
  ·simp only [List.length_map] at hj; rw [List.getElem_map]; exact RV.rn0 hf (h4 j hj v hv) (hp.2 _ (List.getElem_mem hj))
theorem RV.rnAgg (hf : ∀ b, p b = true -> b < n -> σ' (f b) = σ b ∧ f b < n') {cs : List AV} {v : Value} (h : RV M σ n (.agg cs) v) (hp : cs.all (AV.at1 p) = true) : RV M σ' n' (.agg (cs.map (AV.rn1 f))) v := by
 simp only [List.all_eq_true] at hp; obtain ⟨vs, rfl, hl, h1, hv⟩ := h.inv_agg; refine .agg _ vs (by simpa using hl) h1 fun j hj v hjv => ?_
 simp only [List.length_map] at hj; rw [List.getElem_map]; exact RV.rn1 hf (hv j hj v hjv) (hp _ (List.getElem_mem hj))
theorem RV.rn2 (hf : ∀ b, p b = true -> b < n -> σ' (f b) = σ b ∧ f b < n') {x : AV} {v : Value} (h : RV M σ n x v) (hp : x.at2 p = true) : RV M σ' n' (x.rn2 f) v := by
 cases x <;> first | exact RV.rn1 hf h hp | exact RV.rnAgg hf h hp
theorem RV.rn (hf : ∀ b, p b = true -> b < n -> σ' (f b) = σ b ∧ f b < n') {x : AV} {v : Value} (h : RV M σ n x v) (hp : x.atp p = true) : RV M σ' n' (x.rn f) v := by
 cases x <;> first | exact RV.rn1 hf h hp | exact RV.rnAgg hf h hp | skip
 case sl o l =>
  cases h with | flat h => exact .flat h
 case tup cs =>
  simp only [AV.atp, List.all_eq_true] at hp; obtain ⟨vs, rfl, hl, hv⟩ := h.inv_tup; refine .tup _ vs (by simpa using hl) fun j hj v hjv => ?_
  simp only [List.length_map] at hj; rw [List.getElem_map]; exact RV.rn2 hf (hv j hj v hjv) (hp _ (List.getElem_mem hj))
end
theorem rn_deown (f : Nat -> Nat) (x : AV) : (x.rn f).deown = x.deown.rn f := by
 cases x with
 | sl o l => cases o <;> rfl
 | _ => rfl
theorem atp_deown (p : Nat -> Bool) (x : AV) : x.deown.atp p = x.atp p := by
 cases x with
 | sl o l => cases o <;> rfl
 | _ => rfl
theorem rn_own {f : Nat -> Nat} {x : AV} {z : Nat} {l : List AV} (h : x.rn f = .sl (.own z) l) : x = .sl (.own z) l := by
 cases x <;> simp only [AV.rn, AV.rn1, AV.rn0] at h <;> first | exact h | cases h
theorem rn_id1 {f : Nat -> Nat} {x : AV} (h : x.flat1 = true) : x.rn f = x := by
 cases x <;> first | rfl | (simp [AV.flat1] at h)
def rnB (f : Nat -> Nat) : Box -> Box
 | .cells cs => .cells (cs.map (AV.rn f))
 | x => x
def atB (p : Nat -> Bool) : Box -> Bool
 | .cells cs => cs.all (AV.atp p)
 | .row cs => cs.all AV.flat1
 | .loop _ => false
 | _ => true
def allB (p : Nat -> Bool) : List Box -> Bool
 | [] => true
 | x :: r => atB p x && allB p r
theorem allB_get {p : Nat -> Bool} : ∀ {bs : List Box} {k : Nat} {x : Box}, allB p bs = true -> bs[k]? = some x -> atB p x = true
 | y :: r, 0, x, h, hk => by
  simp only [allB, Bool.and_eq_true] at h
  simp at hk; subst hk; exact h.1
 | y :: r, k + 1, x, h, hk => by
  simp only [allB, Bool.and_eq_true] at h
  exact allB_get h.2 (by simpa using hk)
 | [], k, x, _, hk => by simp at hk
def ixOf : List Nat -> Nat -> Nat -> Option Nat
 | [], _, _ => none
 | i :: is, b, k => match Nat.beq i b with
  | true => some k
  | false => ixOf is b (k + 1)
theorem ixOf_some : ∀ {is : List Nat} {b k q : Nat}, ixOf is b k = some q -> k ≤ q ∧ is[q - k]? = some b
 | i :: is, b, k, q, h => by
  simp only [ixOf] at h; split at h
  ·rename_i hb; cases h; have := Nat.eq_of_beq_eq_true hb; subst this; simp
  ·obtain ⟨h1, h2⟩ := ixOf_some h; refine ⟨by omega, ?_⟩
   rw [show q - k = (q - (k + 1)) + 1 by omega]
   simpa using h2
theorem ixOf_none : ∀ {is : List Nat} {b k : Nat}, ixOf is b k = none -> b ∉ is
 | [], b, k, _, hm => by cases hm
 | i :: is, b, k, h, hm => by
  simp only [ixOf] at h; split at h
  ·cases h
  ·rename_i hb; rcases List.mem_cons.1 hm with rfl | hm
   ·simp at hb
   ·exact ixOf_none h hm
theorem ixOf_get {is : List Nat} (hnd : is.Nodup) {k b : Nat} (h : is[k]? = some b) : ixOf is b 0 = some k := by
 cases hq : ixOf is b 0 with
 | none => exact absurd (List.mem_of_getElem? h) (ixOf_none hq)
 | some q =>
  obtain ⟨_, h1⟩ := ixOf_some hq; rw [Nat.sub_zero] at h1; obtain ⟨hk, ek⟩ := List.getElem?_eq_some_iff.1 h; obtain ⟨hq', eq⟩ := List.getElem?_eq_some_iff.1 h1; have := (List.getElem_inj (h₀ := hq') (h₁ := hk) hnd).1 (eq.trans ek.symm); rw [this]
def inIx (is : List Nat) (b : Nat) : Bool := match ixOf is b 0 with
 | some _ => true
 | none => false
def rho (is : List Nat) (b : Nat) : Nat := match ixOf is b 0 with
 | some k => k
 | none => 0
def natAt : List Nat -> Nat -> Option Nat
 | [], _ => none
 | i :: _, 0 => some i
 | _ :: is, k + 1 => natAt is k
theorem natAt_eq : ∀ (is : List Nat) (k : Nat), natAt is k = is[k]?
 | [], k => by simp [natAt]
 | i :: is, 0 => rfl
 | i :: is, k + 1 => by simp [natAt, natAt_eq is k]
def pie (is : List Nat) (N : Nat) (k : Nat) : Nat := match natAt is k with
 | some b => b
 | none => N + (k - is.length)
def boxAt : List Box -> Nat -> Box
 | [], _ => .dead
 | x :: _, 0 => x
 | _ :: r, k + 1 => boxAt r k
theorem boxAt_eq : ∀ {bs : List Box} {k : Nat} {x : Box}, bs[k]? = some x -> boxAt bs k = x
 | [], k, x, h => by simp at h
 | y :: r, 0, x, h => by simpa [boxAt] using h
 | y :: r, k + 1, x, h => by simpa [boxAt] using boxAt_eq (bs := r) (k := k) (by simpa using h)
def cut (is : List Nat) (cur : List Box) : List Nat -> List Box
 | [] => []
 | i :: l => rnB (rho is) (boxAt cur i) :: cut is cur l
theorem cut_get (is : List Nat) (cur : List Box) : ∀ (l : List Nat) (k : Nat), (cut is cur l)[k]? = (l[k]?).map fun i => rnB (rho is) (boxAt cur i)
 | [], k => by simp [cut]
 | i :: l, 0 => by simp [cut]
 | i :: l, k + 1 => by simp [cut, cut_get is cur l k]
theorem cut_length (is : List Nat) (cur : List Box) : ∀ l : List Nat, (cut is cur l).length = l.length
 | [] => rfl
 | i :: l => by simp [cut, cut_length is cur l]
def backL (is : List Nat) (N : Nat) (bs' : List Box) : Nat -> List Box -> List Box
 | _, [] => []
 | b, x :: r => (match ixOf is b 0 with
  | some k => rnB (pie is N) (boxAt bs' k)
  | none => x) :: backL is N bs' (b + 1) r
def newL (f : Nat -> Nat) : Nat -> List Box -> List Box
 | _, [] => []
 | 0, x :: r => rnB f x :: newL f 0 r
 | n + 1, _ :: r => newL f n r
def back (is : List Nat) (cur bs' : List Box) : List Box := backL is cur.length bs' 0 cur ++ newL (pie is cur.length) is.length bs'
theorem backL_length (is : List Nat) (N : Nat) (bs' : List Box) : ∀ (cur : List Box) (b : Nat), (backL is N bs' b cur).length = cur.length
 | [], b => rfl
 | x :: r, b => by simp [backL, backL_length is N bs' r]
theorem backL_get (is : List Nat) (N : Nat) (bs' : List Box) : ∀ (cur : List Box) (b k : Nat), (backL is N bs' b cur)[k]? = (cur[k]?).map fun x => match ixOf is (b + k) 0 with
  | some q => rnB (pie is N) (boxAt bs' q)
  | none => x
 | [], b, k => by simp [backL]
 | x :: r, b, 0 => by simp [backL]
 | x :: r, b, k + 1 => by
  simp only [backL, List.getElem?_cons_succ, backL_get is N bs' r]; rw [show b + 1 + k = b + (k + 1) by omega]
theorem newL_get (f : Nat -> Nat) : ∀ (bs' : List Box) (n k : Nat), (newL f n bs')[k]? = (bs'[n + k]?).map (rnB f)
 | [], n, k => by cases n <;> simp [newL]
 | x :: r, 0, 0 => by simp [newL]
 | x :: r, 0, k + 1 => by simpa [newL] using newL_get f r 0 k
 | x :: r, n + 1, k => by
  simp only [newL, newL_get f r n k]; rw [show n + 1 + k = (n + k) + 1 by omega]
  simp
theorem newL_length (f : Nat -> Nat) : ∀ (bs' : List Box) (n : Nat), (newL f n bs').length = bs'.length - n
 | [], n => by cases n <;> simp [newL]
 | x :: r, 0 => by simp [newL, newL_length f r 0]
 | x :: r, n + 1 => by simp [newL, newL_length f r n]
theorem back_length (is : List Nat) (cur bs' : List Box) : (back is cur bs').length = cur.length + (bs'.length - is.length) := by
 simp [back, backL_length, newL_length]
def srcOf (is : List Nat) (N : Nat) (b : Nat) : Option Nat := if b < N then ixOf is b 0 else some (is.length + (b - N))
theorem back_get (is : List Nat) (cur bs' : List Box) (b : Nat) : (∀ k, srcOf is cur.length b = some k -> k < bs'.length -> (back is cur bs')[b]? = (bs'[k]?).map (rnB (pie is cur.length))) ∧ (srcOf is cur.length b = none -> (back is cur bs')[b]? = cur[b]?) := by
 unfold srcOf back
 by_cases hb : b < cur.length
 ·simp only [if_pos hb]; rw [List.getElem?_append_left (by rw [backL_length]; exact hb), backL_get, Nat.zero_add, List.getElem?_eq_getElem hb]
  refine ⟨fun k hk hlt => ?_, fun hk => ?_⟩
  ·rw [hk, List.getElem?_eq_getElem hlt]; simp only [Option.map_some]; rw [boxAt_eq (List.getElem?_eq_getElem hlt)]
  ·rw [hk]; rfl
 ·simp only [if_neg hb]; refine ⟨fun k hk hlt => ?_, fun hk => by cases hk⟩
  cases hk; rw [List.getElem?_append_right (by rw [backL_length]; omega), backL_length, newL_get]
theorem pie_src {is : List Nat} {N b k : Nat} (h : srcOf is N b = some k) (hin : ∀ i ∈ is, i < N) : pie is N k = b := by
 unfold srcOf at h; unfold pie; rw [natAt_eq]
 by_cases hb : b < N
 ·rw [if_pos hb] at h; obtain ⟨_, h1⟩ := ixOf_some h; rw [Nat.sub_zero] at h1; rw [h1]
 ·rw [if_neg hb] at h; cases h; rw [List.getElem?_eq_none (by omega)]
  simp only; omega
theorem src_pie {is : List Nat} {N : Nat} (hnd : is.Nodup) (hin : ∀ i ∈ is, i < N) (k : Nat) : srcOf is N (pie is N k) = some k := by
 unfold pie; rw [natAt_eq]
 cases hk : is[k]? with
 | some b =>
  simp only [srcOf]
  rw [if_pos (hin b (List.mem_of_getElem? hk)), ixOf_get hnd hk]
 | none =>
  have hlen : is.length ≤ k := by
   rcases Nat.lt_or_ge k is.length with h | h
   ·rw [List.getElem?_eq_getElem h] at hk; cases hk
   ·exact h
  simp only [srcOf]; rw [if_neg (by omega)]
  congr 1; omega
theorem rnB_cs (f : Nat -> Nat) {p : Nat -> Bool} {x : Box} (h : atB p x = true) : (rnB f x).cs? = x.cs?.map (List.map (AV.rn f)) := by
 cases x <;> first | rfl | skip
 case row cs =>
  simp only [atB, List.all_eq_true] at h
  cases cs with
  | nil => rfl
  | cons c cs =>
   show some (c :: cs) = some ((c :: cs).map (AV.rn f)); congr 1; exact ((List.map_congr_left fun y hy => rn_id1 (h y hy)).trans (List.map_id' _)).symm
theorem rnB_lb (f : Nat -> Nat) (x : Box) : (rnB f x).lb? = x.lb? := by cases x <;> rfl
theorem atB_cells {p : Nat -> Bool} {x : Box} {cs : List AV} (h : atB p x = true) (hc : x.cs? = some cs) : ∀ c ∈ cs, c.atp p = true := by
 cases x with
 | cells ds => cases hc; simpa [atB] using h
 | row ds =>
  rw [row_cs] at hc; split at hc
  ·cases hc
  ·cases hc; simp only [atB, List.all_eq_true] at h; intro c hcm; have := h c hcm
   cases c <;> first | rfl | (simp [AV.flat1] at this)
 | dead => cases hc
 | loop y => cases hc
 | mp l => cases hc
 | mq l c => cases hc
 | tab x => cases hc
theorem atB_lb {p : Nat -> Bool} {x : Box} {y : LB} (h : atB p x = true) (hc : x.lb? = some y) : y.n = 0 ∧ ∀ M : Hp, y.M.le M := by
 cases x <;> simp only [Box.lb?, Option.some.injEq, atB] at hc h <;> first | (cases hc; done) | (cases h; done) | skip
 all_goals
  subst hc; exact ⟨rfl, fun M _ _ _ e => by cases e⟩
theorem Sem.ren {P : Program} {f : FuncId} {vals : List AV} {cur : List Box} {Q : AV -> List Box -> Prop} (is : List Nat) (hnd : is.Nodup) (hin : ∀ i ∈ is, i < cur.length)
  (hv : ∀ x ∈ vals, x.atp (inIx is) = true) (hb : ∀ i ∈ is, atB (inIx is) (boxAt cur i) = true)
  (h : Sem P f (vals.map (AV.rn (rho is))) (cut is cur is) fun r bs' => (is.length ≤ bs'.length ∧ r.atp (fun b => decide (b < bs'.length)) = true ∧ allB (fun b => decide (b < bs'.length)) bs' = true) ∧ Q r bs') :
  Sem P f vals cur fun r cur' => ∃ r0 bs', Q r0 bs' ∧ r = r0.rn (pie is cur.length) ∧ cur' = back is cur bs' := by
 intro E G a0 w args lo hpre hl hvals
 have hcb : ∀ k, k < is.length -> ∃ i x, is[k]? = some i ∧ cur[i]? = some x ∧ (cut is cur is)[k]? = some (rnB (rho is) x) ∧ atB (inIx is) x = true := fun k hk => by
  have hi : is[k]? = some is[k] := List.getElem?_eq_getElem hk; have hlt := hin _ (List.getElem_mem hk); have hx : cur[is[k]]? = some cur[is[k]] := List.getElem?_eq_getElem hlt; refine ⟨_, _, hi, hx, ?_, ?_⟩
  ·rw [cut_get, hi]; simp only [Option.map_some]; rw [boxAt_eq hx]
  ·have := hb _ (List.getElem_mem hk)
   rwa [boxAt_eq hx] at this
 have hcl : (cut is cur is).length = is.length := cut_length _ _ _
 have hk_lt : ∀ {k : Nat} {y : Box}, (cut is cur is)[k]? = some y -> k < is.length := fun {k y} hy => by
  have := (List.getElem?_eq_some_iff.1 hy).1; omega
 obtain ⟨Gc, hGc⟩ : ∃ Gc : Gh, Gc = ⟨G.M, fun k => G.σ ((natAt is k).getD 0), fun p => match p with | .sl _ => none | .bx k j => match natAt is k with | some i => G.cl (.bx i j) | none => none⟩ := ⟨_, rfl⟩; have hσc : ∀ {k i : Nat}, is[k]? = some i -> Gc.σ k = G.σ i := fun {k i} hk => by rw [hGc]; simp only [natAt_eq, hk, Option.getD_some]
 have hclc : ∀ {k i : Nat} (j : Nat), is[k]? = some i -> Gc.cl (.bx k j) = G.cl (.bx i j) := fun {k i} j hk => by rw [hGc]; simp only [natAt_eq, hk]
 have hclc2 : ∀ {p : Pl} {B : Nat}, Gc.cl p = some B -> ∃ k i j, p = .bx k j ∧ is[k]? = some i ∧ G.cl (.bx i j) = some B := fun {p B} hp => by
  rw [hGc] at hp
  cases p with
  | sl t => cases hp
  | bx k j =>
   simp only [natAt_eq] at hp
   cases hk : is[k]? with
   | none => rw [hk] at hp; cases hp
   | some i => rw [hk] at hp; exact ⟨k, i, j, rfl, hk, hp⟩
 have hMc : Gc.M = G.M := by rw [hGc]
 have hcells : ∀ {k : Nat} {cs : List AV}, boxCells (cut is cur is) k = some cs -> ∃ i ds, is[k]? = some i ∧ boxCells cur i = some ds ∧ cs = ds.map (AV.rn (rho is)) ∧ ∀ c ∈ ds, c.atp (inIx is) = true := fun {k cs} hc => by
  unfold boxCells at hc; split at hc
  ·rename_i y hy; obtain ⟨i, x, h1, h2, h3, h4⟩ := hcb k (hk_lt hy); rw [h3] at hy; cases hy; rw [rnB_cs _ h4] at hc
   cases hx : x.cs? with
   | none => rw [hx] at hc; cases hc
   | some ds =>
    rw [hx] at hc; simp only [Option.map_some, Option.some.injEq] at hc; exact ⟨i, ds, h1, by simp only [boxCells, h2, hx], hc.symm, atB_cells h4 hx⟩
  ·cases hc
 have hloops : ∀ {k : Nat} {x : LB}, boxLoop (cut is cur is) k = some x -> ∃ i, is[k]? = some i ∧ boxLoop cur i = some x ∧ x.n = 0 ∧ ∀ M : Hp, x.M.le M := fun {k x} hc => by
  unfold boxLoop at hc; split at hc
  ·rename_i y hy; obtain ⟨i, z, h1, h2, h3, h4⟩ := hcb k (hk_lt hy); rw [h3] at hy; cases hy; rw [rnB_lb] at hc; exact ⟨i, h1, by simp only [boxLoop, h2, hc], atB_lb h4 hc⟩
  ·cases hc
 have ixk : ∀ {k k' i : Nat}, is[k]? = some i -> is[k']? = some i -> k = k' := fun {k k' i} h1 h2 => by
  have e1 := ixOf_get hnd h1; have e2 := ixOf_get hnd h2; rw [e1] at e2; exact Option.some.inj e2
 have hrho : ∀ b, inIx is b = true -> ∃ k, is[k]? = some b ∧ rho is b = k := fun b hb => by
  unfold inIx at hb; unfold rho
  cases hq : ixOf is b 0 with
  | none => rw [hq] at hb; cases hb
  | some k =>
   obtain ⟨_, h1⟩ := ixOf_some hq; exact ⟨k, by simpa using h1, rfl⟩
 have toC : ∀ {x : AV} {v : Value}, RV G.M G.σ cur.length x v -> x.atp (inIx is) = true -> RV Gc.M Gc.σ (cut is cur is).length (x.rn (rho is)) v := fun {x v} hx hp => by
  rw [hMc]; refine hx.rn (fun b hb _ => ?_) hp; obtain ⟨k, h1, h2⟩ := hrho b hb; rw [h2, hσc h1, hcl]; exact ⟨rfl, (List.getElem?_eq_some_iff.1 h1).1⟩
 have hat : ∀ {p : Pl} {x : AV}, (⟨[], cut is cur is, 0⟩ : St).at p = some x -> ∃ k i j y, p = .bx k j ∧ is[k]? = some i ∧ (⟨[], cur, lo⟩ : St).at (.bx i j) = some y ∧ x = y.rn (rho is) ∧ y.atp (inIx is) = true := fun {p x} hp => by
  cases p with
  | sl t => simp [St.at, envGet] at hp
  | bx k j =>
   simp only [St.at] at hp
   cases hb : boxCells (cut is cur is) k with
   | none => rw [hb] at hp; cases hp
   | some cs =>
    obtain ⟨i, ds, h1, h2, h3, h4⟩ := hcells hb; rw [hb, h3] at hp; simp only [Option.bind_some, List.getElem?_map] at hp
    cases hj : ds[j]? with
    | none => rw [hj] at hp; cases hp
    | some y =>
     rw [hj] at hp; simp only [Option.map_some, Option.some.injEq] at hp; exact ⟨k, i, j, y, rfl, h1, by simp only [St.at, h2, Option.bind_some, hj], hp.symm, h4 y (List.mem_of_getElem? hj)⟩
 have hval : ∀ {k i : Nat} (j : Nat), is[k]? = some i -> valAt Gc.σ ⟨#[], []⟩ w (.bx k j) = valAt G.σ a0 w (.bx i j) := fun {k i} j hk => by simp only [valAt, hσc hk]
 have hpreC : RS ⟨fun _ => True, G.M, w, 0, 0, Gc.σ, []⟩ Gc ⟨[], cut is cur is, 0⟩ ⟨#[], []⟩ w := by
  refine ⟨by rw [hMc]; exact Fr.refl _ _ _ hpre.fr.kn, by rw [hMc]; exact hpre.ok, rfl, fun p x hp => ?_, fun k j x hp => ?_, fun k cs hk => ?_, fun k cs hk => ?_, fun k k' cs cs' hk hk' e => ?_, fun p z l hp => ?_, fun p q B hp hq => ?_, fun p B hp k cs hk => ?_, fun p B hp => ?_, rfl, Nat.zero_le _, fun _ _ => rfl, ?_⟩
  ·obtain ⟨k, i, j, y, rfl, h1, h2, rfl, h4⟩ := hat hp; show RV Gc.M Gc.σ (cut is cur is).length _ (valAt Gc.σ ⟨#[], []⟩ w (.bx k j)); rw [rn_deown, hval j h1]; exact toC (hpre.val _ _ h2) (by rw [atp_deown]; exact h4)
  ·obtain ⟨k', i, j', y, e, h1, h2, _, _⟩ := hat hp; cases e; rw [hval _ h1]; exact hpre.one _ _ _ h2
  ·obtain ⟨i, ds, h1, h2, rfl, _⟩ := hcells hk; rw [hσc h1, List.length_map]; exact hpre.box i ds h2
  ·obtain ⟨i, ds, h1, h2, rfl, _⟩ := hcells hk; rw [hσc h1, hMc]; exact ⟨(hpre.bmem i ds h2).1, .inl trivial⟩
  ·obtain ⟨i, ds, h1, h2, _, _⟩ := hcells hk; obtain ⟨i', ds', h1', h2', _, _⟩ := hcells hk'; rw [hσc h1, hσc h1'] at e; have := hpre.inj i i' ds ds' h2 h2' e; subst this; exact ixk h1 h1'
  ·obtain ⟨k, i, j, y, rfl, h1, h2, h3, _⟩ := hat hp; have hy := rn_own h3.symm; subst hy; obtain ⟨ad, kk, q1, q2, q3⟩ := hpre.own _ _ _ h2; refine ⟨ad, kk, by rw [hval j h1]; exact q1, q2, ?_⟩
   rcases q3 with q3 | ⟨B, hB, q4, q5⟩
   ·exact .inl q3
   ·refine .inr ⟨B, by rw [hclc j h1]; exact hB, q4, q5.lt, q5.cells, by rw [hMc]; exact q5.free, .inl trivial⟩
  ·obtain ⟨k, i, j, rfl, h1, h2⟩ := hclc2 hp; obtain ⟨k', i', j', rfl, h1', h2'⟩ := hclc2 hq; have := hpre.clinj _ _ B h2 h2'; cases this; have := ixk h1 h1'; subst this; rfl
  ·obtain ⟨k', i', j', rfl, h1', h2'⟩ := hclc2 hp; obtain ⟨i, ds, h1, h2, _, _⟩ := hcells hk; rw [hσc h1]; exact hpre.clbox _ B h2' i ds h2
  ·obtain ⟨k, i, j, rfl, h1, h2⟩ := hclc2 hp; exact ⟨(hpre.cllt _ B h2).1, .inl trivial⟩
  ·refine ⟨fun B o hs => ?_, fun k x hk => ?_, fun k k' x x' hk hk' e => ?_, ⟨[], rfl, .nil⟩, fun k x hk j B o hj => by
    obtain ⟨i, h1, h2, _, _⟩ := hloops hk; obtain ⟨q1, q2, q3⟩ := hpre.sp.rows i x h2 j B o hj; exact ⟨q1, by rw [hclc j h1]; exact q2, by rw [hMc]; exact q3⟩⟩
   ·rcases hs with ⟨k, x, hk, e, ho⟩ | ⟨hmem, _⟩
    ·obtain ⟨i, h1, h2, _, _⟩ := hloops hk; rw [hσc h1] at e; obtain ⟨q1, q2, _⟩ := hpre.sp.ob B o (.inl ⟨i, x, h2, e, ho⟩); refine ⟨q1, fun p hp => ?_, .inl trivial⟩; obtain ⟨k', i', j', rfl, h1', h2'⟩ := hclc2 hp; exact q2 _ h2'
    ·cases hmem
   ·obtain ⟨i, h1, h2, h3, h4⟩ := hloops hk; exact ⟨h4 _, by omega, fun c hc => by omega⟩
   ·obtain ⟨i, h1, h2, _, _⟩ := hloops hk; obtain ⟨i', h1', h2', _, _⟩ := hloops hk'; rw [hσc h1, hσc h1'] at e; have := hpre.sp.inj i i' x x' h2 h2' e; subst this; exact ixk h1 h1'
 refine (h _ Gc _ w args 0 hpreC (by simpa using hl) (fun j hj v hjv => ?_)).mono ?_
 ·simp only [List.length_map] at hj; rw [List.getElem_map]; exact toC (hvals j hj v hjv) (hv _ (List.getElem_mem hj))
 rintro e w' ⟨v, r, bs', G', rfl, ⟨⟨hlen, hrat, hball⟩, hq⟩, h'⟩; have hwsz : w.heap.size ≤ w'.heap.size := h'.fr.size; have hfr : Fr (FPof Gc (cut is cur is)) G.M w G'.M w' := by have := h'.fr; rw [← hMc]; exact this
 have toG : ∀ B, FPof Gc (cut is cur is) B -> FPof G cur B := fun B hB => by
  rcases hB with ⟨k, cs, hk, e⟩ | ⟨k, j, hk⟩ | ⟨k, x, hk, e⟩
  ·obtain ⟨i, ds, h1, h2, _, _⟩ := hcells hk; exact .inl ⟨i, ds, h2, by rw [← hσc h1]; exact e⟩
  ·obtain ⟨k', i, j', e, h1, h2⟩ := hclc2 hk; exact .inr (.inl ⟨i, j', h2⟩)
  ·obtain ⟨i, h1, h2, _, _⟩ := hloops hk; exact .inr (.inr ⟨i, x, h2, by rw [← hσc h1]; exact e⟩)
 have no1 : ∀ {b : Nat} {cs : List AV}, b ∉ is -> boxCells cur b = some cs -> ¬ FPof Gc (cut is cur is) (G.σ b) := fun {b cs} hbi hb hB => by
  rcases hB with ⟨k, cs', hk, e⟩ | ⟨k, j, hk⟩ | ⟨k, x, hk, e⟩
  ·obtain ⟨i, ds, h1, h2, _, _⟩ := hcells hk; rw [hσc h1] at e; have := hpre.inj i b ds cs h2 hb e; subst this; exact hbi (List.mem_of_getElem? h1)
  ·obtain ⟨k', i, j', e, h1, h2⟩ := hclc2 hk; exact hpre.clbox _ _ h2 b cs hb rfl
  ·obtain ⟨i, h1, h2, _, _⟩ := hloops hk; rw [hσc h1] at e; obtain ⟨vs, T, q1, _⟩ := hpre.box b cs hb; have q2 := (hpre.sp.ob _ _ (.inl ⟨i, x, h2, e, rfl⟩)).1; exact x.obj_nc (q1.symm.trans q2)
 have no2 : ∀ {b : Nat} {x : LB}, b ∉ is -> boxLoop cur b = some x -> ¬ FPof Gc (cut is cur is) (G.σ b) := fun {b x} hbi hb hB => by
  have q0 := hpre.sp.ob _ _ (.inl ⟨b, x, hb, rfl, rfl⟩); rcases hB with ⟨k, cs', hk, e⟩ | ⟨k, j, hk⟩ | ⟨k, y, hk, e⟩
  ·obtain ⟨i, ds, h1, h2, _, _⟩ := hcells hk; rw [hσc h1] at e; obtain ⟨vs, T, q1, _⟩ := hpre.box i ds h2; rw [e] at q1; exact x.obj_nc (q1.symm.trans q0.1)
  ·obtain ⟨k', i, j', e, h1, h2⟩ := hclc2 hk; exact q0.2.1 _ h2
  ·obtain ⟨i, h1, h2, _, _⟩ := hloops hk; rw [hσc h1] at e; have := hpre.sp.inj i b y x h2 hb e; subst this; exact hbi (List.mem_of_getElem? h1)
 have no3 : ∀ {b j B : Nat}, b ∉ is -> G.cl (.bx b j) = some B -> ¬ FPof Gc (cut is cur is) B := fun {b j B} hbi hb hB => by
  rcases hB with ⟨k, cs', hk, e⟩ | ⟨k, j', hk⟩ | ⟨k, y, hk, e⟩
  ·obtain ⟨i, ds, h1, h2, _, _⟩ := hcells hk; rw [hσc h1] at e; exact hpre.clbox _ B hb i ds h2 e
  ·obtain ⟨k', i, j'', e, h1, h2⟩ := hclc2 hk; have := hpre.clinj _ _ B h2 hb; cases this; exact hbi (List.mem_of_getElem? h1)
  ·obtain ⟨i, h1, h2, _, _⟩ := hloops hk; rw [hσc h1] at e
   exact (hpre.sp.ob _ _ (.inl ⟨i, y, h2, e, rfl⟩)).2.1 _ hb
 -- the new state of knowledge
 obtain ⟨N, hN⟩ : ∃ N, N = cur.length := ⟨_, rfl⟩; obtain ⟨G2, hG2⟩ : ∃ G2 : Gh, G2 = ⟨G'.M, fun b => match srcOf is N b with | some k => G'.σ k | none => G.σ b, fun p => match p with | .sl 0 => G'.cl (.sl 0) | .sl _ => none | .bx b j => match srcOf is N b with | some k => G'.cl (.bx k j) | none => G.cl (.bx b j)⟩ := ⟨_, rfl⟩; have hM2 : G2.M = G'.M := by rw [hG2]
 have σ1 : ∀ {b k : Nat}, srcOf is N b = some k -> G2.σ b = G'.σ k := fun {b k} e => by rw [hG2]; simp only [e]
 have σ2 : ∀ {b : Nat}, srcOf is N b = none -> G2.σ b = G.σ b := fun {b} e => by rw [hG2]; simp only [e]
 have cl1 : ∀ {b k : Nat} (j : Nat), srcOf is N b = some k -> G2.cl (.bx b j) = G'.cl (.bx k j) := fun {b k} j e => by rw [hG2]; simp only [e]
 have cl2 : ∀ {b : Nat} (j : Nat), srcOf is N b = none -> G2.cl (.bx b j) = G.cl (.bx b j) := fun {b} j e => by rw [hG2]; simp only [e]
 have cl0 : G2.cl (.sl 0) = G'.cl (.sl 0) := by rw [hG2]; rfl
 have clS : ∀ {t B : Nat}, G2.cl (.sl t) = some B -> t = 0 := fun {t B} e => by
  rw [hG2] at e
  cases t with
  | zero => rfl
  | succ t => cases e
 have hinN : ∀ i ∈ is, i < N := by rw [hN]; exact hin
 have src0 : ∀ {b : Nat}, srcOf is N b = none -> b ∉ is ∧ b < N := fun {b} e => by
  unfold srcOf at e; split at e
  ·rename_i hb; exact ⟨ixOf_none e, hb⟩
  ·cases e
 have srcI : ∀ {b b' k : Nat}, srcOf is N b = some k -> srcOf is N b' = some k -> b = b' := fun {b b' k} e e' => (pie_src e hinN).symm.trans (pie_src e' hinN)
 have hsigC : ∀ {k i : Nat}, is[k]? = some i -> G'.σ k = G.σ i := fun {k i} hk => by
  have := h'.sig k (by show k < (cut is cur is).length; rw [hcl]; exact (List.getElem?_eq_some_iff.1 hk).1)
  exact this.trans (hσc hk)
 have hσN : ∀ b, b < N -> G2.σ b = G.σ b := fun b hb => by
  cases e : srcOf is N b with
  | none => exact σ2 e
  | some k =>
   rw [σ1 e]; refine hsigC ?_; unfold srcOf at e; rw [if_pos hb] at e; simpa using (ixOf_some e).2
 have hblen : (back is cur bs').length = N + (bs'.length - is.length) := by rw [back_length, hN]
 have hpie : ∀ k, k < bs'.length -> G2.σ (pie is N k) = G'.σ k ∧ pie is N k < (back is cur bs').length := fun k hk => by
  refine ⟨σ1 (src_pie hnd hinN k), ?_⟩; rw [hblen]; unfold pie; rw [natAt_eq]
  cases e : is[k]? with
  | some b => have := hinN b (List.mem_of_getElem? e); simp only; omega
  | none =>
   simp only
   have : is.length ≤ k := by
    rcases Nat.lt_or_ge k is.length with h | h
    ·rw [List.getElem?_eq_getElem h] at e; cases e
    ·exact h
   omega
 have srcLt : ∀ {b k : Nat} {y : Box}, srcOf is N b = some k -> (back is cur bs')[b]? = some y -> k < bs'.length := fun {b k y} e hy => by
  have hb := (List.getElem?_eq_some_iff.1 hy).1; rw [hblen] at hb; unfold srcOf at e; split at e
  ·have := (List.getElem?_eq_some_iff.1 (ixOf_some e).2).1; omega
  ·cases e; omega
 have bget : ∀ {b : Nat} {y : Box}, (back is cur bs')[b]? = some y -> (∃ k x, srcOf is N b = some k ∧ bs'[k]? = some x ∧ y = rnB (pie is N) x ∧ atB (fun b => decide (b < bs'.length)) x = true) ∨ (srcOf is N b = none ∧ cur[b]? = some y) := fun {b y} hy => by
  obtain ⟨q1, q2⟩ := back_get is cur bs' b; rw [← hN] at q1 q2
  cases e : srcOf is N b with
  | some k =>
   have hlt := srcLt e hy; have hx : bs'[k]? = some bs'[k] := List.getElem?_eq_getElem hlt; rw [q1 k e hlt, hx] at hy; simp only [Option.map_some, Option.some.injEq] at hy
   exact .inl ⟨k, _, rfl, hx, hy.symm, allB_get hball hx⟩
  | none => rw [q2 e] at hy; exact .inr ⟨rfl, hy⟩
 have bcells : ∀ {b : Nat} {cs : List AV}, boxCells (back is cur bs') b = some cs -> (∃ k ds, srcOf is N b = some k ∧ boxCells bs' k = some ds ∧ cs = ds.map (AV.rn (pie is N)) ∧ ∀ c ∈ ds, c.atp (fun b => decide (b < bs'.length)) = true) ∨ (srcOf is N b = none ∧ boxCells cur b = some cs) := fun {b cs} hc => by
  unfold boxCells at hc; split at hc
  ·rename_i y hy; rcases bget hy with ⟨k, x, e, hx, rfl, hat⟩ | ⟨e, hx⟩
   ·rw [rnB_cs _ hat] at hc
    cases hxc : x.cs? with
    | none => rw [hxc] at hc; cases hc
    | some ds =>
     rw [hxc] at hc; simp only [Option.map_some, Option.some.injEq] at hc; exact .inl ⟨k, ds, e, by simp only [boxCells, hx, hxc], hc.symm, atB_cells hat hxc⟩
   ·exact .inr ⟨e, by simp only [boxCells, hx, hc]⟩
  ·cases hc
 have bloops : ∀ {b : Nat} {x : LB}, boxLoop (back is cur bs') b = some x -> (∃ k, srcOf is N b = some k ∧ boxLoop bs' k = some x ∧ x.n = 0 ∧ ∀ M : Hp, x.M.le M) ∨ (srcOf is N b = none ∧ boxLoop cur b = some x) := fun {b x} hc => by
  unfold boxLoop at hc; split at hc
  ·rename_i y hy; rcases bget hy with ⟨k, z, e, hz, rfl, hat⟩ | ⟨e, hz⟩
   ·rw [rnB_lb] at hc; exact .inl ⟨k, e, by simp only [boxLoop, hz, hc], atB_lb hat hc⟩
   ·exact .inr ⟨e, by simp only [boxLoop, hz, hc]⟩
  ·cases hc
 have toN : ∀ {x : AV} {v : Value}, RV G'.M G'.σ bs'.length x v -> x.atp (fun b => decide (b < bs'.length)) = true -> RV G2.M G2.σ (back is cur bs').length (x.rn (pie is N)) v := fun {x v} hx hp => by
  rw [hM2]; exact hx.rn (fun b hb hlt => hpie b hlt) hp
 have keep : ∀ {x : AV} {v : Value}, RV G.M G.σ cur.length x v -> RV G2.M G2.σ (back is cur bs').length x v := fun {x v} hx => by
  rw [hM2]; exact hx.mono hfr.le (by rw [hblen, hN]; omega) (fun b hb => hσN b (by rw [hN]; exact hb))
 have hat2 : ∀ {p : Pl} {x : AV}, (⟨[(0, r.rn (pie is N))], back is cur bs', N⟩ : St).at p = some x -> (p = .sl 0 ∧ x = r.rn (pie is N)) ∨ (∃ b j k y, p = .bx b j ∧ srcOf is N b = some k ∧ (⟨[(0, r)], bs', (cut is cur is).length⟩ : St).at (.bx k j) = some y ∧ x = y.rn (pie is N) ∧ y.atp (fun b => decide (b < bs'.length)) = true) ∨ (∃ b j, p = .bx b j ∧ srcOf is N b = none ∧ (⟨[], cur, lo⟩ : St).at (.bx b j) = some x) := fun {p x} hp => by
  cases p with
  | sl t =>
   simp only [St.at, envGet] at hp; split at hp
   ·rename_i hb; have := Nat.eq_of_beq_eq_true hb; subst this; cases hp; exact .inl ⟨rfl, rfl⟩
   ·cases hp
  | bx b j =>
   simp only [St.at] at hp
   cases hb : boxCells (back is cur bs') b with
   | none => rw [hb] at hp; cases hp
   | some cs =>
    rw [hb] at hp; simp only [Option.bind_some] at hp; rcases bcells hb with ⟨k, ds, e, hk, rfl, hat⟩ | ⟨e, hk⟩
    ·rw [List.getElem?_map] at hp
     cases hj : ds[j]? with
     | none => rw [hj] at hp; cases hp
     | some y =>
      rw [hj] at hp; simp only [Option.map_some, Option.some.injEq] at hp; exact .inr (.inl ⟨b, j, k, y, rfl, e, by simp only [St.at, hk, Option.bind_some, hj], hp.symm, hat y (List.mem_of_getElem? hj)⟩)
    ·exact .inr (.inr ⟨b, j, rfl, e, by simp only [St.at, hk, Option.bind_some, hp]⟩)
 have va1 : ∀ {b k : Nat} (j : Nat), srcOf is N b = some k -> valAt G2.σ ⟨#[v], []⟩ w' (.bx b j) = valAt G'.σ ⟨#[v], []⟩ w' (.bx k j) := fun {b k} j e => by simp only [valAt, σ1 e]
 have va2 : ∀ {b : Nat} (j : Nat) {x : AV}, srcOf is N b = none -> (⟨[], cur, lo⟩ : St).at (.bx b j) = some x -> valAt G2.σ ⟨#[v], []⟩ w' (.bx b j) = valAt G.σ a0 w (.bx b j) := fun {b} j {x} e hx => by
  simp only [St.at] at hx
  cases hb : boxCells cur b with
  | none => rw [hb] at hx; cases hx
  | some cs =>
   simp only [valAt, σ2 e]; rw [cell_heap (hfr.heap _ (hpre.blt hb) (no1 (src0 e).1 hb))]
 have newB : ∀ {q : Pl} {B : Nat}, G'.cl q = some B -> FPof Gc (cut is cur is) B ∨ w.heap.size ≤ B := fun {q B} hq => (h'.cllt q B hq).2
 have far3 : ∀ {b j B : Nat} {q : Pl}, srcOf is N b = none -> G.cl (.bx b j) = some B -> G'.cl q = some B -> False := fun {b j B q} e h1 h2 => by
  rcases newB h2 with h3 | h3
  ·exact no3 (src0 e).1 h1 h3
  ·have := (hpre.cllt _ B h1).1; omega
 have hat0 : (⟨[(0, r)], bs', (cut is cur is).length⟩ : St).at (.sl 0) = some r := rfl
 have clOf : ∀ {p : Pl} {B : Nat}, G2.cl p = some B -> (∃ q, G'.cl q = some B ∧ ((p = .sl 0 ∧ q = .sl 0) ∨ ∃ b j k, p = .bx b j ∧ srcOf is N b = some k ∧ q = .bx k j)) ∨ ∃ b j, p = .bx b j ∧ srcOf is N b = none ∧ G.cl (.bx b j) = some B := fun {p B} hp => by
  cases p with
  | sl t =>
   have := clS hp; subst this; rw [cl0] at hp
   exact .inl ⟨.sl 0, hp, .inl ⟨rfl, rfl⟩⟩
  | bx b j =>
   cases e : srcOf is N b with
   | some k => rw [cl1 j e] at hp; exact .inl ⟨_, hp, .inr ⟨b, j, k, rfl, e, rfl⟩⟩
   | none => rw [cl2 j e] at hp; exact .inr ⟨b, j, rfl, e, hp⟩
 refine ⟨v, r.rn (pie is N), back is cur bs', G2, rfl, ⟨r, bs', hq, by rw [hN], rfl⟩, ?_⟩
 refine ⟨?_, by rw [hM2]; exact h'.ok, rfl, fun p x hp => ?_, fun b j x hp => ?_, fun b cs hb => ?_, fun b cs hb => ?_, fun b b' cs cs' hb hb' e => ?_, fun p z l hp => ?_, fun p q B hp hq => ?_, fun p B hB b cs hb => ?_, fun p B hB => ?_, hN.symm ▸ rfl, by show cur.length ≤ _; rw [hblen, hN]; omega, fun b hb => hσN b (by rw [hN]; exact hb), ?_⟩
 ·rw [hM2]; exact ⟨hfr.os, hfr.tape, hfr.output, hfr.size, hfr.le, fun B hB hn => hfr.heap B hB (fun e => hn (toG B e)), fun B hB hn => hfr.mem B hB (fun e => hn (toG B e)), hfr.kn⟩
 ·rw [← hN] at hp; rcases hat2 hp with ⟨rfl, rfl⟩ | ⟨b, j, k, y, rfl, e, hy, rfl, ha⟩ | ⟨b, j, rfl, e, hy⟩
  ·show RV G2.M G2.σ _ _ v; rw [rn_deown]; exact toN (h'.val _ _ hat0) (by rw [atp_deown]; exact hrat)
  ·show RV G2.M G2.σ _ _ (valAt G2.σ ⟨#[v], []⟩ w' (.bx b j)); rw [rn_deown, va1 j e]; exact toN (h'.val _ _ hy) (by rw [atp_deown]; exact ha)
  ·show RV G2.M G2.σ _ _ (valAt G2.σ ⟨#[v], []⟩ w' (.bx b j)); rw [va2 j e hy]; exact keep (hpre.val _ _ hy)
 ·rw [← hN] at hp; rcases hat2 hp with ⟨e, _⟩ | ⟨b', j', k, y, e0, e, hy, rfl, ha⟩ | ⟨b', j', e0, e, hy⟩
  ·cases e
  ·cases e0; rw [va1 j e]; exact h'.one _ _ _ hy
  ·cases e0; rw [va2 j e hy]; exact hpre.one _ _ _ hy
 ·rcases bcells hb with ⟨k, ds, e, hk, rfl, _⟩ | ⟨e, hk⟩
  ·rw [σ1 e, List.length_map]; exact h'.box k ds hk
  ·rw [σ2 e]; obtain ⟨vs, T, q1, q2⟩ := hpre.box b cs hk; exact ⟨vs, T, (hfr.heap _ (hpre.blt hk) (no1 (src0 e).1 hk)).trans q1, q2⟩
 ·rcases bcells hb with ⟨k, ds, e, hk, rfl, _⟩ | ⟨e, hk⟩
  ·rw [σ1 e, hM2]; obtain ⟨q1, q2⟩ := h'.bmem k ds hk; refine ⟨q1, ?_⟩; rcases q2 with q2 | q2
   ·exact .inl (toG _ q2)
   ·exact .inr q2
  ·rw [σ2 e, hM2]; exact ⟨fun o => (hfr.mem _ (hpre.blt hk) (no1 (src0 e).1 hk) o).trans ((hpre.bmem b cs hk).1 o), .inl (.inl ⟨b, cs, hk, rfl⟩)⟩
 ·have mixed : ∀ {b b' : Nat} {k : Nat} {ds cs' : List AV}, srcOf is N b = some k -> boxCells bs' k = some ds -> srcOf is N b' = none -> boxCells cur b' = some cs' -> G2.σ b = G2.σ b' -> False := fun {b b' k ds cs'} e hk e' hk' he => by
   rw [σ1 e, σ2 e'] at he; rcases (h'.bmem k ds hk).2 with q | q
   ·rw [he] at q; exact no1 (src0 e').1 hk' q
   ·have q : w.heap.size ≤ G'.σ k := q; have := hpre.blt hk'; omega
  rcases bcells hb with ⟨k, ds, e1, hk, _, _⟩ | ⟨e1, hk⟩ <;> rcases bcells hb' with ⟨k', ds', e1', hk', _, _⟩ | ⟨e1', hk'⟩
  ·rw [σ1 e1, σ1 e1'] at e; have := h'.inj k k' ds ds' hk hk' e; subst this; exact srcI e1 e1'
  ·exact (mixed e1 hk e1' hk' e).elim
  ·exact (mixed e1' hk' e1 hk e.symm).elim
  ·rw [σ2 e1, σ2 e1'] at e; exact hpre.inj b b' cs cs' hk hk' e
 ·rw [← hN] at hp; rcases hat2 hp with ⟨rfl, hr⟩ | ⟨b, j, k, y, rfl, e, hy, hyr, ha⟩ | ⟨b, j, rfl, e, hy⟩
  ·have hr' := rn_own hr.symm; obtain ⟨ad, kk, q1, q2, q3⟩ := h'.own _ _ _ (hat0.trans (by rw [hr']))
   refine ⟨ad, kk, q1, q2, ?_⟩; rcases q3 with q3 | ⟨B, hB, q4, q5⟩
   ·exact .inl q3
   ·refine .inr ⟨B, by rw [cl0]; exact hB, q4, q5.lt, q5.cells, by rw [hM2]; exact q5.free, ?_⟩
    rcases q5.mine with q | q
    ·exact .inl (toG _ q)
    ·exact .inr q
  ·have hy' := rn_own hyr.symm; subst hy'; obtain ⟨ad, kk, q1, q2, q3⟩ := h'.own _ _ _ hy; refine ⟨ad, kk, by rw [va1 j e]; exact q1, q2, ?_⟩
   rcases q3 with q3 | ⟨B, hB, q4, q5⟩
   ·exact .inl q3
   ·refine .inr ⟨B, by rw [cl1 j e]; exact hB, q4, q5.lt, q5.cells, by rw [hM2]; exact q5.free, ?_⟩
    rcases q5.mine with q | q
    ·exact .inl (toG _ q)
    ·exact .inr q
  ·obtain ⟨ad, kk, q1, q2, q3⟩ := hpre.own _ _ _ hy; refine ⟨ad, kk, by rw [va2 j e hy]; exact q1, q2, ?_⟩
   rcases q3 with q3 | ⟨B, hB, q4, q5⟩
   ·exact .inl q3
   ·have hlt := (hpre.cllt _ B hB).1; have hn := no3 (src0 e).1 hB; obtain ⟨vs, T, q6, q7⟩ := q5.cells; exact .inr ⟨B, by rw [cl2 j e]; exact hB, q4, q5.lt, ⟨vs, T, (hfr.heap B hlt hn).trans q6, q7⟩, fun o ho => by rw [hM2]; exact (hfr.mem B hlt hn o).trans (q5.free o ho), .inl (.inr (.inl ⟨b, j, hB⟩))⟩
 ·rcases clOf hp with ⟨q1, hq1, h1⟩ | ⟨b, j, rfl, e, h1⟩ <;> rcases clOf hq with ⟨q2, hq2, h2⟩ | ⟨b', j', rfl, e', h2⟩
  ·have := h'.clinj q1 q2 B hq1 hq2; subst this; rcases h1 with ⟨rfl, rfl⟩ | ⟨b, j, k, rfl, e, rfl⟩ <;> rcases h2 with ⟨rfl, e2⟩ | ⟨b', j', k', rfl, e', e2⟩
   ·rfl
   ·cases e2
   ·cases e2
   ·cases e2; have := srcI e e'; subst this; rfl
  ·exact (far3 e' h2 hq1).elim
  ·exact (far3 e h1 hq2).elim
  ·exact hpre.clinj _ _ B h1 h2
 ·intro he; rcases clOf hB with ⟨q1, hq1, _⟩ | ⟨b', j', rfl, e', h1⟩ <;> rcases bcells hb with ⟨k, ds, e1, hk, _, _⟩ | ⟨e1, hk⟩
  ·rw [σ1 e1] at he; exact h'.clbox q1 B hq1 k ds hk he
  ·rw [σ2 e1] at he; rcases newB hq1 with q | q
   ·rw [← he] at q; exact no1 (src0 e1).1 hk q
   ·have := hpre.blt hk; have he' : G.σ b = B := he; have this' : G.σ b < w.heap.size := this; omega
  ·rw [σ1 e1] at he; rcases (h'.bmem k ds hk).2 with q | q
   ·rw [he] at q; exact no3 (src0 e').1 h1 q
   ·have q : w.heap.size ≤ G'.σ k := q; have := (hpre.cllt _ B h1).1; have he' : G'.σ k = B := he; omega
  ·rw [σ2 e1] at he; exact hpre.clbox _ B h1 b cs hk he
 ·rcases clOf hB with ⟨q1, hq1, _⟩ | ⟨b', j', rfl, e', h1⟩
  ·obtain ⟨q2, q3⟩ := h'.cllt q1 B hq1; refine ⟨q2, ?_⟩; rcases q3 with q | q
   ·exact .inl (toG _ q)
   ·exact .inr q
  ·exact ⟨Nat.lt_of_lt_of_le (hpre.cllt _ B h1).1 hwsz, .inl (.inr (.inl ⟨b', j', h1⟩))⟩
 ·refine ⟨fun B o hs => ?_, fun b x hb => ?_, fun b b' x x' hb hb' e => ?_, ⟨[], rfl, .nil⟩, fun b x hb j B o hj => by
   rcases bloops hb with ⟨k, e1, hk, _, _⟩ | ⟨e1, hk⟩
   ·obtain ⟨q1, q2, q3⟩ := h'.sp.rows k x hk j B o hj; exact ⟨q1, by rw [cl1 j e1]; exact q2, by rw [hM2]; exact q3⟩
   ·obtain ⟨q1, q2, q3⟩ := hpre.sp.rows b x hk j B o hj; have hn := no3 (src0 e1).1 q2; have hlt := (hpre.cllt _ B q2).1; exact ⟨(hfr.heap B hlt hn).trans q1, by rw [cl2 j e1]; exact q2, by rw [hM2]; exact fun k => (hfr.mem B hlt hn k).trans (q3 k)⟩⟩
  ·rcases hs with ⟨b, x, hb, e, ho⟩ | ⟨hmem, _⟩
   ·rcases bloops hb with ⟨k, e1, hk, _, _⟩ | ⟨e1, hk⟩
    ·rw [σ1 e1] at e; obtain ⟨q1, q2, q3⟩ := h'.sp.ob B o (.inl ⟨k, x, hk, e, ho⟩); refine ⟨q1, fun p hp => ?_, ?_⟩
     ·rcases clOf hp with ⟨q, hq, _⟩ | ⟨b', j', _, e', h1⟩
      ·exact q2 q hq
      ·rcases q3 with q | q
       ·exact no3 (src0 e').1 h1 q
       ·have q : w.heap.size ≤ B := q; have := (hpre.cllt _ B h1).1; omega
     ·rcases q3 with q | q
      ·exact .inl (toG _ q)
      ·exact .inr q
    ·rw [σ2 e1] at e; obtain ⟨q1, q2, _⟩ := hpre.sp.ob B o (.inl ⟨b, x, hk, e, ho⟩); have hlt := (Array.getElem?_eq_some_iff.1 q1).1; have hn := no2 (src0 e1).1 hk; rw [e] at hn; refine ⟨(hfr.heap B hlt hn).trans q1, fun p hp => ?_, .inl (.inr (.inr ⟨b, x, hk, e⟩))⟩; rcases clOf hp with ⟨q, hq, _⟩ | ⟨b', j', _, e', h1⟩
     ·rcases newB hq with q | q
      ·exact hn q
      ·omega
     ·exact q2 _ h1
   ·cases hmem
  ·rcases bloops hb with ⟨k, e1, hk, h0, hM⟩ | ⟨e1, hk⟩
   ·exact ⟨hM _, by omega, fun c hc => by omega⟩
   ·obtain ⟨q1, q2, q3⟩ := hpre.sp.base b x hk; refine ⟨by rw [hM2]; exact Hp.le_trans q1 hfr.le, q2, fun c hc => ?_⟩
    have := (src0 e1).2; rw [hσN c (by omega)]
    exact q3 c hc
  ·have mixed : ∀ {b b' : Nat} {k : Nat} {x x' : LB}, srcOf is N b = some k -> boxLoop bs' k = some x -> srcOf is N b' = none -> boxLoop cur b' = some x' -> G2.σ b = G2.σ b' -> False := fun {b b' k x x'} e hk e' hk' he => by
    rw [σ1 e, σ2 e'] at he; have q0 := (Array.getElem?_eq_some_iff.1 (hpre.sp.ob _ _ (.inl ⟨b', x', hk', rfl, rfl⟩)).1).1; rcases (h'.sp.ob _ _ (.inl ⟨k, x, hk, rfl, rfl⟩)).2.2 with q | q
    ·rw [he] at q; exact no2 (src0 e').1 hk' q
    ·have q : w.heap.size ≤ G'.σ k := q; omega
   rcases bloops hb with ⟨k, e1, hk, _, _⟩ | ⟨e1, hk⟩ <;> rcases bloops hb' with ⟨k', e1', hk', _, _⟩ | ⟨e1', hk'⟩
   ·rw [σ1 e1, σ1 e1'] at e; have := h'.sp.inj k k' x x' hk hk' e; subst this; exact srcI e1 e1'
   ·exact (mixed e1 hk e1' hk' e).elim
   ·exact (mixed e1' hk' e1 hk e.symm).elim
   ·rw [σ2 e1, σ2 e1'] at e; exact hpre.sp.inj b b' x x' hk hk' e
end Go.AM
namespace Go.AM
open Go.CK Go.RowKit
theorem Weak.toRowAt (s : St) (q : Pl) (h0 : s.at q = some (.sl .full [])) (h1 : (⟨s.env, s.bs ++ [.row []], s.lo⟩ : St).at q = some (.sl .full [])) : Weak s ((⟨s.env, s.bs ++ [.row []], s.lo⟩ : St).upd q (.bsl s.bs.length 0 0)) := fun E G a w hs => by
 have h2 := hs.rowNil; have hv := h2.val _ _ h1; simp only [AV.deown] at hv; refine ⟨G, h2.upd (q := q) h1 ?_⟩; obtain ⟨ad, kk, B, off, sz', e1, _, _, _, e2, _⟩ := hv.inv_sl; have := e2 rfl; subst this; rw [e1]; exact .bsl _ _ _ _ (by simp) (Nat.le_refl _) (Nat.zero_le _) (fun h => absurd rfl h)
theorem EndN.toRowAt {s t : St} (q : Pl) (h0 : s.at q = some (.sl .full [])) (h1 : (⟨s.env, s.bs ++ [.row []], s.lo⟩ : St).at q = some (.sl .full [])) (h : EndN ((⟨s.env, s.bs ++ [.row []], s.lo⟩ : St).upd q (.bsl s.bs.length 0 0)) t) : EndN s t := ⟨(Weak.toRowAt s q h0 h1).trans h.out⟩
end Go.AM
