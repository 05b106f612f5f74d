/-
  Texts of this claim joined (wip/gen/bundle.py), those declarations only that are needed: AmO AmM. By an AI agent.
-/
import Derived.Test.YtamhnlajkncccaaGreatBab
import Derived.CallsIn
set_option linter.unusedSimpArgs false
set_option linter.unusedVariables false
namespace Go.AM
open Go.CK Go.RowKit

def F0 (rd : Option Nat) : Fence := { Fence.wide with round := rd }

inductive Opd where
  | t (k : Nat)
  | c (x : AV)
deriving Inhabited

def avOf1 : Value → Option AV
  | .bool b => some (.bool b)
  | .int k n => some (.int k n)
  | .string s => if s.size ≤ lim then some (.str s) else none
  | .pointer none => some .nptr
  | .slice none 0 0 => some (.sl .full [])
  | .map none => some .nmp
  | .nilFunc => some .nfn
  | .nilIface => some .nifc
  | _ => none
def avsOf : List Value → Option (List AV)
  | [] => some []
  | v :: vs => match avOf1 v, avsOf vs with
    | some x, some xs => some (x :: xs)
    | _, _ => none
def avOf : Value → Option AV
  | .agg cs => (avsOf cs.toList).map .agg
  | v => avOf1 v

theorem avOf1_fv {M : Hp} {v : Value} {x : AV} (h : avOf1 v = some x) : FV M x v ∧ v.oneCell' = true := by
  unfold avOf1 at h
  split at h <;> first | (cases h; done) | skip
  · cases h; exact ⟨.bool _, rfl⟩
  · cases h; exact ⟨.int _ _, rfl⟩
  · split at h
    · rename_i hs; cases h; exact ⟨.str _ hs, rfl⟩
    · cases h
  · cases h; exact ⟨.nptr, rfl⟩
  · cases h; exact ⟨.sl .full [] none 0 0 0 0 (by simp) (Nat.le_refl _) (by simp) (fun _ => rfl) (by simp) (fun i h => by cases h) (fun i h => by cases h) (fun i h => by cases h), rfl⟩
  · cases h; exact ⟨.nmp, rfl⟩
  · cases h; exact ⟨.nfn, rfl⟩
  · cases h; exact ⟨.nifc, rfl⟩

theorem avsOf_fv {M : Hp} : ∀ {vs : List Value} {xs : List AV}, avsOf vs = some xs → vs.length = xs.length ∧ (∀ v ∈ vs, v.oneCell' = true) ∧ ∀ j (h : j < xs.length) v, vs[j]? = some v → FV M xs[j] v
  | [], xs, h => by
    cases h
    exact ⟨rfl, (fun v hv => by cases hv), (fun j hj => by cases hj)⟩
  | v :: vs, xs, h => by
    simp only [avsOf] at h
    split at h
    · rename_i x xs' h1 h2
      cases h
      obtain ⟨a1, a2⟩ := avOf1_fv (M := M) h1
      obtain ⟨b1, b2, b3⟩ := avsOf_fv (M := M) h2
      refine ⟨by simp [b1], fun u hu => ?_, fun j hj u hu => ?_⟩
      · rcases List.mem_cons.1 hu with rfl | hu
        · exact a2
        · exact b2 u hu
      · cases j with
        | zero => simp at hu; subst hu; exact a1
        | succ j => simp at hu; simp at hj; exact b3 j hj u hu
    · cases h

theorem avOf_fv {M : Hp} {v : Value} {x : AV} (h : avOf v = some x) : FV M x v := by
  unfold avOf at h
  split at h
  · rename_i cs
    cases hc : avsOf cs.toList with
    | none => rw [hc] at h; cases h
    | some xs =>
      rw [hc] at h; cases h
      obtain ⟨h1, h2, h3⟩ := avsOf_fv (M := M) hc
      have := FV.agg xs cs.toList h1 h2 h3
      simpa using this
  · exact (avOf1_fv h).1

def opd : Operand → Option Opd
  | .tmp t => some (.t t)
  | .const v => (avOf v).map .c
  | .func f => some (.c (.fn (.func f) [] []))
  | .global _ => none

def St.ev (s : St) : Opd → AV
  | .t k => (s.get k).deown
  | .c x => x

theorem St.get_at {s : St} {k : Nat} : s.get k = (s.at (.sl k)).getD .top := by
  simp only [St.get, St.at]
  cases envGet s.env k <;> rfl

section
variable {E : Entry} {G : Gh} {s : St} {a : Act} {w : World} {P : Program}

theorem RS.getv (h : RS E G s a w) (k : Nat) : RV G.M G.σ s.bs.length (s.get k).deown (a.tmps.getD k undef) := by
  rw [St.get_at]
  cases hk : s.at (.sl k) with
  | none => exact .flat (.top _)
  | some x => exact h.val (.sl k) x hk

theorem RS.ev (h : RS E G s a w) {o : Operand} {r : Opd} (ho : opd o = some r) : RV G.M G.σ s.bs.length (s.ev r) (a.eval o) := by
  cases o with
  | tmp t => cases ho; exact h.getv t
  | const v =>
    simp only [opd] at ho
    cases hv : avOf v with
    | none => rw [hv] at ho; cases ho
    | some x => rw [hv] at ho; cases ho; exact .flat (avOf_fv hv)
  | func f => cases ho; exact .fn _ [] [] [] [] rfl rfl (fun j h => by cases h) (fun j h => by cases h)
  | global g => cases ho
end

def opds : List Operand → Option (List Opd)
  | [] => some []
  | o :: os => match opd o, opds os with
    | some r, some rs => some (r :: rs)
    | _, _ => none
theorem opds_get : ∀ {os : List Operand} {rs : List Opd}, opds os = some rs → os.length = rs.length ∧ ∀ (i : Nat) (o : Operand), os[i]? = some o → ∃ r, rs[i]? = some r ∧ opd o = some r
  | [], rs, h => by cases h; exact ⟨rfl, fun i o ho => by cases ho⟩
  | o :: os, rs, h => by
    simp only [opds] at h
    split at h
    · rename_i r rs' h1 h2
      cases h
      obtain ⟨h3, h4⟩ := opds_get h2
      refine ⟨by simp [h3], fun i o' ho => ?_⟩
      cases i with
      | zero => simp at ho; subst ho; exact ⟨r, rfl, h1⟩
      | succ i => simp at ho; simpa using h4 i o' ho
    · cases h

/-- What it means that the model's operation does, from state s, what leads to K. -/
def OpS (P : Program) (o : Oper) (s : St) (K : St → Prop) : Prop :=
  ∀ (E : Entry) (G : Gh) (a : Act) (w : World) (rd : Option Nat) (n : Nat) (next : Act → World → Prop) (Q : Exit → Act → World → Prop), RS E G s a w → (∀ d, o.dst = some d → d < E.nt) →
    (∀ s' G' a' w', K s' → RS E G' s' a' w' → a'.defers = a.defers → next a' w') → o.wpIn (F0 rd) n P a w next Q

theorem put_defers (a : Act) (d : Option Tmp) (v : Value) : (a.put d v).defers = a.defers := by cases d <;> rfl

/-- an operation that has a value -/
theorem OpS.val {P : Program} {o : Oper} {s : St} {K : St → Prop} (x : AV) (s' : St) (hd : ∀ c, o.op ≠ .defer c) (hK : K (s'.put o.dst x))
    (h : ∀ E G a w, RS E G s a w → ∃ v G' w', (execOp a.eval o).run P w = .ok (.value v) w' ∧ RS E G' s' a w' ∧ RV G'.M G'.σ s'.bs.length x v) : OpS P o s K := by
  intro E G a w rd n next Q hs hdst hnext
  obtain ⟨v, G', w', h1, h2, h3⟩ := h E G a w hs
  refine ⟨fun _ _ => trivial, ?_⟩
  rw [Oper.semAt_eq _ _ _ hd, h1]
  exact hnext _ G' _ w' hK (h2.put' hdst h3) (put_defers _ _ _)

/-- the same, memory left as it is -/
theorem OpS.pure {P : Program} {o : Oper} {s : St} {K : St → Prop} (x : AV) (hd : ∀ c, o.op ≠ .defer c) (hK : K (s.put o.dst x))
    (h : ∀ E G a w, RS E G s a w → ∃ v, (execOp a.eval o).run P w = .ok (.value v) w ∧ RV G.M G.σ s.bs.length x v) : OpS P o s K :=
  OpS.val x s hd hK fun E G a w hs => let ⟨v, h1, h2⟩ := h E G a w hs; ⟨v, G, w, h1, hs, h2⟩

theorem OpS.skip {P : Program} {o : Oper} {s : St} {K : St → Prop} (s' : St) (hd : ∀ c, o.op ≠ .defer c) (hn : o.dst = none) (hK : K s')
    (h : ∀ E G a w, RS E G s a w → ∃ G' w', (execOp a.eval o).run P w = .ok .skip w' ∧ RS E G' s' a w') : OpS P o s K := by
  intro E G a w rd n next Q hs hdst hnext
  obtain ⟨G', w', h1, h2⟩ := h E G a w hs
  refine ⟨fun _ _ => trivial, ?_⟩
  rw [Oper.semAt_eq _ _ _ hd, h1]
  show next (a.put o.dst undef) w'
  rw [hn]
  exact hnext s' G' a w' hK h2 rfl

def req (b : Bool) (K : Prop) : Prop := match b with
  | true => K
  | false => False
theorem req_iff {b : Bool} {K : Prop} : req b K ↔ b = true ∧ K := by cases b <;> simp [req]

def binK (op : BinOp) (a b : AV) (K : AV → Prop) : Prop :=
  match a, b with
  | .int k x, .int k' y => req (decide (k = k')) (match op with
    | .add => K (.int k (k.wrap (x + y)))
    | .sub => K (.int k (k.wrap (x - y)))
    | .mul => K (.int k (k.wrap (x * y)))
    | .quo => y ≠ 0 ∧ K (.int k (k.wrap (x.tdiv y)))
    | .rem => y ≠ 0 ∧ K (.int k (x.tmod y))
    | .eql => K (.bool (decide (x = y)))
    | .neq => K (.bool (!decide (x = y)))
    | .lss => K (.bool (decide (x < y)))
    | .leq => K (.bool (decide (x ≤ y)))
    | .gtr => K (.bool (decide (y < x)))
    | .geq => K (.bool (decide (y ≤ x)))
    | _ => False)
  | .str x, .str y => match op with
    | .add => x.size + y.size ≤ lim ∧ K (.str (x ++ y))
    | .eql => K (.bool (decide (x = y)))
    | .neq => K (.bool (!decide (x = y)))
    | .lss => K (.bool (Op.bytesLess x.toList y.toList))
    | .leq => K (.bool (Op.bytesLess x.toList y.toList || decide (x = y)))
    | .gtr => K (.bool (!(Op.bytesLess x.toList y.toList || decide (x = y))))
    | .geq => K (.bool (!Op.bytesLess x.toList y.toList))
    | _ => False
  | _, _ => False

theorem bytes_inj {s t : ByteArray} : s.toList = t.toList ↔ s = t := by
  rw [ByteArray.toList_eq, ByteArray.toList_eq]
  exact ⟨fun h => ByteArray.ext (Array.toList_inj.mp h), fun h => by rw [h]⟩
theorem str_eq (x y : ByteArray) : (x.toList == y.toList) = decide (x = y) := by
  rw [Bool.eq_iff_iff]
  simp [bytes_inj]

theorem exec_binOp (P : Program) (ρ : Operand → Value) (o : Oper) {op : BinOp} {t u : TypeId} {x y : Operand} (ho : o.op = .binOp op t x y u) (w : World) (hx : ∀ cs, ρ x ≠ .agg cs) (hn : ρ x ≠ .nilIface) :
    (execOp ρ o).run P w = ((binOp op t (ρ x) (ρ y)).run P w).andThen fun v w' => .ok (.value v) w' := by
  have hg : (eqGuard op t x y (ρ x) (ρ y)).run P w = .ok () w := by
    clear ho
    cases op <;> first | rfl | (cases hv : ρ x <;> first | (exact absurd hv (hx _)) | (exact absurd hv hn) | (cases ρ y <;> rfl))
  unfold execOp
  simp only [ho, Sem.run_bind, hg, Result.andThen_ok, Sem.run_pure]

theorem binK_sound {P : Program} {s : St} {o : Oper} {op : BinOp} {t u : TypeId} {x y : Operand} (ho : o.op = .binOp op t x y u) {rx ry : Opd} (hx : opd x = some rx) (hy : opd y = some ry) {K : St → Prop}
    (h : binK op (s.ev rx) (s.ev ry) fun r => K (s.put o.dst r)) : OpS P o s K := by
  have hd : ∀ c, o.op ≠ .defer c := fun c e => by rw [ho] at e; cases e
  unfold binK at h
  split at h
  · rename_i k p k' q e1 e2
    obtain ⟨hk0, h2⟩ := req_iff.1 h
    have hk := of_decide_eq_true hk0
    clear h hk0
    subst hk
    have h := h2
    clear h2
    have hrun : ∀ E G a w, RS E G s a w → a.eval x = .int k p ∧ a.eval y = .int k q := fun E G a w hs =>
      ⟨by have := hs.ev hx; rw [e1] at this; exact this.inv_int, by have := hs.ev hy; rw [e2] at this; exact this.inv_int⟩
    have fin : ∀ r v, K (s.put o.dst r) → (∀ M, FV M r v) → (∀ w, (binOp op t (.int k p) (.int k q)).run P w = .ok v w) → OpS P o s K := fun r v hK hv hr =>
      OpS.pure r hd hK fun E G a w hs => by
        obtain ⟨h1, h2⟩ := hrun E G a w hs
        refine ⟨v, ?_, .flat (hv _)⟩
        rw [exec_binOp P _ o ho w (by rw [h1]; simp) (by rw [h1]; simp), h1, h2, hr w]; rfl
    cases op
    case add => exact fin _ _ h (fun _ => .int _ _) fun w => by simp [binOp, Op.intArith]
    case sub => exact fin _ _ h (fun _ => .int _ _) fun w => by simp [binOp, Op.intArith]
    case mul => exact fin _ _ h (fun _ => .int _ _) fun w => by simp [binOp, Op.intArith]
    case quo => exact fin _ _ h.2 (fun _ => .int _ _) fun w => by simp [binOp, Op.intDiv, h.1]
    case rem => exact fin _ _ h.2 (fun _ => .int _ _) fun w => by simp [binOp, Op.intDiv, h.1]
    case eql => exact fin _ _ h (fun _ => .bool _) fun w => by simp [binOp, Op.intCmp]; rfl
    case neq => exact fin _ _ h (fun _ => .bool _) fun w => by simp [binOp, Op.intCmp]; rfl
    case lss => exact fin _ _ h (fun _ => .bool _) fun w => by simp [binOp, Op.intCmp]
    case leq => exact fin _ _ h (fun _ => .bool _) fun w => by simp [binOp, Op.intCmp]
    case gtr => exact fin _ _ h (fun _ => .bool _) fun w => by simp [binOp, Op.intCmp]
    case geq => exact fin _ _ h (fun _ => .bool _) fun w => by simp [binOp, Op.intCmp]
    all_goals exact h.elim
  · rename_i p q e1 e2
    have hrun : ∀ E G a w, RS E G s a w → a.eval x = .string p ∧ a.eval y = .string q := fun E G a w hs =>
      ⟨by have := hs.ev hx; rw [e1] at this; exact this.inv_str.1, by have := hs.ev hy; rw [e2] at this; exact this.inv_str.1⟩
    have fin : ∀ r v, K (s.put o.dst r) → (∀ M, FV M r v) → (∀ w, (binOp op t (.string p) (.string q)).run P w = .ok v w) → OpS P o s K := fun r v hK hv hr =>
      OpS.pure r hd hK fun E G a w hs => by
        obtain ⟨h1, h2⟩ := hrun E G a w hs
        refine ⟨v, ?_, .flat (hv _)⟩
        rw [exec_binOp P _ o ho w (by rw [h1]; simp) (by rw [h1]; simp), h1, h2, hr w]; rfl
    cases op
    case add =>
      refine fin _ _ h.2 (fun _ => .str _ (by have h1 := h.1; rw [ByteArray.size_append]; exact h1)) fun w => ?_
      have h1 := h.1
      have : ¬ ((p.size + q.size : Nat) : Int) > IntKind.i64.max := by ((try unfold glim at h1);(try unfold lim at h1)); simp [IntKind.max, IntKind.signed, IntKind.bits]; omega
      simp only [binOp, Op.stringOp, if_neg this, Sem.run_pure]
    case eql => exact fin _ _ h (fun _ => .bool _) fun w => by simp [binOp, Op.stringOp, str_eq]
    case neq => exact fin _ _ h (fun _ => .bool _) fun w => by simp [binOp, Op.stringOp, str_eq]
    case lss => exact fin _ _ h (fun _ => .bool _) fun w => by simp [binOp, Op.stringOp]
    case leq => exact fin _ _ h (fun _ => .bool _) fun w => by simp [binOp, Op.stringOp, str_eq]
    case gtr => exact fin _ _ h (fun _ => .bool _) fun w => by simp [binOp, Op.stringOp, str_eq]
    case geq => exact fin _ _ h (fun _ => .bool _) fun w => by simp [binOp, Op.stringOp]
    all_goals exact h.elim
  · exact h.elim
end Go.AM

namespace Go.AM
open Go.CK Go.RowKit

theorem addr_add (B off n : Nat) : (⟨B, off, none⟩ : Addr).add n = ⟨B, off + n, none⟩ := by
  unfold Addr.add; split <;> simp_all

def dAgg : TypeDesc → Bool
  | .struct _ | .array _ _ => true
  | _ => false
def cellOk : AV → Bool
  | .top | .tup _ => false
  | _ => true

section
variable {E : Entry} {G : Gh} {s : St} {a : Act} {w : World} {P : Program} {M : Hp} {σ : Nat → Nat} {n : Nat}

theorem FV.one {x : AV} {v : Value} (h : FV M x v) (ht : cellOk x = true) (ha : x.isAgg = false) : v.oneCell' = true := by
  cases h <;> first | rfl | (simp [cellOk] at ht; done) | (simp [AV.isAgg] at ha; done)
theorem RV.one {x : AV} {v : Value} (h : RV M σ n x v) (ht : cellOk x = true) (ha : x.isAgg = false) : v.oneCell' = true := by
  cases h with
  | flat h => exact h.one ht ha
  | agg => simp [AV.isAgg] at ha
  | tup => simp [cellOk] at ht
  | _ => rfl
theorem FV.scalar {x : AV} {v : Value} (h : FV M x v) (ht : cellOk x = true) (ha : x.isAgg = false) : v.cells = #[v] := by
  cases h <;> first | rfl | (simp [cellOk] at ht; done) | (simp [AV.isAgg] at ha; done)
theorem RV.scalar {x : AV} {v : Value} (h : RV M σ n x v) (ht : cellOk x = true) (ha : x.isAgg = false) : v.cells = #[v] := by
  cases h with
  | flat h => exact h.scalar ht ha
  | agg => simp [AV.isAgg] at ha
  | tup => simp [cellOk] at ht
  | _ => rfl

/-- a value's cells -/
theorem RV.cells {x : AV} {v : Value} (h : RV M σ n x v) (ht : cellOk x = true) :
    v.cells.toList.length = x.cells.length ∧ (∀ u ∈ v.cells.toList, u.oneCell' = true) ∧ ∀ j (hj : j < x.cells.length) u, v.cells.toList[j]? = some u → RV M σ n (x.cells[j]) u := by
  cases hx : x.isAgg with
  | false =>
    have hc : x.cells = [x] := by cases x <;> first | rfl | (simp [AV.isAgg] at hx)
    rw [h.scalar ht hx]
    have h1 := h.one ht hx
    refine ⟨by rw [hc]; rfl, fun u hu => by simp at hu; rw [hu]; exact h1, fun j hj u hu => ?_⟩
    rw [hc] at hj
    obtain rfl : j = 0 := by simpa using hj
    simp at hu; subst hu
    simp only [hc, List.getElem_cons_zero]; exact h
  | true =>
    cases x with
    | agg cs =>
      obtain ⟨vs, rfl, hl, h1, hv⟩ := h.inv_agg
      exact ⟨by simpa [Value.cells, AV.cells] using hl, by simpa [Value.cells] using h1, fun j hj u hu => hv j hj u (by simpa [Value.cells] using hu)⟩
    | _ => simp [AV.isAgg] at hx

/-- what lies behind a pointer, from it on -/
def St.rd (s : St) : AV → Option (List AV)
  | .ept cs => some cs
  | .ptr b off => match boxCells s.bs b with
    | some cs => some ((cs.drop off).map AV.deown)
    | none => none
  | .elp b i z off => match boxCells s.bs b with
    | some cs => some ((cs.drop (i * z + off)).map AV.deown)
    | none => none
  | _ => none

theorem RS.bval (h : RS E G s a w) {b : Nat} {cs : List AV} (hb : boxCells s.bs b = some cs) (j : Nat) (hj : j < cs.length) :
    ∃ u, w.cell? ⟨G.σ b, j, none⟩ = some u ∧ u.oneCell' = true ∧ RV G.M G.σ s.bs.length (cs[j]).deown u := by
  obtain ⟨vs, T, h1, h2⟩ := h.box b cs hb
  have hc : w.cell? ⟨G.σ b, j, none⟩ = some (vs[j]'(by omega)) := by
    simp only [World.cell?, h1]
    simp [show j < vs.size by omega]
  have hat : s.at (.bx b j) = some cs[j] := by simp [St.at, hb, hj]
  have hv := h.val (.bx b j) _ hat
  have h3 := h.one b j _ hat
  simp only [valAt, hc, Option.getD_some] at hv h3
  exact ⟨_, hc, h3, hv⟩

theorem RS.rd (h : RS E G s a w) {x : AV} {v : Value} (hx : RV G.M G.σ s.bs.length x v) {cs : List AV} (hr : s.rd x = some cs) :
    ∃ B off, v = .pointer (some ⟨B, off, none⟩) ∧ ∀ j (hj : j < cs.length), ∃ u, w.cell? ⟨B, off + j, none⟩ = some u ∧ u.oneCell' = true ∧ RV G.M G.σ s.bs.length cs[j] u := by
  cases x <;> first | (cases hr; done) | skip
  case ept ds =>
    cases hr
    obtain ⟨B, off, rfl, hc⟩ := hx.inv_ept
    refine ⟨B, off, rfl, fun j hj => ?_⟩
    obtain ⟨u, h1, h2, h3⟩ := hc j hj
    exact ⟨u, h.ok _ _ _ h1, h2, .flat h3⟩
  case ptr b off =>
    simp only [St.rd] at hr
    obtain ⟨rfl, hb⟩ := hx.inv_ptr
    cases hbc : boxCells s.bs b with
    | none => rw [hbc] at hr; cases hr
    | some ds =>
      rw [hbc] at hr; cases hr
      refine ⟨G.σ b, off, rfl, fun j hj => ?_⟩
      simp only [List.length_map, List.length_drop] at hj
      obtain ⟨u, h1, h2, h3⟩ := h.bval hbc (off + j) (by omega)
      refine ⟨u, h1, h2, ?_⟩
      rw [List.getElem_map, List.getElem_drop]; exact h3

  case elp b i z o =>
    simp only [St.rd] at hr
    obtain ⟨rfl, hb⟩ := hx.inv_elp
    cases hbc : boxCells s.bs b with
    | none => rw [hbc] at hr; cases hr
    | some ds =>
      rw [hbc] at hr; cases hr
      refine ⟨G.σ b, i * z + o, rfl, fun j hj => ?_⟩
      simp only [List.length_map, List.length_drop] at hj
      obtain ⟨u, h1, h2, h3⟩ := h.bval hbc (i * z + o + j) (by omega)
      refine ⟨u, h1, h2, ?_⟩
      rw [List.getElem_map, List.getElem_drop]; exact h3

/-- the cells as a list -/
def cellList (w : World) (B off n : Nat) : List Value := (List.range n).map fun j => (w.cell? ⟨B, off + j, none⟩).getD undef
theorem run_loadCells_there (P : Program) (w : World) (B off n : Nat) (h : ∀ j, j < n → ∃ u, w.cell? ⟨B, off + j, none⟩ = some u) :
    (loadCells ⟨B, off, none⟩ n).run P w = .ok (cellList w B off n).toArray w := by
  have := run_loadCells_list (P := P) w ⟨B, off, none⟩ (cellList w B off n) (fun j v hv => by
    rw [addr_add]
    have hj : j < n := by
      rcases Nat.lt_or_ge j n with h1 | h1
      · exact h1
      · rw [List.getElem?_eq_none (by simpa [cellList] using h1)] at hv; cases hv
    obtain ⟨u, hu⟩ := h j hj
    simp [cellList, hj, hu] at hv
    rw [hu, hv])
  simpa [cellList] using this

theorem run_isAgg' {t : TypeId} {b : Bool} {d : TypeDesc} (hu : P.underlying t = some d) (hd : dAgg d = b) (w : World) : (isAgg t).run P w = .ok b w := by
  unfold isAgg
  rw [Sem.run_bind, run_underlying hu w]
  cases d <;> subst hd <;> rfl

theorem run_sizeOf' {t : TypeId} {k : Nat} (h : (P.info? t).map (·.size) = some k) (w : World) : (sizeOf t).run P w = .ok k w := by
  cases hi : P.info? t with
  | none => rw [hi] at h; cases h
  | some i =>
    rw [hi] at h
    simp only [Option.map_some, Option.some.injEq] at h
    simp [sizeOf, typeInfo, hi, h]
end

def aggOf (P : Program) (t : TypeId) : Option Bool := (P.underlying t).map dAgg
def szOf (P : Program) (t : TypeId) : Option Nat := (P.info? t).map (·.size)
theorem aggOf_run {P : Program} {t : TypeId} {b : Bool} (h : aggOf P t = some b) (w : World) : (isAgg t).run P w = .ok b w := by
  unfold aggOf at h
  cases hu : P.underlying t with
  | none => rw [hu] at h; cases h
  | some d => rw [hu] at h; simp only [Option.map_some, Option.some.injEq] at h; exact run_isAgg' hu h w

def loadK (agg : Bool) (n : Nat) (cs : Option (List AV)) (K : AV → Prop) : Prop :=
  match cs with
  | some cs => match agg with
    | true => req (Nat.ble n cs.length) (K (.agg (cs.take n)))
    | false => match cs with
      | c :: _ => K c
      | [] => False
  | none => False

theorem load_sound {P : Program} {s : St} {o : Oper} {t : TypeId} {x : Operand} (ho : o.op = .load t x) {rx : Opd} (hx : opd x = some rx) {agg : Bool} {n : Nat} (ha : aggOf P t = some agg) (hn : agg = true → szOf P t = some n) {K : St → Prop}
    (h : loadK agg n (s.rd (s.ev rx)) fun r => K (s.put o.dst r)) : OpS P o s K := by
  have hd : ∀ c, o.op ≠ .defer c := fun c e => by rw [ho] at e; cases e
  unfold loadK at h
  split at h
  · rename_i cs hcs
    split at h
    · obtain ⟨h1, h2⟩ := req_iff.1 h
      have hle : n ≤ cs.length := Nat.le_of_ble_eq_true h1
      refine OpS.pure _ hd h2 fun E G a w hs => ?_
      obtain ⟨B, off, hv, hc⟩ := hs.rd (hs.ev hx) hcs
      have hr := run_loadCells_there P w B off n (fun j hj => let ⟨u, h, _⟩ := hc j (by omega); ⟨u, h⟩)
      refine ⟨.agg (cellList w B off n).toArray, ?_, ?_⟩
      · unfold execOp
        simp [ho, Instr.loadAt, hv, Instr.sureAddr, loadVar, aggOf_run ha, run_sizeOf' (hn rfl), hr]
      · refine .agg _ _ (by simp [cellList]; omega) (fun u hu => ?_) (fun j hj u hu => ?_)
        · simp only [cellList, List.mem_map, List.mem_range] at hu
          obtain ⟨j, hj, rfl⟩ := hu
          obtain ⟨u, h1, h2, _⟩ := hc j (by omega)
          rw [h1]; exact h2
        · simp only [List.length_take] at hj
          obtain ⟨u', h1, h2, h3⟩ := hc j (by omega)
          simp [cellList, show j < n by omega, h1] at hu
          subst hu
          rw [List.getElem_take]; exact h3
    · split at h
      · rename_i c rest
        refine OpS.pure _ hd h fun E G a w hs => ?_
        obtain ⟨B, off, hv, hc⟩ := hs.rd (hs.ev hx) hcs
        obtain ⟨u, h1, _, h3⟩ := hc 0 (by simp)
        rw [Nat.add_zero] at h1
        refine ⟨u, ?_, h3⟩
        unfold execOp
        simp [ho, Instr.loadAt, hv, Instr.sureAddr, loadVar, aggOf_run ha, h1]
      · exact h.elim
  · exact h.elim

theorem RS.newBoxG {E : Entry} {G : Gh} {s : St} {a : Act} {w : World} (h : RS E G s a w) (bx : Box) (cs : List AV) (hlb : bx.lb? = none) (hbx : ∀ ds, bx.cs? = some ds → ds = cs) (vs : List Value) (T : TypeId) (hl : cs.length ≤ vs.length) (h1 : ∀ v ∈ vs, v.oneCell' = true)
    (hv : ∀ j (hj : j < cs.length) v, vs[j]? = some v → RV G.M G.σ s.bs.length cs[j] v) :
    RS E { G with σ := fun b => if b = s.bs.length then w.heap.size else G.σ b } ⟨s.env, s.bs ++ [bx], s.lo⟩ a (w.alloc (.cells vs.toArray T)) := by
  have hg : RS E G s a (w.alloc (.cells vs.toArray T)) := h.grow (M' := G.M) ⟨rfl, rfl, rfl, by simp, Hp.le_refl _, fun B hB _ => Below.heap_alloc _ _ _ hB, fun _ _ _ _ => rfl⟩ (Hp.ext h.ok ((Ext.refl w).alloc _))
  have hsig : ∀ b, b < s.bs.length → (fun b => if b = s.bs.length then w.heap.size else G.σ b) b = G.σ b := fun b hb => by simp only; rw [if_neg (by omega)]
  have hlen : (s.bs ++ [bx]).length = s.bs.length + 1 := by simp
  have hnew : (w.alloc (.cells vs.toArray T)).heap[w.heap.size]? = some (.cells vs.toArray T (0, 0)) := heap_alloc_new w _
  have hold : ∀ b ds, boxCells (s.bs ++ [bx]) b = some ds → (b = s.bs.length ∧ ds = cs) ∨ (b < s.bs.length ∧ boxCells s.bs b = some ds) := fun b ds hb => by
    rw [boxCells_append] at hb
    by_cases e : b = s.bs.length
    · rw [if_pos e] at hb; exact .inl ⟨e, hbx _ hb⟩
    · rw [if_neg e] at hb; exact .inr ⟨boxCells_lt hb, hb⟩
  have hatold : ∀ p x, (⟨s.env, s.bs ++ [bx], s.lo⟩ : St).at p = some x → (∃ j, p = .bx s.bs.length j ∧ cs[j]? = some x) ∨ (s.at p = some x ∧ ∀ j, p ≠ .bx s.bs.length j) := fun p x hp => by
    cases p with
    | sl t => exact .inr ⟨hp, fun j e => by cases e⟩
    | bx b j =>
      simp only [St.at] at hp
      cases hb : boxCells (s.bs ++ [bx]) b with
      | none => rw [hb] at hp; cases hp
      | some ds =>
        rw [hb] at hp
        simp only [Option.bind_some] at hp
        rcases hold b ds hb with ⟨rfl, rfl⟩ | ⟨hlt, hb'⟩
        · exact .inl ⟨j, rfl, hp⟩
        · refine .inr ⟨by simp only [St.at, hb', Option.bind_some]; exact hp, fun j' e => ?_⟩
          cases e; omega
  have hvalold : ∀ p x, s.at p = some x → valAt (fun b => if b = s.bs.length then w.heap.size else G.σ b) a (w.alloc (.cells vs.toArray T)) p = valAt G.σ a (w.alloc (.cells vs.toArray T)) p := fun p x hp => by
    cases p with
    | sl t => rfl
    | bx b j =>
      simp only [St.at] at hp
      cases hb : boxCells s.bs b with
      | none => rw [hb] at hp; cases hp
      | some ds => simp only [valAt]; rw [if_neg (by have := boxCells_lt hb; omega)]
  have hvalnew : ∀ j x, cs[j]? = some x → ∃ v, vs[j]? = some v ∧ v.oneCell' = true ∧ RV G.M G.σ s.bs.length x v ∧ valAt (fun b => if b = s.bs.length then w.heap.size else G.σ b) a (w.alloc (.cells vs.toArray T)) (.bx s.bs.length j) = v := fun j x hj => by
    have hjl : j < cs.length := by
      rcases Nat.lt_or_ge j cs.length with h1 | h1
      · exact h1
      · rw [List.getElem?_eq_none h1] at hj; cases hj
    have hjv : vs[j]? = some (vs[j]'(by omega)) := List.getElem?_eq_getElem _
    rw [List.getElem?_eq_getElem hjl] at hj
    cases hj
    refine ⟨_, hjv, h1 _ (List.getElem_mem _), hv j hjl _ hjv, ?_⟩
    simp only [valAt, if_true, World.cell?, hnew]
    simp [show j < vs.length by omega]
  refine ⟨hg.fr, hg.ok, h.nt, fun p x hp => ?_, fun b j x hp => ?_, fun b ds hb => ?_, fun b ds hb => ?_, fun b b' ds ds' hb hb' e => ?_, fun p z l hp => ?_, h.clinj, fun p B hB b ds hb => ?_, hg.cllt, h.lo, by rw [hlen]; exact Nat.le_succ_of_le h.len, fun b hb => by simp only; rw [if_neg (by have := h.len; omega)]; exact h.sig b hb, hg.sp.step (Hp.le_refl _) (fun b hb => by simp only; rw [if_neg (by omega)]) (fun _ _ k => boxLoop_append hlb k) (fun _ _ k _ => k) (fun _ _ _ _ p k => ⟨p, k⟩) (fun _ k => k)⟩
  · simp only [hlen]
    rcases hatold p x hp with ⟨j, rfl, hj⟩ | ⟨hp', _⟩
    · obtain ⟨v, _, _, h3, h4⟩ := hvalnew j x hj
      rw [h4, h3.deown_of]
      exact h3.mono (Hp.le_refl _) (Nat.le_succ _) hsig
    · rw [hvalold p x hp']
      exact (hg.val p x hp').mono (Hp.le_refl _) (Nat.le_succ _) hsig
  · rcases hatold _ x hp with ⟨j', e, hj⟩ | ⟨hp', _⟩
    · cases e
      obtain ⟨v, _, h2, _, h4⟩ := hvalnew j x hj
      rw [h4]; exact h2
    · rw [hvalold _ x hp']; exact hg.one b j x hp'
  · rcases hold b ds hb with ⟨rfl, rfl⟩ | ⟨hlt, hb'⟩
    · exact ⟨vs.toArray, T, by simp only [if_true]; exact hnew, by simpa using hl⟩
    · simp only
      rw [if_neg (by omega)]; exact hg.box b ds hb'
  · rcases hold b ds hb with ⟨rfl, rfl⟩ | ⟨hlt, hb'⟩
    · simp only [if_true]
      refine ⟨fun o => ?_, .inr h.fr.size⟩
      cases hq : G.M w.heap.size o with
      | none => rfl
      | some v => exact absurd (Hp.lt h.ok hq) (by omega)
    · simp only
      rw [if_neg (by omega)]; exact hg.bmem b ds hb'
  · simp only at e
    rcases hold b ds hb with ⟨rfl, rfl⟩ | ⟨hlt, hb1⟩ <;> rcases hold b' ds' hb' with ⟨rfl, rfl⟩ | ⟨hlt', hb1'⟩
    · rfl
    · rw [if_pos rfl, if_neg (by omega)] at e
      exact absurd (h.blt hb1') (by omega)
    · rw [if_pos rfl, if_neg (by omega)] at e
      exact absurd (h.blt hb1) (by omega)
    · rw [if_neg (by omega), if_neg (by omega)] at e
      exact h.inj b b' ds ds' hb1 hb1' e
  · rcases hatold _ _ hp with ⟨j, rfl, hj⟩ | ⟨hp', _⟩
    · obtain ⟨v, _, _, h3, _⟩ := hvalnew j _ hj
      have := h3.deown_of
      simp [AV.deown] at this
    · rw [hvalold p _ hp']; exact hg.own p z l hp'
  · rcases hold b ds hb with ⟨rfl, rfl⟩ | ⟨hlt, hb'⟩
    · simp only [if_true]
      have := (h.cllt p B hB).1
      omega
    · simp only
      rw [if_neg (by omega)]; exact h.clbox p B hB b ds hb'
theorem RS.newBox {E : Entry} {G : Gh} {s : St} {a : Act} {w : World} (h : RS E G s a w) (cs : List AV) (vs : List Value) (T : TypeId) (hl : vs.length = cs.length) (h1 : ∀ v ∈ vs, v.oneCell' = true)
    (hv : ∀ j (hj : j < cs.length) v, vs[j]? = some v → RV G.M G.σ s.bs.length cs[j] v) :
    RS E { G with σ := fun b => if b = s.bs.length then w.heap.size else G.σ b } ⟨s.env, s.bs ++ [.cells cs], s.lo⟩ a (w.alloc (.cells vs.toArray T)) :=
  h.newBoxG (.cells cs) cs rfl (fun ds e => by cases e; rfl) vs T (by omega) h1 hv

def St.addBox (s : St) (cs : List AV) : St := ⟨s.env, s.bs ++ [.cells cs], s.lo⟩
def boxK (s : St) (x : AV) (K : AV → St → Prop) : Prop := req (cellOk x) (K (.ptr s.bs.length 0) (s.addBox x.cells))

theorem box_run {P : Program} {s : St} {x : AV} (hx : cellOk x = true) {E : Entry} {G : Gh} {a : Act} {w : World} (hs : RS E G s a w) {v : Value} (hv : RV G.M G.σ s.bs.length x v) (t : TypeId) :
    ∃ G' w', (newVar t v).run P w = .ok ⟨w.heap.size, 0, none⟩ w' ∧ RS E G' (s.addBox x.cells) a w' ∧ RV G'.M G'.σ (s.addBox x.cells).bs.length (.ptr s.bs.length 0) (.pointer (some ⟨w.heap.size, 0, none⟩)) := by
  obtain ⟨h1, h2, h3⟩ := hv.cells hx
  have := hs.newBox x.cells v.cells.toList t h1 h2 h3
  refine ⟨_, _, ?_, this, ?_⟩
  · simp [newVar, newRow]
  · have := RV.ptr (M := G.M) (σ := fun b => if b = s.bs.length then w.heap.size else G.σ b) (n := (s.addBox x.cells).bs.length) s.bs.length 0 (by simp [St.addBox])
    simpa using this

theorem box_sound {P : Program} {s : St} {o : Oper} {t : TypeId} {x : Operand} (ho : o.op = .box t x) {rx : Opd} (hx : opd x = some rx) {K : St → Prop}
    (h : boxK s (s.ev rx) fun r s' => K (s'.put o.dst r)) : OpS P o s K := by
  have hd : ∀ c, o.op ≠ .defer c := fun c e => by rw [ho] at e; cases e
  obtain ⟨h1, h2⟩ := req_iff.1 h
  refine OpS.val _ _ hd h2 fun E G a w hs => ?_
  obtain ⟨G', w', h3, h4, h5⟩ := box_run (P := P) h1 hs (hs.ev hx) t
  refine ⟨_, G', w', ?_, h4, h5⟩
  unfold execOp
  simp [ho, Instr.box, h3]

theorem alloc_sound {P : Program} {s : St} {o : Oper} {t : TypeId} (ho : o.op = .alloc t) {i : TypeInfo} {z : Value} {x : AV} (hi : P.info? t = some i) (hz : i.zero = some z) (hx : avOf z = some x) {K : St → Prop}
    (h : boxK s x fun r s' => K (s'.put o.dst r)) : OpS P o s K := by
  have hd : ∀ c, o.op ≠ .defer c := fun c e => by rw [ho] at e; cases e
  obtain ⟨h1, h2⟩ := req_iff.1 h
  refine OpS.val _ _ hd h2 fun E G a w hs => ?_
  obtain ⟨G', w', h3, h4, h5⟩ := box_run (P := P) h1 hs (.flat (avOf_fv hx)) t
  refine ⟨_, G', w', ?_, h4, h5⟩
  unfold execOp
  simp [ho, Instr.alloc, zeroValue, typeInfo, hi, hz, h3]

theorem RS.setCell {E : Entry} {G : Gh} {s : St} {a : Act} {w : World} (h : RS E G s a w) {b j : Nat} {cs : List AV} (hb : boxCells s.bs b = some cs) (hj : j < cs.length) {x : AV} {v : Value} (hx : RV G.M G.σ s.bs.length x v) (h1 : v.oneCell' = true) :
    RS E G (s.setBox b (cs.set j x)) a (w.setCell ⟨G.σ b, j, none⟩ v) ∧ w.frozen? ⟨G.σ b, j, none⟩ = false ∧ ∃ u, w.cell? ⟨G.σ b, j, none⟩ = some u := by
  have hblt := h.blt hb
  obtain ⟨vs, T, hc, hvl⟩ := h.box b cs hb
  obtain ⟨hM, hmine⟩ := h.bmem b cs hb
  have hat0 : s.at (.bx b j) = some cs[j] := by simp [St.at, hb, hj]
  have hset : s.setBox b (cs.set j x) = s.upd (.bx b j) x := by simp [St.upd, hb]
  have hcell : ∃ u, w.cell? ⟨G.σ b, j, none⟩ = some u := ⟨vs[j]'(by omega), by simp only [World.cell?, hc]; simp [show j < vs.size by omega]⟩
  have hother : ∀ k, k ≠ G.σ b → (w.setCell ⟨G.σ b, j, none⟩ v).heap[k]? = w.heap[k]? := fun k hk => Below.heap_setCell _ _ _ _ hk
  have hsame : (w.setCell ⟨G.σ b, j, none⟩ v).heap[G.σ b]? = some (.cells (vs.setIfInBounds j v) T (0, 0)) := by
    simp only [World.setCell, Array.getElem?_modify, if_true, hc]; rfl
  have hsize : (w.setCell ⟨G.σ b, j, none⟩ v).heap.size = w.heap.size := by simp [World.setCell]
  have hcl : ∀ p B, G.cl p = some B → B ≠ G.σ b := fun p B hB e => h.clbox p B hB b cs hb e.symm
  have hval : ∀ p y, s.at p = some y → valAt G.σ a (w.setCell ⟨G.σ b, j, none⟩ v) p = if p = .bx b j then v else valAt G.σ a w p := fun p y hp => by
    cases p with
    | sl t => simp [valAt]
    | bx b' j' =>
      simp only [St.at] at hp
      cases hb' : boxCells s.bs b' with
      | none => rw [hb'] at hp; cases hp
      | some ds =>
        simp only [valAt]
        rw [cell_set]
        by_cases e : b' = b
        · subst e
          by_cases e2 : j' = j
          · subst e2
            obtain ⟨u, hu⟩ := hcell
            simp [hu]
          · rw [if_neg (by simpa using fun e => e2 e.symm), if_neg (by simpa using e2)]
        · rw [if_neg (fun h' => e (h.inj b' b ds cs hb' hb h'.1.symm)), if_neg (by simp [e])]
  refine ⟨?_, ?_, hcell⟩
  · rw [hset]
    have hatu := fun p => St.at_upd s hat0 x p
    refine ⟨?_, fun B o u hu => ?_, h.nt, fun p y hp => ?_, fun b' j' y hp => ?_, fun b' ds hb' => ?_, fun b' ds hb' => ?_, fun b' b'' ds ds' hb' hb'' e => ?_, fun p z l hp => ?_, h.clinj, fun p B hB b' ds hb' => ?_, fun p B hB => ?_, (St.upd_lo s _ x).trans h.lo, by rw [St.upd_len]; exact h.len, h.sig, h.sp.step (Hp.le_refl _) (fun _ _ => rfl) (fun _ _ k => St.upd_loop k) (fun B o ho hk => by rw [hother B (fun e => by subst e; rw [hc] at ho; cases ho; cases hk)]; exact ho) (fun _ _ _ _ p k => ⟨p, k⟩) (fun _ k => k)⟩
    · refine ⟨h.fr.os, h.fr.tape, h.fr.output, by rw [hsize]; exact h.fr.size, h.fr.le, fun B hB hn => ?_, h.fr.mem⟩
      rw [hother B (fun e => ?_)]
      · exact h.fr.heap B hB hn
      · subst e
        rcases hmine with hm | hm
        · exact hn hm
        · omega
    · have := h.ok _ _ _ hu
      show (w.setCell _ v).cell? _ = some u
      rw [cell_set, if_neg (fun e => by rw [← e.1] at hu; rw [hM] at hu; cases hu)]
      exact this
    · rw [St.upd_len]
      rw [hatu] at hp
      by_cases e : p = .bx b j
      · rw [if_pos e] at hp; cases hp
        rw [hval p _ (e ▸ hat0), if_pos e, hx.deown_of]; exact hx
      · rw [if_neg e] at hp
        rw [hval p y hp, if_neg e]; exact h.val p y hp
    · rw [hatu] at hp
      by_cases e : Pl.bx b' j' = .bx b j
      · rw [hval _ _ (e ▸ hat0), if_pos e]; exact h1
      · rw [if_neg e] at hp
        rw [hval _ y hp, if_neg e]; exact h.one b' j' y hp
    · obtain ⟨es, h2, h3⟩ := s.upd_box _ x b' ds hb'
      by_cases e : b' = b
      · subst e
        rw [hb] at h2; cases h2
        exact ⟨_, T, hsame, by simp; omega⟩
      · obtain ⟨us, T', h4, h5⟩ := h.box b' es h2
        exact ⟨us, T', by rw [hother _ (fun e2 => e (h.inj b' b es cs h2 hb e2))]; exact h4, by omega⟩
    · obtain ⟨es, h2, h3⟩ := s.upd_box _ x b' ds hb'
      exact h.bmem b' es h2
    · obtain ⟨es, h2, _⟩ := s.upd_box _ x b' ds hb'
      obtain ⟨es', h2', _⟩ := s.upd_box _ x b'' ds' hb''
      exact h.inj b' b'' es es' h2 h2' e
    · rw [hatu] at hp
      by_cases e : p = .bx b j
      · rw [if_pos e] at hp; cases hp
        have := hx.deown_of
        simp [AV.deown] at this
      · rw [if_neg e] at hp
        obtain ⟨ad, k, h2, hz, h3⟩ := h.own p z l hp
        refine ⟨ad, k, by rw [hval p _ hp, if_neg e]; exact h2, hz, ?_⟩
        rcases h3 with h3 | ⟨B, hB, h4, h5⟩
        · exact .inl h3
        · obtain ⟨us, T', h6, h7⟩ := h5.cells
          exact .inr ⟨B, hB, h4, h5.lt, ⟨us, T', by rw [hother B (hcl p B hB)]; exact h6, h7⟩, h5.free, h5.mine⟩
    · obtain ⟨es, h2, _⟩ := s.upd_box _ x b' ds hb'
      exact h.clbox p B hB b' es h2
    · obtain ⟨h2, h3⟩ := h.cllt p B hB
      exact ⟨by rw [hsize]; exact h2, h3⟩
  · simp only [World.frozen?, hc]
    simp

def setAt (xs : List AV) : Nat → List AV → List AV
  | _, [] => xs
  | o, c :: cs => setAt (xs.set o c) (o + 1) cs

theorem setAt_length : ∀ (cs xs : List AV) (o : Nat), (setAt xs o cs).length = xs.length
  | [], _, _ => rfl
  | c :: cs, xs, o => by rw [setAt, setAt_length cs, List.length_set]

theorem St.setBox_set (s : St) (b : Nat) (xs ys : List AV) : (s.setBox b xs).setBox b ys = s.setBox b ys := by
  simp [St.setBox]

theorem storeCells_run {P : Program} {E : Entry} {G : Gh} {a : Act} : ∀ (us : List Value) (xs : List AV) (s : St) (w : World) (b off i : Nat) (cs : List AV), RS E G s a w → boxCells s.bs b = some cs → off + i + xs.length ≤ cs.length → us.length = xs.length → (∀ u ∈ us, u.oneCell' = true) →
    (∀ j (hj : j < xs.length) u, us[j]? = some u → RV G.M G.σ s.bs.length xs[j] u) → ∃ w', (storeCells ⟨G.σ b, off, none⟩ us i).run P w = .ok () w' ∧ RS E G (s.setBox b (setAt cs (off + i) xs)) a w'
  | [], [], s, w, b, off, i, cs, h, hb, _, _, _, _ => by
    refine ⟨w, rfl, ?_⟩
    have hlt := boxCells_lt hb
    refine h.sameBoxes (bs' := s.bs.set b (.cells cs)) (fun c => ?_) (fun c => ?_) (by simp)
    · rw [boxCells_set hb]
      split
      · rename_i e; rw [e, hb]
      · rfl
    · simp only [boxLoop, List.getElem?_set]
      by_cases e : b = c
      · subst e
        simp only [boxCells] at hb
        rw [if_pos rfl, if_pos hlt]
        cases hx : s.bs[b]? with
        | none => rw [hx] at hb; cases hb
        | some y =>
          rw [hx] at hb
          cases y <;> first | rfl | cases hb
      · rw [if_neg e]
  | u :: us, x :: xs, s, w, b, off, i, cs, h, hb, hle, hl, h1, hv => by
    simp only [List.length_cons] at hle hl
    obtain ⟨h2, h3, v0, h4⟩ := h.setCell hb (j := off + i) (by omega) (hv 0 (by simp) u rfl) (h1 u (by simp))
    have hb2 : boxCells (s.setBox b (cs.set (off + i) x)).bs b = some (cs.set (off + i) x) := by
      simp only [St.setBox]; rw [boxCells_set hb, if_pos rfl]
    obtain ⟨w', h5, h6⟩ := storeCells_run us xs _ _ b off (i + 1) _ h2 hb2 (by simp; omega) (by omega) (fun v hv' => h1 v (by simp [hv'])) (fun j hj v hv' => by
      have := hv (j + 1) (by simp; omega) v (by simpa using hv')
      simpa [St.setBox] using this)
    refine ⟨w', ?_, ?_⟩
    · simp only [storeCells, Sem.run_bind]
      rw [run_store P w _ u .plain (h1 u (by simp)), addr_add, h4]
      simp only [h3, Bool.false_eq_true, if_false, Result.andThen_ok]
      exact h5
    · rw [St.setBox_set] at h6
      rw [setAt]
      rw [Nat.add_assoc]; exact h6
  | [], _ :: _, _, _, _, _, _, _, _, _, _, hl, _, _ => by simp at hl
  | _ :: _, [], _, _, _, _, _, _, _, _, _, hl, _, _ => by simp at hl

def storeK (n : Nat) (s : St) (p v : AV) (K : St → Prop) : Prop :=
  match p with
  | .ptr b off => match boxCells s.bs b with
    | some cs => req (cellOk v && (Nat.beq v.cells.length n && Nat.ble (off + n) cs.length)) (K (s.setBox b (setAt cs off v.cells)))
    | none => False
  | _ => False

theorem store_sound {P : Program} {s : St} {o : Oper} {t : TypeId} {p x : Operand} (ho : o.op = .store t p x) (hdn : o.dst = none) {rp rx : Opd} (hp : opd p = some rp) (hx : opd x = some rx) {n : Nat} (hn : szOf P t = some n) {K : St → Prop}
    (h : storeK n s (s.ev rp) (s.ev rx) K) : OpS P o s K := by
  have hd : ∀ c, o.op ≠ .defer c := fun c e => by rw [ho] at e; cases e
  unfold storeK at h
  split at h
  · rename_i b off hpe
    split at h
    · rename_i cs hb
      obtain ⟨h1, h2⟩ := req_iff.1 h
      simp only [Bool.and_eq_true] at h1
      obtain ⟨hc, hl, hle⟩ := h1
      have hl := Nat.eq_of_beq_eq_true hl
      have hle := Nat.le_of_ble_eq_true hle
      refine OpS.skip _ hd hdn h2 fun E G a w hs => ?_
      have hpv := hs.ev hp
      rw [hpe] at hpv
      obtain ⟨hpv, _⟩ := hpv.inv_ptr
      obtain ⟨c1, c2, c3⟩ := (hs.ev hx).cells hc
      obtain ⟨w', h5, h6⟩ := storeCells_run (P := P) (a.eval x).cells.toList (s.ev rx).cells s w b off 0 cs hs hb (by omega) c1 c2 c3
      refine ⟨G, w', ?_, h6⟩
      have hsz : (a.eval x).cells.size = n := by rw [← Array.length_toList, c1, hl]
      unfold execOp
      simp [ho, Instr.storeAt, hpv, Instr.sureAddr, storeVar, run_sizeOf' hn, hsz, h5]
    · exact h.elim
  · exact h.elim
/-- a store into an element of a row -/
def storeEK (n : Nat) (s : St) (b i z off : Nat) (v : AV) (K : St → Prop) : Prop :=
  match boxCells s.bs b with
  | some cs => (cellOk v = true ∧ v.cells.length = n ∧ 0 < n ∧ i * z + off + n ≤ cs.length) ∧ K ⟨s.env, s.bs.set b (.row (setAt cs (i * z + off) v.cells)), s.lo⟩
  | none => False
theorem RS.rowed {E : Entry} {G : Gh} {s : St} {a : Act} {w : World} (h : RS E G s a w) {b : Nat} {cs : List AV} (hb : s.bs[b]? = some (.cells cs)) (h0 : cs ≠ []) : RS E G ⟨s.env, s.bs.set b (.row cs), s.lo⟩ a w := by
  have hlt : b < s.bs.length := (List.getElem?_eq_some_iff.1 hb).1
  refine h.sameBoxes (fun c => ?_) (fun c => ?_) (by simp)
  · simp only [boxCells, List.getElem?_set]
    by_cases e : b = c
    · subst e
      rw [if_pos rfl, if_pos hlt, hb]
      cases cs with
      | nil => exact absurd rfl h0
      | cons c cs => rfl
    · rw [if_neg e]
  · simp only [boxLoop, List.getElem?_set]
    by_cases e : b = c
    · subst e
      rw [if_pos rfl, if_pos hlt, hb]; rfl
    · rw [if_neg e]
theorem storeE_sound {P : Program} {s : St} {o : Oper} {t : TypeId} {p x : Operand} (ho : o.op = .store t p x) (hdn : o.dst = none) {rp rx : Opd} (hp : opd p = some rp) (hx : opd x = some rx) {n : Nat} (hn : szOf P t = some n) {b i z off : Nat} (hpe : s.ev rp = .elp b i z off) {K : St → Prop}
    (h : storeEK n s b i z off (s.ev rx) K) : OpS P o s K := by
  have hd : ∀ c, o.op ≠ .defer c := fun c e => by rw [ho] at e; cases e
  unfold storeEK at h
  split at h
  · rename_i cs hb
    obtain ⟨⟨hc, hl, h0, hle⟩, h2⟩ := h
    refine OpS.skip _ hd hdn h2 fun E G a w hs => ?_
    have hpv := hs.ev hp
    rw [hpe] at hpv
    obtain ⟨hpv, _⟩ := hpv.inv_elp
    obtain ⟨c1, c2, c3⟩ := (hs.ev hx).cells hc
    obtain ⟨w', h5, h6⟩ := storeCells_run (P := P) (a.eval x).cells.toList (s.ev rx).cells s w b (i * z + off) 0 cs hs hb (by omega) c1 c2 c3
    have hsz : (a.eval x).cells.size = n := by rw [← Array.length_toList, c1, hl]
    refine ⟨G, w', ?_, ?_⟩
    · unfold execOp
      simp [ho, Instr.storeAt, hpv, Instr.sureAddr, storeVar, run_sizeOf' hn, hsz, h5]
    · have hlt := boxCells_lt hb
      have h0' : setAt cs (i * z + off) (s.ev rx).cells ≠ [] := fun e => by
        have := congrArg List.length e
        rw [setAt_length] at this
        simp only [List.length_nil] at this
        omega
      have := h6.rowed (b := b) (cs := setAt cs (i * z + off) (s.ev rx).cells) (by simp [St.setBox, hlt]) h0'
      simpa [St.setBox] using this
  · exact h.elim
end Go.AM

