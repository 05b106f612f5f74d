/-
  THE ABSTRACT MACHINE, 3: operations. No function of the program is named here. By an AI agent.
-/
import Derived.Test.YtamhnlajkncccaaDoorAmS
import Derived.CallsIn
set_option linter.unusedSimpArgs false
set_option linter.unusedVariables false
namespace Go.AM
open Go.CK Go.RowKit

def F0 (rd : Option Nat) : Fence := { Fence.wide with round := rd }

inductive Opd where
  | t (k : Nat)
  | c (x : AV)
deriving Inhabited

def avOf1 : Value → Option AV
  | .bool b => some (.bool b)
  | .int k n => some (.int k n)
  | .string s => if s.size ≤ lim then some (.str s) else none
  | .pointer none => some .nptr
  | .slice none 0 0 => some (.sl .full [])
  | .map none => some .nmp
  | .nilFunc => some .nfn
  | .nilIface => some .nifc
  | _ => none
def avsOf : List Value → Option (List AV)
  | [] => some []
  | v :: vs => match avOf1 v, avsOf vs with
    | some x, some xs => some (x :: xs)
    | _, _ => none
def avOf : Value → Option AV
  | .agg cs => (avsOf cs.toList).map .agg
  | v => avOf1 v

theorem avOf1_fv {M : Hp} {v : Value} {x : AV} (h : avOf1 v = some x) : FV M x v ∧ v.oneCell' = true := by
  unfold avOf1 at h
  split at h <;> first | (cases h; done) | skip
  · cases h; exact ⟨.bool _, rfl⟩
  · cases h; exact ⟨.int _ _, rfl⟩
  · split at h
    · rename_i hs; cases h; exact ⟨.str _ hs, rfl⟩
    · cases h
  · cases h; exact ⟨.nptr, rfl⟩
  · cases h; exact ⟨.sl .full [] none 0 0 0 0 (by simp) (Nat.le_refl _) (by simp) (fun _ => rfl) (by simp) (fun i h => by cases h) (fun i h => by cases h) (fun i h => by cases h), rfl⟩
  · cases h; exact ⟨.nmp, rfl⟩
  · cases h; exact ⟨.nfn, rfl⟩
  · cases h; exact ⟨.nifc, rfl⟩

theorem avsOf_fv {M : Hp} : ∀ {vs : List Value} {xs : List AV}, avsOf vs = some xs → vs.length = xs.length ∧ (∀ v ∈ vs, v.oneCell' = true) ∧ ∀ j (h : j < xs.length) v, vs[j]? = some v → FV M xs[j] v
  | [], xs, h => by
    cases h
    exact ⟨rfl, (fun v hv => by cases hv), (fun j hj => by cases hj)⟩
  | v :: vs, xs, h => by
    simp only [avsOf] at h
    split at h
    · rename_i x xs' h1 h2
      cases h
      obtain ⟨a1, a2⟩ := avOf1_fv (M := M) h1
      obtain ⟨b1, b2, b3⟩ := avsOf_fv (M := M) h2
      refine ⟨by simp [b1], fun u hu => ?_, fun j hj u hu => ?_⟩
      · rcases List.mem_cons.1 hu with rfl | hu
        · exact a2
        · exact b2 u hu
      · cases j with
        | zero => simp at hu; subst hu; exact a1
        | succ j => simp at hu; simp at hj; exact b3 j hj u hu
    · cases h

theorem avOf_fv {M : Hp} {v : Value} {x : AV} (h : avOf v = some x) : FV M x v := by
  unfold avOf at h
  split at h
  · rename_i cs
    cases hc : avsOf cs.toList with
    | none => rw [hc] at h; cases h
    | some xs =>
      rw [hc] at h; cases h
      obtain ⟨h1, h2, h3⟩ := avsOf_fv (M := M) hc
      have := FV.agg xs cs.toList h1 h2 h3
      simpa using this
  · exact (avOf1_fv h).1

def opd : Operand → Option Opd
  | .tmp t => some (.t t)
  | .const v => (avOf v).map .c
  | .func f => some (.c (.fn (.func f) [] []))
  | .global _ => none

def St.ev (s : St) : Opd → AV
  | .t k => (s.get k).deown
  | .c x => x

theorem St.get_at {s : St} {k : Nat} : s.get k = (s.at (.sl k)).getD .top := by
  simp only [St.get, St.at]
  cases envGet s.env k <;> rfl

section
variable {E : Entry} {G : Gh} {s : St} {a : Act} {w : World} {P : Program}

theorem RS.getv (h : RS E G s a w) (k : Nat) : RV G.M G.σ s.bs.length (s.get k).deown (a.tmps.getD k undef) := by
  rw [St.get_at]
  cases hk : s.at (.sl k) with
  | none => exact .flat (.top _)
  | some x => exact h.val (.sl k) x hk

theorem RS.ev (h : RS E G s a w) {o : Operand} {r : Opd} (ho : opd o = some r) : RV G.M G.σ s.bs.length (s.ev r) (a.eval o) := by
  cases o with
  | tmp t => cases ho; exact h.getv t
  | const v =>
    simp only [opd] at ho
    cases hv : avOf v with
    | none => rw [hv] at ho; cases ho
    | some x => rw [hv] at ho; cases ho; exact .flat (avOf_fv hv)
  | func f => cases ho; exact .fn _ [] [] [] [] rfl rfl (fun j h => by cases h) (fun j h => by cases h)
  | global g => cases ho
end

def opds : List Operand → Option (List Opd)
  | [] => some []
  | o :: os => match opd o, opds os with
    | some r, some rs => some (r :: rs)
    | _, _ => none
theorem opds_get : ∀ {os : List Operand} {rs : List Opd}, opds os = some rs → os.length = rs.length ∧ ∀ (i : Nat) (o : Operand), os[i]? = some o → ∃ r, rs[i]? = some r ∧ opd o = some r
  | [], rs, h => by cases h; exact ⟨rfl, fun i o ho => by cases ho⟩
  | o :: os, rs, h => by
    simp only [opds] at h
    split at h
    · rename_i r rs' h1 h2
      cases h
      obtain ⟨h3, h4⟩ := opds_get h2
      refine ⟨by simp [h3], fun i o' ho => ?_⟩
      cases i with
      | zero => simp at ho; subst ho; exact ⟨r, rfl, h1⟩
      | succ i => simp at ho; simpa using h4 i o' ho
    · cases h

/-- What it means that the model's operation does, from state s, what leads to K. -/
def OpS (P : Program) (o : Oper) (s : St) (K : St → Prop) : Prop :=
  ∀ (E : Entry) (G : Gh) (a : Act) (w : World) (rd : Option Nat) (n : Nat) (next : Act → World → Prop) (Q : Exit → Act → World → Prop), RS E G s a w → (∀ d, o.dst = some d → d < E.nt) →
    (∀ s' G' a' w', K s' → RS E G' s' a' w' → a'.defers = a.defers → next a' w') → o.wpIn (F0 rd) n P a w next Q

theorem put_defers (a : Act) (d : Option Tmp) (v : Value) : (a.put d v).defers = a.defers := by cases d <;> rfl

/-- an operation that has a value -/
theorem OpS.val {P : Program} {o : Oper} {s : St} {K : St → Prop} (x : AV) (s' : St) (hd : ∀ c, o.op ≠ .defer c) (hK : K (s'.put o.dst x))
    (h : ∀ E G a w, RS E G s a w → ∃ v G' w', (execOp a.eval o).run P w = .ok (.value v) w' ∧ RS E G' s' a w' ∧ RV G'.M G'.σ s'.bs.length x v) : OpS P o s K := by
  intro E G a w rd n next Q hs hdst hnext
  obtain ⟨v, G', w', h1, h2, h3⟩ := h E G a w hs
  refine ⟨fun _ _ => trivial, ?_⟩
  rw [Oper.semAt_eq _ _ _ hd, h1]
  exact hnext _ G' _ w' hK (h2.put' hdst h3) (put_defers _ _ _)

/-- the same, memory left as it is -/
theorem OpS.pure {P : Program} {o : Oper} {s : St} {K : St → Prop} (x : AV) (hd : ∀ c, o.op ≠ .defer c) (hK : K (s.put o.dst x))
    (h : ∀ E G a w, RS E G s a w → ∃ v, (execOp a.eval o).run P w = .ok (.value v) w ∧ RV G.M G.σ s.bs.length x v) : OpS P o s K :=
  OpS.val x s hd hK fun E G a w hs => let ⟨v, h1, h2⟩ := h E G a w hs; ⟨v, G, w, h1, hs, h2⟩

theorem OpS.skip {P : Program} {o : Oper} {s : St} {K : St → Prop} (s' : St) (hd : ∀ c, o.op ≠ .defer c) (hn : o.dst = none) (hK : K s')
    (h : ∀ E G a w, RS E G s a w → ∃ G' w', (execOp a.eval o).run P w = .ok .skip w' ∧ RS E G' s' a w') : OpS P o s K := by
  intro E G a w rd n next Q hs hdst hnext
  obtain ⟨G', w', h1, h2⟩ := h E G a w hs
  refine ⟨fun _ _ => trivial, ?_⟩
  rw [Oper.semAt_eq _ _ _ hd, h1]
  show next (a.put o.dst undef) w'
  rw [hn]
  exact hnext s' G' a w' hK h2 rfl

/-! ### plain operations -/
def req (b : Bool) (K : Prop) : Prop := match b with
  | true => K
  | false => False
theorem req_iff {b : Bool} {K : Prop} : req b K ↔ b = true ∧ K := by cases b <;> simp [req]

def binK (op : BinOp) (a b : AV) (K : AV → Prop) : Prop :=
  match a, b with
  | .int k x, .int k' y => req (decide (k = k')) (match op with
    | .add => K (.int k (k.wrap (x + y)))
    | .sub => K (.int k (k.wrap (x - y)))
    | .mul => K (.int k (k.wrap (x * y)))
    | .quo => y ≠ 0 ∧ K (.int k (k.wrap (x.tdiv y)))
    | .rem => y ≠ 0 ∧ K (.int k (x.tmod y))
    | .eql => K (.bool (decide (x = y)))
    | .neq => K (.bool (!decide (x = y)))
    | .lss => K (.bool (decide (x < y)))
    | .leq => K (.bool (decide (x ≤ y)))
    | .gtr => K (.bool (decide (y < x)))
    | .geq => K (.bool (decide (y ≤ x)))
    | _ => False)
  | .str x, .str y => match op with
    | .add => x.size + y.size ≤ lim ∧ K (.str (x ++ y))
    | .eql => K (.bool (decide (x = y)))
    | .neq => K (.bool (!decide (x = y)))
    | .lss => K (.bool (Op.bytesLess x.toList y.toList))
    | .leq => K (.bool (Op.bytesLess x.toList y.toList || decide (x = y)))
    | .gtr => K (.bool (!(Op.bytesLess x.toList y.toList || decide (x = y))))
    | .geq => K (.bool (!Op.bytesLess x.toList y.toList))
    | _ => False
  | _, _ => False

theorem bytes_inj {s t : ByteArray} : s.toList = t.toList ↔ s = t := by
  rw [ByteArray.toList_eq, ByteArray.toList_eq]
  exact ⟨fun h => ByteArray.ext (Array.toList_inj.mp h), fun h => by rw [h]⟩
theorem str_eq (x y : ByteArray) : (x.toList == y.toList) = decide (x = y) := by
  rw [Bool.eq_iff_iff]
  simp [bytes_inj]

theorem exec_binOp (P : Program) (ρ : Operand → Value) (o : Oper) {op : BinOp} {t u : TypeId} {x y : Operand} (ho : o.op = .binOp op t x y u) (w : World) (hx : ∀ cs, ρ x ≠ .agg cs) (hn : ρ x ≠ .nilIface) :
    (execOp ρ o).run P w = ((binOp op t (ρ x) (ρ y)).run P w).andThen fun v w' => .ok (.value v) w' := by
  have hg : (eqGuard op t x y (ρ x) (ρ y)).run P w = .ok () w := by
    clear ho
    cases op <;> first | rfl | (cases hv : ρ x <;> first | (exact absurd hv (hx _)) | (exact absurd hv hn) | (cases ρ y <;> rfl))
  unfold execOp
  simp only [ho, Sem.run_bind, hg, Result.andThen_ok, Sem.run_pure]

theorem binK_sound {P : Program} {s : St} {o : Oper} {op : BinOp} {t u : TypeId} {x y : Operand} (ho : o.op = .binOp op t x y u) {rx ry : Opd} (hx : opd x = some rx) (hy : opd y = some ry) {K : St → Prop}
    (h : binK op (s.ev rx) (s.ev ry) fun r => K (s.put o.dst r)) : OpS P o s K := by
  have hd : ∀ c, o.op ≠ .defer c := fun c e => by rw [ho] at e; cases e
  unfold binK at h
  split at h
  · rename_i k p k' q e1 e2
    obtain ⟨hk0, h2⟩ := req_iff.1 h
    have hk := of_decide_eq_true hk0
    clear h hk0
    subst hk
    have h := h2
    clear h2
    have hrun : ∀ E G a w, RS E G s a w → a.eval x = .int k p ∧ a.eval y = .int k q := fun E G a w hs =>
      ⟨by have := hs.ev hx; rw [e1] at this; exact this.inv_int, by have := hs.ev hy; rw [e2] at this; exact this.inv_int⟩
    have fin : ∀ r v, K (s.put o.dst r) → (∀ M, FV M r v) → (∀ w, (binOp op t (.int k p) (.int k q)).run P w = .ok v w) → OpS P o s K := fun r v hK hv hr =>
      OpS.pure r hd hK fun E G a w hs => by
        obtain ⟨h1, h2⟩ := hrun E G a w hs
        refine ⟨v, ?_, .flat (hv _)⟩
        rw [exec_binOp P _ o ho w (by rw [h1]; simp) (by rw [h1]; simp), h1, h2, hr w]; rfl
    cases op
    case add => exact fin _ _ h (fun _ => .int _ _) fun w => by simp [binOp, Op.intArith]
    case sub => exact fin _ _ h (fun _ => .int _ _) fun w => by simp [binOp, Op.intArith]
    case mul => exact fin _ _ h (fun _ => .int _ _) fun w => by simp [binOp, Op.intArith]
    case quo => exact fin _ _ h.2 (fun _ => .int _ _) fun w => by simp [binOp, Op.intDiv, h.1]
    case rem => exact fin _ _ h.2 (fun _ => .int _ _) fun w => by simp [binOp, Op.intDiv, h.1]
    case eql => exact fin _ _ h (fun _ => .bool _) fun w => by simp [binOp, Op.intCmp]; rfl
    case neq => exact fin _ _ h (fun _ => .bool _) fun w => by simp [binOp, Op.intCmp]; rfl
    case lss => exact fin _ _ h (fun _ => .bool _) fun w => by simp [binOp, Op.intCmp]
    case leq => exact fin _ _ h (fun _ => .bool _) fun w => by simp [binOp, Op.intCmp]
    case gtr => exact fin _ _ h (fun _ => .bool _) fun w => by simp [binOp, Op.intCmp]
    case geq => exact fin _ _ h (fun _ => .bool _) fun w => by simp [binOp, Op.intCmp]
    all_goals exact h.elim
  · rename_i p q e1 e2
    have hrun : ∀ E G a w, RS E G s a w → a.eval x = .string p ∧ a.eval y = .string q := fun E G a w hs =>
      ⟨by have := hs.ev hx; rw [e1] at this; exact this.inv_str.1, by have := hs.ev hy; rw [e2] at this; exact this.inv_str.1⟩
    have fin : ∀ r v, K (s.put o.dst r) → (∀ M, FV M r v) → (∀ w, (binOp op t (.string p) (.string q)).run P w = .ok v w) → OpS P o s K := fun r v hK hv hr =>
      OpS.pure r hd hK fun E G a w hs => by
        obtain ⟨h1, h2⟩ := hrun E G a w hs
        refine ⟨v, ?_, .flat (hv _)⟩
        rw [exec_binOp P _ o ho w (by rw [h1]; simp) (by rw [h1]; simp), h1, h2, hr w]; rfl
    cases op
    case add =>
      refine fin _ _ h.2 (fun _ => .str _ (by have h1 := h.1; rw [ByteArray.size_append]; exact h1)) fun w => ?_
      have h1 := h.1
      have : ¬ ((p.size + q.size : Nat) : Int) > IntKind.i64.max := by ((try unfold glim at h1);(try unfold lim at h1)); simp [IntKind.max, IntKind.signed, IntKind.bits]; omega
      simp only [binOp, Op.stringOp, if_neg this, Sem.run_pure]
    case eql => exact fin _ _ h (fun _ => .bool _) fun w => by simp [binOp, Op.stringOp, str_eq]
    case neq => exact fin _ _ h (fun _ => .bool _) fun w => by simp [binOp, Op.stringOp, str_eq]
    case lss => exact fin _ _ h (fun _ => .bool _) fun w => by simp [binOp, Op.stringOp]
    case leq => exact fin _ _ h (fun _ => .bool _) fun w => by simp [binOp, Op.stringOp, str_eq]
    case gtr => exact fin _ _ h (fun _ => .bool _) fun w => by simp [binOp, Op.stringOp, str_eq]
    case geq => exact fin _ _ h (fun _ => .bool _) fun w => by simp [binOp, Op.stringOp]
    all_goals exact h.elim
  · exact h.elim
end Go.AM
