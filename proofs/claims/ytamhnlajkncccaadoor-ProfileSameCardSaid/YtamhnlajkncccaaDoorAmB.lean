/-
  THE ABSTRACT MACHINE, 7: further operations. No function of the program is named here. By an AI agent.
-/
import Derived.Test.YtamhnlajkncccaaDoorAmA
set_option linter.unusedSimpArgs false
set_option linter.unusedVariables false
namespace Go.AM
open Go.CK Go.RowKit

section
variable {P : Program} {s : St} {o : Oper} {K : St → Prop}

/-! ### a value handed on -/
def movK (s : St) (d : Option Nat) (o : Opd) (K : St → Prop) : Prop :=
  match o with
  | .c x => K (s.put d x)
  | .t t => match s.get t with
    | .sl (.own z) l => match d with
      | some d => req (!(Nat.beq d t)) (K (((s.put (some d) (.sl .no l)).put (some t) (.sl .no l)).put (some d) (.sl (.own z) l)))
      | none => False
    | x => K (s.put d x)

theorem get_own {t z : Nat} {l : List AV} (hg : s.get t = .sl (.own z) l) : s.at (.sl t) = some (.sl (.own z) l) := by
  rw [St.get_at] at hg
  cases hq : s.at (.sl t) with
  | none => rw [hq] at hg; cases hg
  | some q => rw [hq] at hg; simp at hg; rw [hg]

theorem mov_sound {x : Operand} (ho : o.op = .move x ∨ o.op = .assign x) {rx : Opd} (hx : opd x = some rx) (h : movK s o.dst rx K) : OpS P o s K := by
  have hd : ∀ c, o.op ≠ .defer c := fun c e => by rcases ho with ho | ho <;> (rw [ho] at e; cases e)
  have hrun : ∀ a w, (execOp (Act.eval a) o).run P w = .ok (.value (a.eval x)) w := fun a w => by
    unfold execOp
    rcases ho with ho | ho <;> simp [ho]
  have fin : ∀ y, s.ev rx = y → K (s.put o.dst y) → OpS P o s K := fun y hy hK => OpS.pure y hd hK fun E G a w hs => ⟨_, hrun a w, by rw [← hy]; exact hs.ev hx⟩
  unfold movK at h
  split at h
  · exact fin _ rfl h
  · rename_i t
    split at h
    · rename_i z l hg
      split at h
      · rename_i d hdst
        obtain ⟨hne, hK⟩ := req_iff.1 h
        have hne : d ≠ t := fun e => by subst e; simp at hne
        intro E G a w rd n next Q hs hdlt hnext
        have hat := get_own hg
        have hev : a.eval x = valAt G.σ a w (.sl t) := by
          cases x with
          | tmp t => cases hx; rfl
          | const v =>
            simp only [opd] at hx
            cases hv : avOf v <;> (rw [hv] at hx; cases hx)
          | func f => cases hx
          | global g => cases hx
        have hv := hs.val _ _ hat
        simp only [AV.deown] at hv
        have hdd := hdlt d hdst
        have hd' : d < a.tmps.size := by rw [hs.nt]; exact hdd
        have h1 := hs.put (k := d) hdd hv
        have hp : (s.put (some d) (.sl .no l)).at (.sl t) = some (.sl (.own z) l) := by rw [St.at_put, if_neg (by simpa using Ne.symm hne)]; exact hat
        have hq : (s.put (some d) (.sl .no l)).at (.sl d) = some (.sl .no l) := by rw [St.at_put, if_pos rfl]
        have h2 := h1.move (p := .sl t) (q := .sl d) (by simpa using Ne.symm hne) hp hq (by rw [valAt_put a w d _ _ hd', valAt_put a w d _ _ hd', if_pos rfl, if_neg (by simpa using Ne.symm hne)])
        refine ⟨fun _ _ => trivial, ?_⟩
        rw [Oper.semAt_eq _ _ _ hd, hrun]
        show next (a.put o.dst (a.eval x)) w
        rw [hdst, hev]
        exact hnext _ _ _ w hK h2 rfl
      · exact h.elim
    · rename_i hnot
      refine fin _ ?_ h
      show (s.get t).deown = _
      generalize s.get t = g at *
      cases g with
      | sl c l => cases c with
        | own z => exact absurd rfl (hnot z l)
        | _ => rfl
      | _ => rfl

def pickK (c x y : AV) (K : AV → Prop) : Prop :=
  match c with
  | .bool b => (b = true → K x) ∧ (b = false → K y)
  | _ => False
theorem pick_sound {c x y : Operand} (ho : o.op = .pick c x y) {rc rx ry : Opd} (hc : opd c = some rc) (hx : opd x = some rx) (hy : opd y = some ry) (h : pickK (s.ev rc) (s.ev rx) (s.ev ry) fun r => K (s.put o.dst r)) : OpS P o s K := by
  have hd : ∀ c, o.op ≠ .defer c := fun c e => by rw [ho] at e; cases e
  unfold pickK at h
  split at h
  · rename_i b hb
    have hbv : ∀ E G a w, RS E G s a w → a.eval c = .bool b := fun E G a w hs => by
      have := hs.ev hc
      rw [hb] at this; exact this.inv_bool
    cases b with
    | true => exact OpS.pure _ hd (h.1 rfl) fun E G a w hs => ⟨a.eval x, by unfold execOp; simp [ho, hbv E G a w hs, asBool], hs.ev hx⟩
    | false => exact OpS.pure _ hd (h.2 rfl) fun E G a w hs => ⟨a.eval y, by unfold execOp; simp [ho, hbv E G a w hs, asBool], hs.ev hy⟩
  · exact h.elim

/-! ### pointers -/
def nilckK (x : AV) (K : AV → Prop) : Prop :=
  match x with
  | .ptr b off => K (.ptr b off)
  | .ept cs => K (.ept cs)
  | .fn (.func f) xs ys => K (.fn (.func f) xs ys)
  | .elp b i z off => K (.elp b i z off)
  | _ => False
theorem nilck_sound {x : Operand} (ho : o.op = .nilCheck x) {rx : Opd} (hx : opd x = some rx) (h : nilckK (s.ev rx) fun r => K (s.put o.dst r)) : OpS P o s K := by
  have hd : ∀ c, o.op ≠ .defer c := fun c e => by rw [ho] at e; cases e
  unfold nilckK at h
  split at h
  · rename_i b off he
    refine OpS.pure _ hd h fun E G a w hs => ⟨a.eval x, ?_, by rw [← he]; exact hs.ev hx⟩
    have := hs.ev hx
    rw [he] at this
    unfold execOp
    simp [ho, this.inv_ptr.1]
  · rename_i cs he
    refine OpS.pure _ hd h fun E G a w hs => ⟨a.eval x, ?_, by rw [← he]; exact hs.ev hx⟩
    have := hs.ev hx
    rw [he] at this
    obtain ⟨B, off, h1, _⟩ := this.inv_ept
    unfold execOp
    simp [ho, h1]
  · rename_i f xs ys he
    refine OpS.pure _ hd h fun E G a w hs => ⟨a.eval x, ?_, by rw [← he]; exact hs.ev hx⟩
    have := hs.ev hx
    rw [he] at this
    obtain ⟨us, vs, h1, _⟩ := this.inv_fn
    unfold execOp
    simp [ho, h1]
  · rename_i b i z off he
    refine OpS.pure _ hd h fun E G a w hs => ⟨a.eval x, ?_, by rw [← he]; exact hs.ev hx⟩
    have := hs.ev hx
    rw [he] at this
    unfold execOp
    simp [ho, this.inv_elp.1]
  · exact h.elim

/-- a pointer moved on by off cells -/
def moved (off : Nat) (x : AV) (K : AV → Prop) : Prop :=
  match x with
  | .ptr b f => K (.ptr b (f + off))
  | .ept cs => K (.ept (cs.drop off))
  | _ => False
theorem moved_sound {M : Hp} {σ : Nat → Nat} {n off : Nat} {x : AV} {v : Value} {K : AV → Prop} (hx : RV M σ n x v) (h : moved off x K) : ∃ y B f, v = .pointer (some ⟨B, f, none⟩) ∧ K y ∧ RV M σ n y (.pointer (some ⟨B, f + off, none⟩)) := by
  unfold moved at h
  split at h
  · obtain ⟨rfl, hb⟩ := hx.inv_ptr
    exact ⟨_, _, _, rfl, h, .ptr _ _ hb⟩
  · obtain ⟨B, f, rfl, hc⟩ := hx.inv_ept
    exact ⟨_, _, _, rfl, h, .ept _ _ _ (hc.drop off)⟩
  · exact h.elim
def movedTo (off : Nat) : AV → AV
  | .ptr b f => .ptr b (f + off)
  | .ept cs => .ept (cs.drop off)
  | .elp b i z f => .elp b i z (f + off)
  | x => x
def isPtr : AV → Bool
  | .ptr .. | .ept _ | .elp .. => true
  | _ => false
theorem movedTo_rv {M : Hp} {σ : Nat → Nat} {n off : Nat} {x : AV} {v : Value} (hx : RV M σ n x v) (h : isPtr x = true) : ∃ B f, v = .pointer (some ⟨B, f, none⟩) ∧ RV M σ n (movedTo off x) (.pointer (some ⟨B, f + off, none⟩)) := by
  cases x <;> first | (simp [isPtr] at h; done) | skip
  case ptr b f =>
    obtain ⟨rfl, hb⟩ := hx.inv_ptr
    exact ⟨_, _, rfl, .ptr _ _ hb⟩
  case ept cs =>
    obtain ⟨B, f, rfl, hc⟩ := hx.inv_ept
    exact ⟨_, _, rfl, .ept _ _ _ (hc.drop off)⟩
  case elp b i z f =>
    obtain ⟨rfl, hb⟩ := hx.inv_elp
    exact ⟨_, _, rfl, by rw [Nat.add_assoc]; exact .elp _ _ _ _ hb⟩
def fptrK (off : Nat) (x : AV) (K : AV → Prop) : Prop := req (isPtr x) (K (movedTo off x))
theorem fptr_sound {x : Operand} {t f : Nat} (ho : o.op = .fieldAddr t x f) {rx : Opd} (hx : opd x = some rx) {fs : Array Field} {fd : Field} {k : Nat} (ht : P.underlying t = some (.struct fs)) (hf : fs[f]? = some fd) (hk : szOf P fd.type = some k) (hk0 : k ≠ 0)
    (h : fptrK fd.offset (s.ev rx) fun r => K (s.put o.dst r)) : OpS P o s K := by
  have hd : ∀ c, o.op ≠ .defer c := fun c e => by rw [ho] at e; cases e
  obtain ⟨h1, h2⟩ := req_iff.1 h
  refine OpS.pure _ hd h2 fun E G a w hs => ?_
  obtain ⟨B, f', hv, hr⟩ := movedTo_rv (off := fd.offset) (hs.ev hx) h1
  refine ⟨_, ?_, hr⟩
  unfold execOp
  simp [ho, Instr.fieldAt, run_underlying ht, hf, hv, Instr.sureAddr, fieldPlace, run_sizeOf' hk, hk0, addr_add]

/-- the address of an element of a slice -/
def idxK (sz : Nat) (x i : AV) (K : AV → Prop) : Prop :=
  match x, i with
  | .sl _ l, .int _ n => ∃ y, (0 ≤ n ∧ l[n.toNat]? = some y ∧ y.cells.length = sz) ∧ K (.ept y.cells)
  | .bsl b m _, .int _ n => (0 ≤ n ∧ n < m) ∧ K (.elp b n.toNat sz 0)
  | _, _ => False
theorem idx_sound {x i : Operand} {t e : Nat} (ho : o.op = .indexAddr t x i) {rx ri : Opd} (hx : opd x = some rx) (hi : opd i = some ri) {sz : Nat} (ht : P.underlying t = some (.slice e)) (hsz : szOf P e = some sz)
    (h : idxK sz (s.ev rx) (s.ev ri) fun r => K (s.put o.dst r)) : OpS P o s K := by
  have hd : ∀ c, o.op ≠ .defer c := fun c e => by rw [ho] at e; cases e
  unfold idxK at h
  split at h
  · rename_i oc l k n hxe hie
    obtain ⟨y, ⟨h0, hy, hz⟩, hK⟩ := h
    refine OpS.pure _ hd hK fun E G a w hs => ?_
    have hxv := hs.ev hx
    rw [hxe] at hxv
    have hiv := hs.ev hi
    rw [hie] at hiv
    have hiv := hiv.inv_int
    obtain ⟨ad, cap, B, off, sz', h1, _, h3, h4, _, h6, h7⟩ := hxv.inv_sl
    have hlt : n.toNat < l.length := by
      rcases Nat.lt_or_ge n.toNat l.length with h8 | h8
      · exact h8
      · rw [List.getElem?_eq_none h8] at hy; cases hy
    rw [List.getElem?_eq_getElem hlt] at hy
    simp only [Option.some.injEq] at hy
    obtain ⟨a1, a2⟩ := h7 _ hlt
    rw [hy] at a1 a2
    have had := h6 (fun e => by subst e; simp at hlt)
    have hn : 0 ≤ n ∧ n < (l.length : Int) := by omega
    refine ⟨.pointer (some ⟨B, off + n.toNat * sz, none⟩), ?_, ?_⟩
    · unfold execOp
      simp [ho, Instr.indexAt, hiv, asIntOf, run_underlying ht, h1, had, hn, run_sizeOf' hsz, addr_add]
    · rw [← a1, hz] at a2
      exact .ept _ _ _ a2
  · rename_i b m cp k n hxe hie
    obtain ⟨hn, hK⟩ := h
    refine OpS.pure _ hd hK fun E G a w hs => ?_
    have hxv := hs.ev hx
    rw [hxe] at hxv
    have hiv := hs.ev hi
    rw [hie] at hiv
    have hiv := hiv.inv_int
    obtain ⟨ad, h1, hb, _, _, had⟩ := hxv.inv_bsl
    have had := had (by omega)
    refine ⟨.pointer (some ⟨G.σ b, n.toNat * sz + 0, none⟩), ?_, .elp _ _ _ _ hb⟩
    unfold execOp
    simp [ho, Instr.indexAt, hiv, asIntOf, run_underlying ht, h1, had, hn, run_sizeOf' hsz, addr_add]
  · exact h.elim

/-- an element of a string -/
def idxSK (x i : AV) (K : AV → Prop) : Prop :=
  match x, i with
  | .str b, .int _ n => ∃ y, (0 ≤ n ∧ b[n.toNat]? = some y) ∧ K (.int .u8 y.toNat)
  | _, _ => False
theorem idxS_sound {x i : Operand} {t : Nat} (ho : o.op = .index t x i) {rx ri : Opd} (hx : opd x = some rx) (hi : opd i = some ri) (ht : P.underlying t = some .string)
    (h : idxSK (s.ev rx) (s.ev ri) fun r => K (s.put o.dst r)) : OpS P o s K := by
  have hd : ∀ c, o.op ≠ .defer c := fun c e => by rw [ho] at e; cases e
  unfold idxSK at h
  split at h
  · rename_i b k n hxe hie
    obtain ⟨y, ⟨h0, hy⟩, hK⟩ := h
    refine OpS.pure _ hd hK fun E G a w hs => ⟨_, ?_, .flat (.int _ _)⟩
    have hxv := hs.ev hx
    rw [hxe] at hxv
    have hiv := hs.ev hi
    rw [hie] at hiv
    unfold execOp
    simp [ho, Instr.index, hiv.inv_int, asIntOf, run_underlying ht, hxv.inv_str.1, h0, hy]
  · exact h.elim

/-- a struct value's field -/
def fldK (agg : Bool) (off n : Nat) (x : AV) (K : AV → Prop) : Prop :=
  match x with
  | .agg cs => match agg with
    | true => req (Nat.ble (off + n) cs.length) (K (.agg ((cs.drop off).take n)))
    | false => match cs.drop off with
      | c :: _ => K c
      | [] => False
  | _ => False
theorem fld_sound {x : Operand} {t f : Nat} (ho : o.op = .field t x f) {rx : Opd} (hx : opd x = some rx) {fs : Array Field} {fd : Field} (ht : P.underlying t = some (.struct fs)) (hf : fs[f]? = some fd) {agg : Bool} {n : Nat} (ha : aggOf P fd.type = some agg) (hn : agg = true → szOf P fd.type = some n)
    (h : fldK agg fd.offset n (s.ev rx) fun r => K (s.put o.dst r)) : OpS P o s K := by
  have hd : ∀ c, o.op ≠ .defer c := fun c e => by rw [ho] at e; cases e
  unfold fldK at h
  split at h
  · rename_i cs hxe
    split at h
    · obtain ⟨h1, h2⟩ := req_iff.1 h
      have hle := Nat.le_of_ble_eq_true h1
      refine OpS.pure _ hd h2 fun E G a w hs => ?_
      have hxv := hs.ev hx
      rw [hxe] at hxv
      obtain ⟨vs, hv, hl, hone, hr⟩ := hxv.inv_agg
      refine ⟨.agg ((vs.drop fd.offset).take n).toArray, ?_, .agg _ _ ?_ (fun v hv => hone v (List.mem_of_mem_drop (List.mem_of_mem_take hv))) (fun j hj v hjv => ?_)⟩
      · unfold execOp
        simp [ho, Instr.field, run_underlying ht, hf, hv, asAgg, part, aggOf_run ha, run_sizeOf' (hn rfl), List.extract_eq_take_drop]
      · simp [hl]
      · simp only [List.length_take, List.length_drop] at hj
        rw [List.getElem_take, List.getElem_drop]
        rw [List.getElem?_take, if_pos (by omega), List.getElem?_drop] at hjv
        exact hr _ (by omega) v hjv
    · split at h
      · rename_i c rest hc
        refine OpS.pure _ hd h fun E G a w hs => ?_
        have hxv := hs.ev hx
        rw [hxe] at hxv
        obtain ⟨vs, hv, hl, hone, hr⟩ := hxv.inv_agg
        have hlt : fd.offset < cs.length := by
          rcases Nat.lt_or_ge fd.offset cs.length with h1 | h1
          · exact h1
          · rw [List.drop_eq_nil_of_le h1] at hc; cases hc
        have hcc : cs[fd.offset] = c := by
          rw [List.drop_eq_getElem_cons hlt] at hc
          cases hc; rfl
        have hv2 : vs[fd.offset]? = some (vs[fd.offset]'(by omega)) := List.getElem?_eq_getElem _
        refine ⟨_, ?_, by rw [← hcc]; exact hr _ hlt _ hv2⟩
        unfold execOp
        simp [ho, Instr.field, run_underlying ht, hf, hv, asAgg, part, aggOf_run ha, hv2]
      · exact h.elim
  · exact h.elim

/-- a component of several results -/
def extK (i : Nat) (x : AV) (K : AV → Prop) : Prop :=
  match x with
  | .tup vs => match vs[i]? with
    | some y => K y
    | none => False
  | _ => False
theorem ext_sound {x : Operand} {i : Nat} (ho : o.op = .extract x i) {rx : Opd} (hx : opd x = some rx) (h : extK i (s.ev rx) fun r => K (s.put o.dst r)) : OpS P o s K := by
  have hd : ∀ c, o.op ≠ .defer c := fun c e => by rw [ho] at e; cases e
  unfold extK at h
  split at h
  · rename_i xs hxe
    split at h
    · rename_i y hy
      refine OpS.pure _ hd h fun E G a w hs => ?_
      have hxv := hs.ev hx
      rw [hxe] at hxv
      obtain ⟨vs, hv, hl, hr⟩ := hxv.inv_tup
      have hlt : i < xs.length := by
        rcases Nat.lt_or_ge i xs.length with h1 | h1
        · exact h1
        · rw [List.getElem?_eq_none h1] at hy; cases hy
      rw [List.getElem?_eq_getElem hlt] at hy
      cases hy
      have hv2 : vs[i]? = some (vs[i]'(by omega)) := List.getElem?_eq_getElem _
      refine ⟨_, ?_, hr i hlt _ hv2⟩
      unfold execOp
      simp [ho, Instr.extract, hv, hv2]
    · exact h.elim
  · exact h.elim

/-! ### lengths, numbers -/
def lenK (str : Bool) (x : AV) (K : AV → Prop) : Prop :=
  match str, x with
  | false, .sl _ l => K (.int .i64 l.length)
  | true, .str b => K (.int .i64 b.size)
  | false, .bsl _ m _ => K (.int .i64 m)
  | _, _ => False
theorem exec_builtin1 (P : Program) (ρ : Operand → Value) (o : Oper) {x : Operand} {ts : Array TypeId} (ho : o.op = .call { callee := .builtin .len, args := #[x], argTypes := ts }) (w : World) :
    (execOp ρ o).run P w = ((Builtin.len_ ts o.type #[ρ x]).run P w).andThen fun v w' => .ok (.value v) w' := by
  unfold execOp
  simp [ho, resolve, invoke, builtin]
theorem len_sound {x : Operand} {t : Nat} (ho : o.op = .call { callee := .builtin .len, args := #[x], argTypes := #[t] }) {rx : Opd} (hx : opd x = some rx) {str : Bool} (ht : (str = true ∧ P.underlying t = some .string) ∨ (str = false ∧ ∃ e, P.underlying t = some (.slice e)))
    (h : lenK str (s.ev rx) fun r => K (s.put o.dst r)) : OpS P o s K := by
  have hd : ∀ c, o.op ≠ .defer c := fun c e => by rw [ho] at e; cases e
  unfold lenK at h
  split at h
  · rename_i oc l hxe
    obtain ⟨e, he⟩ : ∃ e, P.underlying t = some (.slice e) := by rcases ht with ⟨h1, _⟩ | ⟨_, h1⟩; cases h1; exact h1
    refine OpS.pure _ hd h fun E G a w hs => ⟨_, ?_, .flat (.int _ _)⟩
    have hxv := hs.ev hx
    rw [hxe] at hxv
    obtain ⟨ad, cap, B, off, sz', h1, _⟩ := hxv.inv_sl
    rw [exec_builtin1 P _ o ho]
    simp [Builtin.len_, run_underlying he, h1, goInt]
  · rename_i b hxe
    have h0 : P.underlying t = some .string := by rcases ht with ⟨_, h1⟩ | ⟨h1, _⟩; exact h1; cases h1
    refine OpS.pure _ hd h fun E G a w hs => ⟨_, ?_, .flat (.int _ _)⟩
    have hxv := hs.ev hx
    rw [hxe] at hxv
    rw [exec_builtin1 P _ o ho]
    simp [Builtin.len_, run_underlying h0, hxv.inv_str.1, goInt]
  · rename_i b m cp hxe
    obtain ⟨e, he⟩ : ∃ e, P.underlying t = some (.slice e) := by rcases ht with ⟨h1, _⟩ | ⟨_, h1⟩; cases h1; exact h1
    refine OpS.pure _ hd h fun E G a w hs => ⟨_, ?_, .flat (.int _ _)⟩
    have hxv := hs.ev hx
    rw [hxe] at hxv
    obtain ⟨ad, h1, _⟩ := hxv.inv_bsl
    rw [exec_builtin1 P _ o ho]
    simp [Builtin.len_, run_underlying he, h1, goInt]
  · exact h.elim

def unK (op : UnOp) (x : AV) (K : AV → Prop) : Prop :=
  match op, x with
  | .neg, .int k n => K (.int k (k.wrap (0 - n)))
  | .not, .bool b => K (.bool (!b))
  | _, _ => False
theorem un_sound {x : Operand} {op : UnOp} {t : Nat} (ho : o.op = .unOp op t x) {rx : Opd} (hx : opd x = some rx) (h : unK op (s.ev rx) fun r => K (s.put o.dst r)) : OpS P o s K := by
  have hd : ∀ c, o.op ≠ .defer c := fun c e => by rw [ho] at e; cases e
  unfold unK at h
  split at h
  · rename_i k n hxe
    refine OpS.pure _ hd h fun E G a w hs => ⟨_, ?_, .flat (.int _ _)⟩
    have hxv := hs.ev hx
    rw [hxe] at hxv
    unfold execOp
    simp [ho, Op.unary, Op.intArith, hxv.inv_int]
  · rename_i b hxe
    refine OpS.pure _ hd h fun E G a w hs => ⟨_, ?_, .flat (.bool _)⟩
    have hxv := hs.ev hx
    rw [hxe] at hxv
    unfold execOp
    simp [ho, Op.unary, hxv.inv_bool]
  · exact h.elim

/-- a conversion between integers, or of a string to a string -/
def convK (k : Option IntKind) (x : AV) (K : AV → Prop) : Prop :=
  match k, x with
  | some k, .int _ n => K (.int k (k.wrap n))
  | none, .str b => K (.str b)
  | _, _ => False
theorem conv_sound {x : Operand} {t u : Nat} (ho : o.op = .convert t u x) {rx : Opd} (hx : opd x = some rx) {k : Option IntKind} {dt : TypeDesc} (ht : P.underlying t = some dt) (hu : P.underlying u = some (match k with | some k => .int k | none => .string))
    (h : convK k (s.ev rx) fun r => K (s.put o.dst r)) : OpS P o s K := by
  have hd : ∀ c, o.op ≠ .defer c := fun c e => by rw [ho] at e; cases e
  unfold convK at h
  split at h
  · rename_i k k' n hxe
    refine OpS.pure _ hd h fun E G a w hs => ⟨_, ?_, .flat (.int _ _)⟩
    have hxv := hs.ev hx
    rw [hxe] at hxv
    unfold execOp
    simp [ho, convert, run_underlying ht, run_underlying hu, hxv.inv_int, Conv.intToInt]
  · rename_i b hxe
    refine OpS.pure _ hd h fun E G a w hs => ⟨_, ?_, by have := hs.ev hx; rw [hxe] at this; exact this⟩
    have hxv := hs.ev hx
    rw [hxe] at hxv
    unfold execOp
    simp [ho, convert, run_underlying ht, run_underlying hu, hxv.inv_str.1]
  · exact h.elim
end
end Go.AM
