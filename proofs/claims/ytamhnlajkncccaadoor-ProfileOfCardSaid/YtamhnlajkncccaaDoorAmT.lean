/-
  THE ABSTRACT MACHINE, 8b: rows of one's own go through boxes. No function of the program is named here. By an AI agent.
-/
import Derived.Test.YtamhnlajkncccaaDoorAmU
set_option linter.unusedSimpArgs false
set_option linter.unusedVariables false
namespace Go.AM
open Go.CK Go.RowKit

theorem at_box {s : St} {b off : Nat} {x : AV} (h : s.at (.bx b off) = some x) : ∃ cs, boxCells s.bs b = some cs ∧ ∃ hj : off < cs.length, cs[off] = x := by
  simp only [St.at] at h
  cases hb : boxCells s.bs b with
  | none => rw [hb] at h; cases h
  | some cs =>
    rw [hb] at h
    simp only [Option.bind_some] at h
    have hj : off < cs.length := by
      rcases Nat.lt_or_ge off cs.length with h1 | h1
      · exact h1
      · rw [List.getElem?_eq_none h1] at h; cases h
    rw [List.getElem?_eq_getElem hj] at h
    exact ⟨cs, rfl, hj, by simpa using h⟩

def loadTK (agg : Bool) (n : Nat) (s : St) (d : Option Nat) (p : AV) (K : St → Prop) : Prop :=
  match agg, d, p with
  | false, some t, .ptr b off => match s.at (.bx b off) with
    | some (.sl (.own z) l) => K (((s.put (some t) (.sl .no l)).upd (.bx b off) (.sl .no l)).upd (.sl t) (.sl (.own z) l))
    | _ => loadK false n (s.rd (.ptr b off)) fun r => K (s.put d r)
  | agg, d, p => loadK agg n (s.rd p) fun r => K (s.put d r)

theorem loadT_sound {P : Program} {s : St} {o : Oper} {t : TypeId} {x : Operand} (ho : o.op = .load t x) {rx : Opd} (hx : opd x = some rx) {agg : Bool} {n : Nat} (ha : aggOf P t = some agg) (hn : agg = true → szOf P t = some n) {K : St → Prop}
    (h : loadTK agg n s o.dst (s.ev rx) K) : OpS P o s K := by
  have hd : ∀ c, o.op ≠ .defer c := fun c e => by rw [ho] at e; cases e
  unfold loadTK at h
  split at h
  · rename_i t' b off hdst hpe
    split at h
    · rename_i z l hat
      intro E G a w rd n' next Q hs hdlt hnext
      have hpv := hs.ev hx
      rw [hpe] at hpv
      obtain ⟨hpv, _⟩ := hpv.inv_ptr
      obtain ⟨cs, hb, hj, hcs⟩ := at_box hat
      obtain ⟨u, h1, _, h3⟩ := hs.bval hb off hj
      rw [hcs] at h3
      have hrun : (execOp a.eval o).run P w = .ok (.value u) w := by
        unfold execOp
        simp [ho, Instr.loadAt, hpv, Instr.sureAddr, loadVar, aggOf_run ha, h1]
      refine ⟨fun _ _ => trivial, ?_⟩
      rw [Oper.semAt_eq _ _ _ hd, hrun]
      show next (a.put o.dst u) w
      rw [hdst]
      have hlt := hdlt t' hdst
      have hput := hs.put (k := t') hlt h3
      have hne : Pl.bx b off ≠ .sl t' := by simp
      have hmv := hput.move (p := .bx b off) (q := .sl t') (z := z) (l := l) (o := .no) hne (by rw [St.at_put, if_neg hne]; exact hat) (by rw [St.at_put, if_pos rfl]; rfl) (by
        rw [valAt_put a w t' u _ (by rw [hs.nt]; exact hlt), if_pos rfl, valAt_put a w t' u _ (by rw [hs.nt]; exact hlt), if_neg hne]
        simp [valAt, h1])
      exact hnext _ _ _ _ h hmv rfl
    · skip
      have h' : loadK false n (s.rd (s.ev rx)) fun r => K (s.put o.dst r) := by rw [hpe]; exact h
      exact load_sound ho hx ha hn h'
  · exact load_sound ho hx ha hn h

def storeTK (n : Nat) (s : St) (p : AV) (x : Opd) (K : St → Prop) : Prop :=
  match n, p, x with
  | 1, .ptr b off, .t k => match s.get k with
    | .sl (.own z) l => match boxCells s.bs b with
      | some cs => req (Nat.blt off cs.length) (K (((s.setBox b (cs.set off (.sl .no l))).upd (.sl k) (.sl .no l)).upd (.bx b off) (.sl (.own z) l)))
      | none => False
    | _ => storeK 1 s (.ptr b off) (s.ev (.t k)) K
  | n, .elp b i z off, x => storeEK n s b i z off (s.ev x) K
  | n, p, x => storeK n s p (s.ev x) K

theorem storeT_sound {P : Program} {s : St} {o : Oper} {t : TypeId} {p x : Operand} (ho : o.op = .store t p x) (hdn : o.dst = none) {rp rx : Opd} (hp : opd p = some rp) (hx : opd x = some rx) {n : Nat} (hn : szOf P t = some n) {K : St → Prop}
    (h : storeTK n s (s.ev rp) rx K) : OpS P o s K := by
  have hd : ∀ c, o.op ≠ .defer c := fun c e => by rw [ho] at e; cases e
  unfold storeTK at h
  split at h
  · rename_i b off k hpe
    split at h
    · rename_i z l hg
      split at h
      · rename_i cs hb
        obtain ⟨h1, h2⟩ := req_iff.1 h
        have hoff : off < cs.length := by simpa using h1
        refine OpS.skip _ hd hdn h2 fun E G a w hs => ?_
        have hpv := hs.ev hp
        rw [hpe] at hpv
        obtain ⟨hpv, _⟩ := hpv.inv_ptr
        have hat := get_own hg
        obtain ⟨ad, kk, hv, _, _⟩ := hs.own _ _ _ hat
        have hval := hs.val _ _ hat
        simp only [AV.deown] at hval
        rw [hv] at hval
        have hxe : a.eval x = .slice ad l.length kk := by
          cases x with
          | tmp t' =>
            simp only [opd, Option.some.injEq, Opd.t.injEq] at hx
            subst hx
            exact hv
          | _ => simp [opd] at hx <;> (first | cases hx | (split at hx <;> cases hx))
        obtain ⟨h3, h4, u, h5⟩ := hs.setCell hb hoff hval rfl
        have hne : Pl.sl k ≠ .bx b off := by simp
        have hset : ∀ q, (s.setBox b (cs.set off (.sl .no l))).at q = if q = .bx b off then some (.sl .no l) else s.at q := fun q => by
          have : s.setBox b (cs.set off (.sl .no l)) = s.upd (.bx b off) (.sl .no l) := by simp [St.upd, hb]
          rw [this]
          exact St.at_upd s (y := cs[off]) (by simp [St.at, hb, hoff]) _ q
        have hmv := h3.move (p := .sl k) (q := .bx b off) (z := z) (l := l) (o := .no) hne (by rw [hset, if_neg hne]; exact hat) (by rw [hset, if_pos rfl]) (by
          show ((w.setCell ⟨G.σ b, off, none⟩ (.slice ad l.length kk)).cell? ⟨G.σ b, off, none⟩).getD undef = _
          rw [cell_set]
          simp only [and_self, if_true, h5]
          exact hv.symm)
        refine ⟨_, _, ?_, hmv⟩
        unfold execOp
        simp [ho, Instr.storeAt, hpv, Instr.sureAddr, storeVar, run_sizeOf' hn, hxe, Value.cells, storeCells, addr_add, run_store P w ⟨G.σ b, off, none⟩ (.slice ad l.length kk) .plain rfl, h5, h4]
      · exact h.elim
    · have h' : storeK 1 s (s.ev rp) (s.ev (.t k)) K := by rw [hpe]; exact h
      exact store_sound ho hdn hp hx hn h'
  · rename_i b i z off hpe
    exact storeE_sound ho hdn hp hx hn hpe h
  · exact store_sound ho hdn hp hx hn h
end Go.AM
