/-
  Texts of this claim joined (wip/gen/bundle.py), those declarations only that are needed: AmC AmR. By an AI agent.
-/
import Derived.Test.YtamhnlajkncccaaGreatBag
set_option linter.unusedSimpArgs false
set_option linter.unusedVariables false
namespace Go.AM
open Go.CK Go.RowKit

/-- the blocks that a callee that is handed boxes may turn -/
def FPof (G : Gh) (bs : List Box) (B : Nat) : Prop := (∃ b cs, boxCells bs b = some cs ∧ G.σ b = B) ∨ (∃ b j, G.cl (.bx b j) = some B) ∨ (∃ b x, boxLoop bs b = some x ∧ G.σ b = B)
def callE (G : Gh) (bs : List Box) (w : World) (nt : Nat) : Entry := ⟨FPof G bs, G.M, w, nt, bs.length, G.σ⟩

/-- Function f, called with arguments that read as vals, boxes bs being there, returns, and Q holds of the result and of the boxes. -/
def Sem (P : Program) (f : FuncId) (vals : List AV) (bs : List Box) (Q : AV → List Box → Prop) : Prop :=
  ∀ (E : Entry) (G : Gh) (a0 : Act) (w : World) (args : List Value) (lo : Nat), RS E G ⟨[], bs, lo⟩ a0 w → args.length = vals.length → (∀ j (h : j < vals.length) v, args[j]? = some v → RV G.M G.σ bs.length vals[j] v) →
    Calls P f args.toArray w fun e w' => ∃ v r bs' G', e = .returned v ∧ Q r bs' ∧ RS (callE G bs w 1) G' ⟨[(0, r)], bs', bs.length⟩ ⟨#[v], []⟩ w'

/-- the same of a round of the loop whose record is box b -/
def SemY (P : Program) (b : Nat) (vals : List AV) (bs : List Box) (Q : AV → List Box → Prop) : Prop :=
  ∀ (E : Entry) (G : Gh) (a0 : Act) (w : World) (args : List Value) (lo : Nat), RS E G ⟨[], bs, lo⟩ a0 w → args.length = vals.length → (∀ j (h : j < vals.length) v, args[j]? = some v → RV G.M G.σ bs.length vals[j] v) →
    ∃ f tmps assign body, (Instr.yield (G.σ b) args.toArray).run P w = .ok (.round (G.σ b) f tmps assign body) w ∧ ∀ rd n, RoundIn (F0 rd) n P (G.σ b) f tmps assign body w fun e w' => ∃ v r bs' G', e = .returned v ∧ Q r bs' ∧ RS (callE G bs w 1) G' ⟨[(0, r)], bs', bs.length⟩ ⟨#[v], []⟩ w'
theorem SemY.norm {P : Program} {b : Nat} {vals : List AV} {bs : List Box} {Q : AV → List Box → Prop} (h : SemY P b (vals.map AV.norm) bs Q) : SemY P b vals bs Q :=
  fun E G a0 w args lo h1 h2 h3 => h E G a0 w args lo h1 (by simpa using h2) fun j hj v hv => by
    simp only [List.length_map] at hj
    rw [List.getElem_map]
    exact (h3 j hj v hv).norm

theorem Sem.mono {P : Program} {f : FuncId} {vals : List AV} {bs : List Box} {Q Q' : AV → List Box → Prop} (h : Sem P f vals bs Q) (hq : ∀ r b, Q r b → Q' r b) : Sem P f vals bs Q' :=
  fun E G a0 w args lo h1 h2 h3 => (h E G a0 w args lo h1 h2 h3).mono fun _ _ ⟨v, r, bs', G', e, q, x⟩ => ⟨v, r, bs', G', e, hq _ _ q, x⟩

section
variable {E : Entry} {G : Gh} {s : St} {a : Act} {w : World} {P : Program}

/-- only the boxes -/
theorem RS.boxes (h : RS E G s a w) : RS E G ⟨[], s.bs, s.lo⟩ a w := by
  have hat : ∀ p x, (⟨[], s.bs, s.lo⟩ : St).at p = some x → s.at p = some x := fun p x hp => by
    cases p with
    | sl t => simp [St.at, envGet] at hp
    | bx b j => exact hp
  exact ⟨h.fr, h.ok, h.nt, fun p x hp => h.val p x (hat p x hp), fun b j x hp => h.one b j x (hat _ x hp), h.box, h.bmem, h.inj, fun p z l hp => h.own p z l (hat p _ hp), h.clinj, h.clbox, h.cllt, h.lo, h.len, h.sig, h.sp⟩

theorem FPof_mine (h : RS E G s a w) {B : Nat} (hB : FPof G s.bs B) : (E.FP B ∨ E.w.heap.size ≤ B) ∧ B < w.heap.size := by
  rcases hB with ⟨b, cs, hb, rfl⟩ | ⟨b, j, hb⟩ | ⟨b, x, hb, e⟩
  · exact ⟨(h.bmem b cs hb).2, h.blt hb⟩
  · exact ⟨(h.cllt _ B hb).2, (h.cllt _ B hb).1⟩
  · obtain ⟨h1, _, h3⟩ := h.sp.ob B _ (.inl ⟨b, x, hb, e, rfl⟩)
    exact ⟨h3, (Array.getElem?_eq_some_iff.1 h1).1⟩

def afterG (G G' : Gh) (d : Option Nat) : Gh := { G' with cl := fun p => match p with
  | .sl t => if d = some t then G'.cl (.sl 0) else G.cl (.sl t)
  | .bx b j => G'.cl (.bx b j) }

/-- behind a call -/
theorem RS.after (h : RS E G s a w) {G' : Gh} {r : AV} {bs' : List Box} {v : Value} {w' : World} (h' : RS (callE G s.bs w 1) G' ⟨[(0, r)], bs', s.bs.length⟩ ⟨#[v], []⟩ w') {d : Option Nat} (hd : ∀ k, d = some k → k < E.nt) :
    RS E (afterG G G' d) ((⟨s.env, bs', s.lo⟩ : St).put d r) (a.put d v) w' := by
  have hmine : ∀ B, (FPof G s.bs B ∨ w.heap.size ≤ B) → (E.FP B ∨ E.w.heap.size ≤ B) := fun B hB => by
    rcases hB with hB | hB
    · exact (FPof_mine h hB).1
    · exact .inr (Nat.le_trans h.fr.size hB)
  have hlen : s.bs.length ≤ bs'.length := h'.len
  have hsig : ∀ b, b < s.bs.length → G'.σ b = G.σ b := h'.sig
  have hfr : Fr (FPof G s.bs) G.M w G'.M w' := h'.fr
  have hbs : ((⟨s.env, bs', s.lo⟩ : St).put d r).bs = bs' := by cases d <;> rfl
  have hlo : ((⟨s.env, bs', s.lo⟩ : St).put d r).lo = s.lo := by cases d <;> rfl
  have hnotFP : ∀ t B, G.cl (.sl t) = some B → ¬ FPof G s.bs B := fun t B hB hF => by
    rcases hF with ⟨b, cs, hb, e⟩ | ⟨b, j, hb⟩ | ⟨b, x, hb, e⟩
    · exact h.clbox _ B hB b cs hb e
    · have := h.clinj _ _ B hB hb; cases this
    · exact (h.sp.ob B _ (.inl ⟨b, x, hb, e, rfl⟩)).2.1 _ hB
  have hat : ∀ p x, ((⟨s.env, bs', s.lo⟩ : St).put d r).at p = some x → (∃ t, p = .sl t ∧ d = some t ∧ x = r) ∨ (∃ t, p = .sl t ∧ d ≠ some t ∧ s.at (.sl t) = some x) ∨ (∃ b j, p = .bx b j ∧ (⟨[(0, r)], bs', s.bs.length⟩ : St).at (.bx b j) = some x) := fun p x hp => by
    cases p with
    | sl t =>
      cases d with
      | none => exact .inr (.inl ⟨t, rfl, by simp, hp⟩)
      | some k =>
        rw [St.at_put] at hp
        by_cases e : Pl.sl t = .sl k
        · cases e
          rw [if_pos rfl] at hp; cases hp
          exact .inl ⟨t, rfl, rfl, rfl⟩
        · rw [if_neg e] at hp
          exact .inr (.inl ⟨t, rfl, fun e2 => e (by cases e2; rfl), hp⟩)
    | bx b j =>
      refine .inr (.inr ⟨b, j, rfl, ?_⟩)
      simp only [St.at, hbs] at hp ⊢
      exact hp
  have hvr : ∀ t, d = some t → valAt G'.σ (a.put d v) w' (.sl t) = v := fun t ht => by
    subst ht
    have := hd t rfl
    rw [valAt_put a w' t v _ (by rw [h.nt]; exact this), if_pos rfl]
  have hvs : ∀ t, d ≠ some t → valAt G'.σ (a.put d v) w' (.sl t) = valAt G.σ a w (.sl t) := fun t ht => by
    cases d with
    | none => rfl
    | some k =>
      have := hd k rfl
      rw [valAt_put a w' k v _ (by rw [h.nt]; exact this), if_neg (fun e => by cases e; exact ht rfl)]
      rfl
  have hat0 : (⟨[(0, r)], bs', s.bs.length⟩ : St).at (.sl 0) = some r := rfl
  have hv0 : valAt G'.σ ⟨#[v], []⟩ w' (.sl 0) = v := rfl
  refine ⟨h.fr.trans hfr (fun B hB => hmine B (.inl hB)), h'.ok, by cases d <;> simp [Act.put, h.nt], fun p x hp => ?_, fun b j x hp => ?_, fun b cs hb => ?_, fun b cs hb => ?_, fun b b' cs cs' hb hb' e => ?_, fun p z l hp => ?_, fun p q B hp hq => ?_, fun p B hB b cs hb => ?_, fun p B hB => ?_, hlo.trans h.lo, by rw [hbs]; exact Nat.le_trans h.len hlen, fun b hb => (hsig b (Nat.lt_of_lt_of_le hb h.len)).trans (h.sig b hb), ?_⟩
  · rw [hbs]
    rcases hat p x hp with ⟨t, rfl, ht, rfl⟩ | ⟨t, rfl, ht, hx⟩ | ⟨b, j, rfl, hx⟩
    · show RV G'.M G'.σ bs'.length x.deown (valAt G'.σ (a.put d v) w' (.sl t))
      rw [hvr t ht]
      have := h'.val _ _ hat0
      rwa [hv0] at this
    · show RV G'.M G'.σ bs'.length x.deown (valAt G'.σ (a.put d v) w' (.sl t))
      rw [hvs t ht]
      exact (h.val _ _ hx).mono hfr.le hlen hsig
    · exact h'.val _ _ hx
  · rcases hat _ x hp with ⟨t, e, _⟩ | ⟨t, e, _⟩ | ⟨b', j', e, hx⟩
    · cases e
    · cases e
    · cases e; exact h'.one _ _ _ hx
  · rw [hbs] at hb; exact h'.box b cs hb
  · rw [hbs] at hb
    obtain ⟨h1, h2⟩ := h'.bmem b cs hb
    exact ⟨h1, hmine _ h2⟩
  · rw [hbs] at hb hb'; exact h'.inj b b' cs cs' hb hb' e
  · rcases hat p _ hp with ⟨t, rfl, ht, hx⟩ | ⟨t, rfl, ht, hx⟩ | ⟨b, j, rfl, hx⟩
    · subst hx
      obtain ⟨ad, k, h1, h2, h3⟩ := h'.own _ _ _ hat0
      refine ⟨ad, k, (hvr t ht).trans h1, h2, ?_⟩
      rcases h3 with h3 | ⟨B, hB, h4, h5⟩
      · exact .inl h3
      · exact .inr ⟨B, by simp only [afterG, ht, if_true]; exact hB, h4, h5.lt, h5.cells, h5.free, hmine _ h5.mine⟩
    · obtain ⟨ad, k, h1, h2, h3⟩ := h.own _ _ _ hx
      refine ⟨ad, k, (hvs t ht).trans h1, h2, ?_⟩
      rcases h3 with h3 | ⟨B, hB, h4, h5⟩
      · exact .inl h3
      · have hn := hnotFP t B hB
        have hlt := (h.cllt _ B hB).1
        obtain ⟨vs, T, h6, h7⟩ := h5.cells
        exact .inr ⟨B, by simp only [afterG, ht, if_false]; exact hB, h4, h5.lt, ⟨vs, T, (hfr.heap B hlt hn).trans h6, h7⟩, fun o ho => (hfr.mem B hlt hn o).trans (h5.free o ho), h5.mine⟩
    · obtain ⟨ad, k, h1, h2, h3⟩ := h'.own _ _ _ hx
      refine ⟨ad, k, h1, h2, ?_⟩
      rcases h3 with h3 | ⟨B, hB, h4, h5⟩
      · exact .inl h3
      · exact .inr ⟨B, hB, h4, h5.lt, h5.cells, h5.free, hmine _ h5.mine⟩
  · have far : ∀ t q' B, G.cl (.sl t) = some B → G'.cl q' = some B → False := fun t q' B h1 h2 => by
      have h3 := (h.cllt _ B h1).1
      rcases (h'.cllt q' B h2).2 with h4 | h4
      · exact hnotFP t B h1 h4
      · have : w.heap.size ≤ B := h4
        omega
    cases p with
    | sl t =>
      cases q with
      | sl u =>
        simp only [afterG] at hp hq
        by_cases ht : d = some t <;> by_cases hu : d = some u
        · rw [ht] at hu; cases hu; rfl
        · rw [if_pos ht] at hp; rw [if_neg hu] at hq; exact (far _ _ _ hq hp).elim
        · rw [if_neg ht] at hp; rw [if_pos hu] at hq; exact (far _ _ _ hp hq).elim
        · rw [if_neg ht] at hp; rw [if_neg hu] at hq
          exact h.clinj _ _ B hp hq
      | bx b j =>
        simp only [afterG] at hp hq
        by_cases ht : d = some t
        · rw [if_pos ht] at hp
          have := h'.clinj _ _ B hp hq; cases this
        · rw [if_neg ht] at hp; exact (far _ _ _ hp hq).elim
    | bx b j =>
      cases q with
      | sl u =>
        simp only [afterG] at hp hq
        by_cases hu : d = some u
        · rw [if_pos hu] at hq
          have := h'.clinj _ _ B hp hq; cases this
        · rw [if_neg hu] at hq; exact (far _ _ _ hq hp).elim
      | bx b' j' => exact h'.clinj _ _ B hp hq
  · rw [hbs] at hb
    cases p with
    | sl t =>
      simp only [afterG] at hB
      by_cases ht : d = some t
      · rw [if_pos ht] at hB; exact h'.clbox _ B hB b cs hb
      · rw [if_neg ht] at hB
        intro e
        have h3 := (h.cllt _ B hB).1
        rcases (h'.bmem b cs hb).2 with h4 | h4
        · exact hnotFP t B hB (e ▸ h4)
        · have : w.heap.size ≤ G'.σ b := h4
          have e' : G'.σ b = B := e
          omega
    | bx b' j' => exact h'.clbox _ B hB b cs hb
  · cases p with
    | sl t =>
      simp only [afterG] at hB
      by_cases ht : d = some t
      · rw [if_pos ht] at hB
        obtain ⟨h1, h2⟩ := h'.cllt _ B hB
        exact ⟨h1, hmine B h2⟩
      · rw [if_neg ht] at hB
        obtain ⟨h1, h2⟩ := h.cllt _ B hB
        exact ⟨Nat.lt_of_lt_of_le h1 hfr.size, h2⟩
    | bx b' j' =>
      obtain ⟨h1, h2⟩ := h'.cllt _ B hB
      exact ⟨h1, hmine B h2⟩
  · have hd : (a.put d v).defers = a.defers := put_defers a d v
    have far : ∀ t B, G.cl (.sl t) = some B → FPof G s.bs B ∨ w.heap.size ≤ B → False := fun t B h1 h2 => by
      have h3 := (h.cllt _ B h1).1
      rcases h2 with h4 | h4
      · exact hnotFP t B h1 h4
      · omega
    rw [hbs, hd]
    refine ⟨fun B o hs => ?_, h'.sp.base, h'.sp.inj, h.sp.ds⟩
    rcases hs with ⟨b, x, hb, e, ho⟩ | ⟨hmem, ho⟩
    · obtain ⟨h1, h2, h3⟩ := h'.sp.ob B o (.inl ⟨b, x, hb, e, ho⟩)
      refine ⟨h1, fun p hp => ?_, hmine B h3⟩
      cases p with
      | sl t =>
        simp only [afterG] at hp
        split at hp
        · exact h2 _ hp
        · exact far t B hp h3
      | bx b j => exact h2 _ hp
    · obtain ⟨h1, h2, h3⟩ := h.sp.ob B o (.inr ⟨hmem, ho⟩)
      have hlt := (Array.getElem?_eq_some_iff.1 h1).1
      have hnot : ¬ FPof G s.bs B := fun hF => by
        rcases hF with ⟨b, cs, hb, e⟩ | ⟨b, j, hb⟩ | ⟨b, x, hb, e⟩
        · obtain ⟨vs, T, h4, _⟩ := h.box b cs hb
          rw [e, h1, ho] at h4; cases h4
        · exact h2 _ hb
        · have := (h.sp.ob B _ (.inl ⟨b, x, hb, e, rfl⟩)).1
          rw [h1, ho] at this; exact (x.obj_nd this).elim
      refine ⟨(hfr.heap B hlt hnot).trans h1, fun p hp => ?_, h3⟩
      have far2 : ∀ q, G'.cl q = some B → False := fun q hq => by
        rcases (h'.cllt q B hq).2 with h4 | h4
        · exact hnot h4
        · have : w.heap.size ≤ B := h4
          omega
      cases p with
      | sl t =>
        simp only [afterG] at hp
        split at hp
        · exact far2 _ hp
        · exact h2 _ hp
      | bx b j => exact far2 _ hp

theorem callsIn_F0 {P : Program} {rd : Option Nat} {n : Nat} {f : FuncId} {args : Array Value} {w : World} {R : Ending → World → Prop} (h : Calls P f args w R) : CallsIn (F0 rd) n P f args w R :=
  (callsIn_wide (n := n)).2 h

/-- what a call of a function of the program runs -/
theorem exec_call (P : Program) (ρ : Operand → Value) (o : Oper) {fx : Operand} {args : Array Operand} {ts : Array TypeId} (ho : o.op = .call { callee := .value fx, args := args, argTypes := ts }) {f : FuncId} {us vs : List Value} (hf : ρ fx = .func (.func f) us.toArray vs.toArray)
    {fn : Func} (hfn : P.funcs[f]? = some fn) (hb : fn.body.isSome = true) (hnm : fn.name ≠ "runtime.NumGoroutine") (w : World) : (execOp ρ o).run P w = .ok (.enter f (us ++ args.toList.map ρ ++ vs).toArray) w := by
  have hb' : fn.body ≠ none := fun h => by simp [h] at hb
  unfold execOp
  simp [ho, resolve, hf, Deferred.ofValue, invoke, callFunc, hfn, hb', hnm]

theorem exec_yield (P : Program) (ρ : Operand → Value) (o : Oper) {fx : Operand} {args : Array Operand} {ts : Array TypeId} (ho : o.op = .call { callee := .value fx, args := args, argTypes := ts }) {l : Nat} (hf : ρ fx = .func (.yield l) #[] #[])
    {w : World} {x : Next} (h : (Instr.yield l (args.toList.map ρ).toArray).run P w = .ok x w) : (execOp ρ o).run P w = .ok x w := by
  unfold execOp
  have : (args.toList.map ρ).toArray = args.map ρ := by rw [← Array.toList_map]
  rw [this] at h
  simp only [ho, resolve, hf, Deferred.ofValue, invoke]
  simpa using h

def callK (P : Program) (s : St) (d : Option Nat) (f : AV) (args : List AV) (K : St → Prop) : Prop :=
  match f with
  | .fn (.func f) xs ys => ∃ Q, (Sem P f ((xs ++ args ++ ys).map AV.norm) s.bs Q ∨ Sem P f (xs ++ args ++ ys) s.bs Q) ∧ ∀ r bs', Q r bs' → K ((⟨s.env, bs', s.lo⟩ : St).put d r)
  | .yl b => ∃ Q, SemY P b (args.map AV.norm) s.bs Q ∧ ∀ r bs', Q r bs' → K ((⟨s.env, bs', s.lo⟩ : St).put d r)
  | _ => False

/-- function f has a Go body -/
def hasBody (P : Program) (f : FuncId) : Bool := match P.funcs[f]? with
  | some fn => fn.body.isSome && decide (fn.name ≠ "runtime.NumGoroutine")
  | none => false

theorem Sem.norm {P : Program} {f : FuncId} {vals : List AV} {bs : List Box} {Q : AV → List Box → Prop} (h : Sem P f (vals.map AV.norm) bs Q) : Sem P f vals bs Q :=
  fun E G a0 w args lo h1 h2 h3 => h E G a0 w args lo h1 (by simpa using h2) fun j hj v hv => by
    simp only [List.length_map] at hj
    rw [List.getElem_map]
    exact (h3 j hj v hv).norm

theorem call_sound {P : Program} {s : St} {o : Oper} {fx : Operand} {args : Array Operand} {ts : Array TypeId} (ho : o.op = .call { callee := .value fx, args := args, argTypes := ts }) {rf : Opd} {rs : List Opd} (hf : opd fx = some rf) (hr : opds args.toList = some rs) {K : St → Prop}
    (hbody : ∀ f xs ys, s.ev rf = .fn (.func f) xs ys → hasBody P f = true) (h : callK P s o.dst (s.ev rf) (evs s.ev rs) K) : OpS P o s K := by
  unfold callK at h
  split at h
  · rename_i f xs ys hfe
    obtain ⟨Q, hS0, hK⟩ := h
    have hS := hS0.elim (fun h => h.norm) id
    intro E G a w rd n next QQ hs hdlt hnext
    have hb := hbody f xs ys hfe
    unfold hasBody at hb
    split at hb
    · rename_i fn hfn
      simp only [Bool.and_eq_true, decide_eq_true_eq] at hb
      have hfv := hs.ev hf
      rw [hfe] at hfv
      obtain ⟨us, vs, hfv, l1, l2, hx, hy⟩ := hfv.inv_fn
      obtain ⟨a1, a2⟩ := hs.evs hr
      refine ⟨fun _ _ => trivial, ?_⟩
      rw [Oper.semAt_eq _ _ _ (fun c e => by rw [ho] at e; cases e), exec_call P _ o ho hfv hfn hb.1 hb.2]
      show ((F0 rd).depth.isSome = true → 1 ≤ n) ∧ CallsIn (F0 rd) (n - 1) P f _ w _
      refine ⟨(fun e => by cases e), callsIn_F0 ((hS E G a w _ s.lo hs.boxes (by simp [l1, l2, a1]) (fun j hj v hv => ?_)).mono ?_)⟩
      · simp only [List.length_append] at hj
        by_cases h1 : j < xs.length
        · rw [List.append_assoc, List.getElem?_append_left (by omega)] at hv
          rw [List.getElem_append_left (by simp; omega), List.getElem_append_left h1]
          exact hx j h1 v hv
        · by_cases h2 : j < xs.length + (evs s.ev rs).length
          · rw [List.getElem?_append_left (by simp only [List.length_append]; omega), List.getElem?_append_right (by omega)] at hv
            rw [List.getElem_append_left (by simp; omega), List.getElem_append_right (by omega)]
            rw [l1] at hv
            exact a2 _ (by omega) v hv
          · rw [List.getElem?_append_right (by simp only [List.length_append]; omega)] at hv
            rw [List.getElem_append_right (by simp; omega)]
            simp only [List.length_append] at hv ⊢
            rw [l1, a1] at hv
            exact hy _ (by omega) v hv
      · rintro e w' ⟨v, r, bs', G', rfl, hq, h'⟩
        exact hnext _ _ _ w' (hK r bs' hq) (hs.after h' hdlt) (put_defers _ _ _)
    · cases hb
  · rename_i b hfe
    obtain ⟨Q, hS0, hK⟩ := h
    have hS := hS0.norm
    intro E G a w rd n next QQ hs hdlt hnext
    have hfv := hs.ev hf
    rw [hfe] at hfv
    obtain ⟨hfv, _⟩ := hfv.inv_yl
    obtain ⟨a1, a2⟩ := hs.evs hr
    obtain ⟨f, tmps, assign, body, hy, hround⟩ := hS E G a w _ s.lo hs.boxes a1 a2
    refine ⟨fun _ _ => trivial, ?_⟩
    rw [Oper.semAt_eq _ _ _ (fun c e => by rw [ho] at e; cases e), exec_yield P _ o ho hfv hy]
    show ((F0 rd).depth.isSome = true → 1 ≤ n) ∧ RoundIn (F0 rd) (n - 1) P _ _ _ _ _ w _
    refine ⟨(fun e => by cases e), (hround rd (n - 1)).mono ?_⟩
    rintro e w' ⟨v, r, bs', G', rfl, hq, h'⟩
    exact hnext _ _ _ w' (hK r bs' hq) (hs.after h' hdlt) (put_defers _ _ _)
  · exact h.elim
end

inductive AX where
  | normal
  | exit (id : Nat)
  | ret
def AX.up : AX → Exit
  | .normal => .normal
  | .exit id => .exit id
  | .ret => .ret

/-- From state s the code leads to Q. fl: it does not stand in the body of a loop over an iterator. -/
def WP (P : Program) (nt : Nat) (fl : Bool) (c : Code) (s : St) (Q : AX → St → Prop) : Prop :=
  ∀ (E : Entry) (G : Gh) (a : Act) (w : World) (rd : Option Nat) (n : Nat), RS E G s a w → (E.nt = nt ∧ (fl = true → rd = none)) →
    c.wpIn (F0 rd) n P (fun e a' w' => ∃ x s' G', e = x.up ∧ Q x s' ∧ RS E G' s' a' w') a w

section
variable {P : Program} {nt : Nat} {fl : Bool} {s : St} {Q : AX → St → Prop}
theorem WP.mono {c : Code} {Q' : AX → St → Prop} (h : WP P nt fl c s Q) (hq : ∀ x s, Q x s → Q' x s) : WP P nt fl c s Q' := fun E G a w rd n hs he =>
  wpIn_mono (h E G a w rd n hs he) fun _ _ _ ⟨x, s', G', e, q, r⟩ => ⟨x, s', G', e, hq _ _ q, r⟩
theorem WP.skip (h : Q .normal s) : WP P nt fl .skip s Q := fun _ G _ _ _ _ hs _ => wpIn_skip ⟨.normal, s, G, rfl, h, hs⟩
theorem WP.label {l : Nat} (h : Q .normal s) : WP P nt fl (.label l) s Q := fun _ G _ _ _ _ hs _ => wpIn_label ⟨.normal, s, G, rfl, h, hs⟩
theorem WP.exit {id : Nat} (h : Q (.exit id) s) : WP P nt fl (.exit id) s Q := fun _ G _ _ _ _ hs _ => wpIn_exit ⟨.exit id, s, G, rfl, h, hs⟩
theorem WP.ret (h : Q .ret s) : WP P nt fl .ret s Q := fun _ G _ _ _ _ hs _ => wpIn_ret ⟨.ret, s, G, rfl, h, hs⟩
def thenQ (K : St → Prop) (Q : AX → St → Prop) : AX → St → Prop
  | .normal, s => K s
  | x, s => Q x s
theorem WP.seq {x y : Code} (h : WP P nt fl x s (thenQ (fun s' => WP P nt fl y s' Q) Q)) : WP P nt fl (.seq x y) s Q := fun E G a w rd n hs he => by
  refine wpIn_seq (wpIn_mono (h E G a w rd n hs he) ?_)
  rintro e a' w' ⟨x', s', G', rfl, q, hs'⟩
  cases x' with
  | normal =>
    refine wpIn_mono (q E G' a' w' rd n hs' he) ?_
    rintro e2 a2 w2 ⟨x2, s2, G2, e3, q2, hs2⟩
    exact ⟨x2, s2, G2, e3, q2, hs2⟩
  | exit id => exact ⟨.exit id, s', G', rfl, q, hs'⟩
  | ret => exact ⟨.ret, s', G', rfl, q, hs'⟩
theorem WP.cond {c : Operand} {r : Opd} (hc : opd c = some r) {x y : Code} (h : match s.ev r with
    | .bool b => (b = true → WP P nt fl x s Q) ∧ (b = false → WP P nt fl y s Q)
    | _ => False) : WP P nt fl (.cond c x y) s Q := fun E G a w rd n hs he => by
  split at h
  · rename_i b hb
    have hv := hs.ev hc
    rw [hb] at hv
    refine wpIn_cond_split hv.inv_bool (fun e => h.1 e E G a w rd n hs he) (fun e => h.2 e E G a w rd n hs he)
  · exact h.elim
def blockQ (id : Nat) (Q : AX → St → Prop) : AX → St → Prop
  | .exit id', s => match Nat.beq id' id with
    | true => Q .normal s
    | false => Q (.exit id') s
  | x, s => Q x s
theorem WP.block {id : Nat} {c : Code} (h : WP P nt fl c s (blockQ id Q)) : WP P nt fl (.block id c) s Q := fun E G a w rd n hs he => by
  refine wpIn_block (wpIn_mono (h E G a w rd n hs he) ?_)
  rintro e a' w' ⟨x', s', G', rfl, q, hs'⟩
  cases x' with
  | normal => exact ⟨.normal, s', G', rfl, q, hs'⟩
  | ret => exact ⟨.ret, s', G', rfl, q, hs'⟩
  | exit id' =>
    simp only [blockQ] at q
    by_cases e : id' = id
    · subst e
      have : Nat.beq id' id' = true := by simp
      rw [this] at q
      simp only [AX.up, Exit.inBlock, if_true]
      exact ⟨.normal, s', G', rfl, q, hs'⟩
    · rw [beq_ne e] at q
      simp only [AX.up, Exit.inBlock, if_neg e]
      exact ⟨.exit id', s', G', rfl, q, hs'⟩

theorem stepR_scope {P : Program} {b : Frame} {a : Act} {k : List Item} {cs : List Frame} {w : World} {c : Code} : step P (lone (b.atR a (.code (.scope c) :: k)) cs w) = .next (lone (b.atR a (.code c :: .inScope c :: k)) cs w) :=
  step_lone_go (by simp [stepG, stepG.exec, Frame.atR])
theorem stepR_inScope {P : Program} {b : Frame} {a : Act} {k : List Item} {cs : List Frame} {w : World} {c : Code} : step P (lone (b.atR a (.inScope c :: k)) cs w) = .next (lone (b.atR a k) cs w) :=
  step_lone_go (by simp [stepG, stepG.exec, Frame.atR])
theorem WP.scope {c : Code} (h : WP P nt fl c s Q) : WP P nt fl (.scope c) s Q := fun E G a w rd n hs he b k cs hro hb hr => by
  have h0 : (lone (b.atR a (.code (.scope c) :: k)) cs w).fenced P (F0 rd) := fenced_calm hb hr rfl
  obtain ⟨e, a₁, w₁, hq, harr⟩ := h E G a w rd n hs he b (.inScope c :: k) cs hro hb hr
  obtain ⟨x', s', G', rfl, q, hs'⟩ := hq
  cases x' with
  | normal => exact ⟨.normal, a₁, w₁, ⟨.normal, s', G', rfl, q, hs'⟩, .head h0 stepR_scope (StepsIn.trans harr (.one (fenced_calm hb hr rfl) stepR_inScope))⟩
  | exit id' =>
    have hx : exitTo id' (.inScope c :: k) = exitTo id' k := by simp [exitTo]
    exact ⟨.exit id', a₁, w₁, ⟨.exit id', s', G', rfl, q, hs'⟩, fun k' hk => .head h0 stepR_scope (harr.1 k' (by rw [hx]; exact hk)),
      fun hr' hk => let ⟨k₁, h1, h2⟩ := harr.2 hr' (by rw [hx]; exact hk); ⟨k₁, h1, .head h0 stepR_scope h2⟩⟩
  | ret => exact ⟨.ret, a₁, w₁, ⟨.ret, s', G', rfl, q, hs'⟩, .of_steps (.one h0 stepR_scope) harr⟩

/-- Less is known in s' than in s. -/
def Weak (s s' : St) : Prop := ∀ E G a w, RS E G s a w → ∃ G', RS E G' s' a w
theorem Weak.refl (s : St) : Weak s s := fun _ G _ _ h => ⟨G, h⟩
theorem Weak.trans {s1 s2 s3 : St} (h : Weak s1 s2) (k : Weak s2 s3) : Weak s1 s3 := fun E G a w hs => let ⟨G', h'⟩ := h E G a w hs; k E G' a w h'
theorem WP.weak {c : Code} {s' : St} (hw : Weak s s') (h : WP P nt fl c s' Q) : WP P nt fl c s Q := fun E G a w rd n hs he =>
  let ⟨G', h'⟩ := hw E G a w hs
  h E G' a w rd n h' he
theorem WP.weakQ {c : Code} (h : WP P nt fl c s fun x s' => ∃ s'', Weak s' s'' ∧ Q x s'') : WP P nt fl c s Q := fun E G a w rd n hs he =>
  wpIn_mono (h E G a w rd n hs he) fun _ _ _ ⟨x, _, _, e, ⟨s'', hw, q⟩, r⟩ => let ⟨G2, h2⟩ := hw _ _ _ _ r; ⟨x, s'', G2, e, q, h2⟩

theorem wpIn_loop' {F : Fence} {n : Nat} {c : Code} {Q : Exit → Act → World → Prop} (I : Nat → Act → World → Prop) {m : Nat} {a : Act} {w : World} (h₀ : I m a w)
    (round : ∀ m a w, I m a w → c.wpIn F n P (Exit.then (fun a' w' => ∃ m', m' < m ∧ I m' a' w') Q) a w) : (Code.loop c).wpIn F n P Q a w := by
  intro b k cs hro hb hr
  have key : ∀ j a w, I j a w →
      ∃ e a' w', Q e a' w' ∧ ArrivesIn (Machine.fenced P F) P (lone (b.atR a (.code c :: .inLoop c :: k)) cs w) b k cs e a' w' := by
    intro j
    induction j using Nat.strongRecOn with
    | _ j ih =>
      intro a w hI
      obtain ⟨e, a₁, w₁, hq, harr⟩ := round j a w hI b (.inLoop c :: k) cs hro hb hr
      cases e with
      | normal =>
        obtain ⟨m', hlt, hI₁⟩ := hq
        obtain ⟨e₂, a₂, w₂, hq₂, harr₂⟩ := ih m' hlt a₁ w₁ hI₁
        exact ⟨e₂, a₂, w₂, hq₂, .of_steps (StepsIn.trans harr (.one (fenced_calm hb hr rfl) stepR_inLoop)) harr₂⟩
      | exit id => exact ⟨_, a₁, w₁, hq, .pass (x := .inLoop c) rfl (fun _ _ => .inl (by simp)) harr⟩
      | goto l => exact ⟨_, a₁, w₁, hq, .pass (x := .inLoop c) rfl (fun _ _ => .inl (by simp)) harr⟩
      | ret => exact ⟨_, a₁, w₁, hq, .pass (x := .inLoop c) rfl (fun _ _ => .inl (by simp)) harr⟩
      | panic ch => exact ⟨_, a₁, w₁, hq, .pass (x := .inLoop c) rfl (fun _ _ => .inl (by simp)) harr⟩
      | outgrown => exact ⟨_, a₁, w₁, hq, .pass (x := .inLoop c) rfl (fun _ _ => .inl (by simp)) harr⟩
  obtain ⟨e, a', w', hq, harr⟩ := key _ a w h₀
  exact ⟨e, a', w', hq, .of_steps (.one (fenced_calm hb hr rfl) stepR_loop) harr⟩

/-- a loop: what holds at every round's head, with a number that goes down -/
theorem WP.loop {c : Code} (I : Nat → St → Prop) {m : Nat} (h0 : I m s) (round : ∀ m s, I m s → WP P nt fl c s (thenQ (fun s' => ∃ m', m' < m ∧ I m' s') Q)) : WP P nt fl (.loop c) s Q := fun E G a w rd n hs he => by
  refine wpIn_loop' (fun m a' w' => ∃ s' G', I m s' ∧ RS E G' s' a' w') ⟨s, G, h0, hs⟩ ?_
  rintro m a1 w1 ⟨s1, G1, h1, hs1⟩
  refine wpIn_mono (round m s1 h1 E G1 a1 w1 rd n hs1 he) ?_
  rintro e a' w' ⟨x', s', G', rfl, q, hs'⟩
  cases x' with
  | normal => obtain ⟨m', hlt, hI⟩ := q; exact ⟨m', hlt, s', G', hI, hs'⟩
  | exit id => exact ⟨.exit id, s', G', rfl, q, hs'⟩
  | ret => exact ⟨.ret, s', G', rfl, q, hs'⟩
end
end Go.AM

namespace Go.AM
open Go.CK Go.RowKit

/-- An exact contract: the function reads its arguments, makes memory, and hands back r. -/
def Fun (P : Program) (f : FuncId) (vals : List AV) (r : AV) : Prop := ∀ bs, Sem P f vals bs fun r' bs' => r' = r ∧ bs' = bs

inductive RX where
  | mov (o : Opd)
  | take (t : Nat)
  | minmax (mx : Bool) (x y : Opd)
  | idxA (len sz : Nat) (x i : Opd)
  | idxV (agg : Bool) (len sz : Nat) (x i : Opd)
  | slc (sz : Nat) (x : Opd) (lo hi mx : Option Opd)
  | slcS (x : Opd) (lo hi : Option Opd)
  | callv (f : Opd) (args : List Opd)
  | pick (c a b : Opd)
  | nilck (o : Opd)
  | fptr (off : Nat) (o : Opd)
  | idx (sz : Nat) (x i : Opd)
  | idxS (x i : Opd)
  | fld (agg : Bool) (off n : Nat) (o : Opd)
  | ext (i : Nat) (o : Opd)
  | len (str : Bool) (o : Opd)
  | un (op : UnOp) (o : Opd)
  | conv (k : Option IntKind) (o : Opd)
  | bin (op : BinOp) (x y : Opd)
  | load (agg : Bool) (n : Nat) (o : Opd)
  | build (zs : List AV) (parts : List (Nat × Nat × Opd))
  | bslice (sz : Nat) (rs : List Opd)
  | mk (sz : Nat) (z : AV) (l c : Opd)
  | mkfn (f : Fn) (xs ys : List Opd)
  | box (o : Opd)
  | store (n : Nat) (p x : Opd)
  | append (z : Nat) (s x : Opd)
  | call (f : Opd) (args : List Opd)
  | more (g : More) (args : List Opd)
  | eff (e : Eff) (args : List Opd)
deriving Inhabited

/-- operations that only read: their value, out of the operands' values and of what lies behind pointers -/
def RX.pK (rx : RX) (ev : Opd → AV) (rd : AV → Option (List AV)) (K : AV → Prop) : Prop :=
  match rx with
  | .mov o => K (ev o)
  | .pick c a b => pickK (ev c) (ev a) (ev b) K
  | .nilck o => nilckK (ev o) K
  | .fptr off o => fptrK off (ev o) K
  | .idx sz x i => idxK sz (ev x) (ev i) K
  | .idxS x i => idxSK (ev x) (ev i) K
  | .fld agg off n o => fldK agg off n (ev o) K
  | .ext i o => extK i (ev o) K
  | .len str o => lenK str (ev o) K
  | .un op o => unK op (ev o) K
  | .conv k o => convK k (ev o) K
  | .bin op x y => binK op (ev x) (ev y) K
  | .load agg n o => loadK agg n (rd (ev o)) K
  | .build zs parts => fillK ev parts zs fun cs => K (.agg cs)
  | .bslice sz rs => elemsOf ev sz rs fun l => K (.sl .full l)
  | .mk sz z l c => mkK sz z (ev l) (ev c) K
  | .mkfn f xs ys => K (.fn f (evs ev xs) (evs ev ys))
  | .minmax mx x y => mmK mx (ev x) (ev y) K
  | .idxA ln sz x i => idxAK ln sz (ev x) (ev i) K
  | .idxV agg ln sz x i => idxVK agg ln sz (ev x) (ev i) K
  | .slc sz x lo hi mx => slcK sz (ev x) (lo.map ev) (hi.map ev) (mx.map ev) K
  | .slcS x lo hi => slcSK (ev x) (lo.map ev) (hi.map ev) K
  | .more g args => moreK g (evs ev args) K
  | _ => False

/-- a function value that is called is a function of the program -/
def callable (P : Program) (f : AV) : Prop :=
  match f with
  | .fn (.func k) _ _ => hasBody P k = true
  | .yl _ => True
  | _ => False
def pcallK (P : Program) (f : AV) (args : List AV) (K : AV → Prop) : Prop :=
  match f with
  | .fn (.func f) xs ys => ∃ r, Fun P f ((xs ++ args ++ ys).map AV.norm) r ∧ K r
  | _ => False

/-- what the operation does from state s; dr: the region draws its order -/
def RX.run (P : Program) (dr : Bool) (rx : RX) (s : St) (d : Option Nat) (K : St → Prop) : Prop :=
  match rx with
  | .mov o => match dr with
    | true => K (s.put d (s.ev o))
    | false => movK s d o K
  | .take t => movK s d (.t t) K
  | .callv f args => callable P (s.ev f) ∧ (match dr with
    | true => pcallK P (s.ev f) (evs s.ev args) fun r => K (s.put d r)
    | false => callK P s d (s.ev f) (evs s.ev args) K)
  | .box o => boxK s (s.ev o) fun r s' => K (s'.put d r)
  | .load agg n o => match dr with
    | true => loadK agg n (s.rd (s.ev o)) fun r => K (s.put d r)
    | false => loadTK agg n s d (s.ev o) K
  | .store n p x => match dr with
    | true => storeK n s (s.ev p) (s.ev x) K
    | false => storeTK n s (s.ev p) x K
  | .append z o x => appendK z s o (s.ev x) fun r s' => K (s'.put d r)
  | .call f args => match dr with
    | true => pcallK P (s.ev f) (evs s.ev args) fun r => K (s.put d r)
    | false => callK P s d (s.ev f) (evs s.ev args) K
  | .eff e args => match dr with
    | true => False
    | false => effK e (evs s.ev args) s d K
  | rx => rx.pK s.ev s.rd fun r => K (s.put d r)

def cParts (P : Program) (fs : Array Field) : List (Nat × Operand) → Option (List (Nat × Nat × Opd))
  | [] => some []
  | (i, x) :: r => match fs[i]?, opd x, cParts P fs r with
    | some f, some rx, some rs => match szOf P f.type with
      | some k => some ((f.offset, k, rx) :: rs)
      | none => none
    | _, _, _ => none
def cElems (k : Nat) : List (Nat × Operand) → Option (List Opd)
  | [] => some []
  | (i, x) :: r => match Nat.beq i k, opd x, cElems (k + 1) r with
    | true, some rx, some rs => some (rx :: rs)
    | _, _, _ => none
def allSz (P : Program) (fs : List Field) : Bool := fs.all fun f => (szOf P f.type).isSome

def cMov (tk : Nat → Nat → Bool) (d : Option Nat) (x : Operand) : Option RX :=
  match x, d with
  | .tmp t, some d => match tk d d with
    | true => some (.more .see [.t t])
    | false => match tk d t with
      | true => some (.take t)
      | false => some (.mov (.t t))
  | x, _ => (opd x).map .mov
def cBin (P : Program) (op : BinOp) (t : TypeId) (x y : Opd) : Option RX :=
  match op, P.underlying t with
  | .eql, some (.struct _) => (eqaOf P t).map fun ks => .more (.eqA false ks) [x, y]
  | .neq, some (.struct _) => (eqaOf P t).map fun ks => .more (.eqA true ks) [x, y]
  | .eql, some (.slice _) => match y with
    | .c (.sl .full []) => some (.eff (.nilS false) [x])
    | _ => none
  | .neq, some (.slice _) => match y with
    | .c (.sl .full []) => some (.eff (.nilS true) [x])
    | _ => none
  | .eql, some .bool => some (.more (.eqB false) [x, y])
  | .neq, some .bool => some (.more (.eqB true) [x, y])
  | op, _ => some (.bin op x y)
/-- the operation is to be made one on rows -/
def hinted (tk : Nat → Nat → Bool) : Option Nat → Bool
  | some d => tk d d
  | none => false
def cAppB (P : Program) (t u : TypeId) (x y : Operand) : Option RX :=
  match P.underlying t, opd x, opd y with
  | some (.slice e), some x, some y => match P.info? e with
    | some i => match i.zero with
      | some z => match avOf z with
        | some zx => match Nat.beq z.cells.size i.size && (Nat.ble i.bytes 4096 && (cellOk zx && zx.flat)), Nat.beq t u, P.underlying u with
          | true, true, _ => some (.eff (.appB i.size) [x, y])
          | true, false, some (.int _) => some (.eff (.appZ i.size) [x, y])
          | _, _, _ => none
        | none => none
      | none => none
    | none => none
  | _, _, _ => none
def cSlN (x : Opd) (lo hi mx : Option Opd) : Option RX :=
  match lo, hi, mx with
  | none, some h, none => some (.eff .slN [x, h])
  | _, _, _ => none
def cRX (P : Program) (tk : Nat → Nat → Bool) (o : Oper) : Option RX :=
  match o.op with
  | .move x | .assign x => cMov tk o.dst x
  | .pick c a b => match opd c, opd a, opd b with
    | some c, some a, some b => some (.pick c a b)
    | _, _, _ => none
  | .alloc t => match P.info? t with
    | some i => match i.zero with
      | some z => (avOf z).map fun x => .box (.c x)
      | none => none
    | none => none
  | .box _ x => (opd x).map .box
  | .build t ps => match P.underlying t, P.info? t with
    | some (.struct fs), some i => match i.zero with
      | some z => match avsOf z.cells.toList, cParts P fs ps.toList with
        | some zs, some parts => if allSz P fs.toList then some (.build zs parts) else none
        | _, _ => none
      | none => none
    | _, _ => none
  | .buildSlice t n ps => match P.underlying t with
    | some (.slice e) => match P.info? e, cElems 0 ps.toList with
      | some i, some rs => if i.zero.isSome && (decide (n * i.size ≤ 16777216) && (decide (n ≤ glim) && Nat.beq rs.length n)) then some (.bslice i.size rs) else none
      | _, _ => none
    | _ => none
  | .load t x => match aggOf P t, szOf P t, opd x with
    | some agg, some n, some x => match hinted tk o.dst with
      | true => some (.more (.lde agg n) [x])
      | false => some (.load agg n x)
    | _, _, _ => none
  | .store t p x => match szOf P t, opd p, opd x, o.dst with
    | some n, some p, some x, none => some (.store n p x)
    | _, _, _, _ => none
  | .nilCheck x => (opd x).map .nilck
  | .binOp op t x y _ => match opd x, opd y with
    | some x, some y => cBin P op t x y
    | _, _ => none
  | .unOp op _ x => (opd x).map (.un op)
  | .convert t u x => match P.underlying t, P.underlying u, opd x with
    | some _, some (.int k), some x => some (.conv (some k) x)
    | some (.slice e), some .string, some x => match P.underlying e with
      | some (.int .u8) => some (.more .bts [x])
      | _ => none
    | some _, some .string, some x => some (.conv none x)
    | _, _, _ => none
  | .makeFunc f xs ys => match opds xs.toList, opds ys.toList with
    | some xs, some ys => some (.mkfn f xs ys)
    | _, _ => none
  | .makeSlice t l c => match P.underlying t with
    | some (.slice e) => match P.info? e, opd l, opd c with
      | some i, some l, some c => match i.zero with
        | some z => match avOf z with
          | some x => if Nat.beq z.cells.size i.size && (Nat.ble i.bytes 4096 && (cellOk x && x.flat)) && o.dst.isSome then (match hinted tk o.dst with
            | true => some (.eff (.mkB i.size x) [l, c])
            | false => some (.mk i.size x l c)) else none
          | none => none
        | none => none
      | _, _, _ => none
    | _ => none
  | .fieldAddr t x f => match P.underlying t, opd x with
    | some (.struct fs), some x => match fs[f]? with
      | some fd => match szOf P fd.type with
        | some (_ + 1) => some (.fptr fd.offset x)
        | _ => none
      | none => none
    | _, _ => none
  | .field t x f => match P.underlying t, opd x with
    | some (.struct fs), some x => match fs[f]? with
      | some fd => match aggOf P fd.type, szOf P fd.type with
        | some agg, some n => some (.fld agg fd.offset n x)
        | _, _ => none
      | none => none
    | _, _ => none
  | .indexAddr t x i => match P.underlying t, opd x, opd i with
    | some (.slice e), some x, some i => match szOf P e with
      | some sz => some (.idx sz x i)
      | none => none
    | some (.array len e), some x, some i => match szOf P e with
      | some sz => some (.idxA len sz x i)
      | none => none
    | _, _, _ => none
  | .index t x i => match P.underlying t, opd x, opd i with
    | some .string, some x, some i => some (.idxS x i)
    | some (.array len e), some x, some i => match szOf P e, aggOf P e with
      | some sz, some agg => if agg || Nat.beq sz 1 then some (.idxV agg len sz x i) else none
      | _, _ => none
    | _, _, _ => none
  | .slice t x lo hi mx => match P.underlying t, opd x, opdO lo, opdO hi, opdO mx with
    | some (.slice e), some x, some lo, some hi', some mx' => match szOf P e with
      | some sz => match hinted tk o.dst with
        | true => cSlN x lo hi' mx'
        | false => if !mx.isSome || hi.isSome then some (.slc sz x lo hi' mx') else none
      | none => none
    | some .string, some x, some lo, some hi, some _ => match mx with
      | none => some (.slcS x lo hi)
      | some _ => none
    | _, _, _, _, _ => none
  | .extract x i => (opd x).map (.ext i)
  | .call { callee := .builtin .len, args := ⟨[x]⟩, argTypes := ⟨[t]⟩ } => match P.underlying t, opd x with
    | some .string, some x => some (.len true x)
    | some (.slice _), some x => some (.len false x)
    | _, _ => none
  | .call { callee := .builtin .cap, args := ⟨[x]⟩, argTypes := ⟨[t]⟩ } => match P.underlying t, opd x with
    | some (.slice _), some x => some (.more .cap [x])
    | _, _ => none
  | .makeMap t r => match P.underlying t, opdO r with
    | some (.map _ _), some r => some (.eff .mkM r.toList)
    | _, _ => none
  | .mapUpdate t m k v => match P.underlying t, opd m, opd k, opd v, o.dst with
    | some (.map kt _), some m, some k, some v, none => match P.underlying kt with
      | some (.int _) => some (.eff .setM [m, k, v])
      | _ => none
    | _, _, _, _, _ => none
  | .lookup t m k ok => match P.underlying t, opd m, opd k with
    | some (.map kt et), some m, some k => match P.underlying kt, P.info? et with
      | some (.int _), some i => match i.zero with
        | some z => (avOf z).map fun zx => .eff (.getM ok zx) [m, k]
        | none => none
      | _, _ => none
    | _, _, _ => none
  | .call { callee := .builtin .append, args := ⟨[x, y]⟩, argTypes := ⟨[t, u]⟩ } => match hinted tk o.dst with
   | true => cAppB P t u x y
   | false => match Nat.beq t u, P.underlying t, opd x, opd y with
    | true, some (.slice e), some x, some y => match P.info? e with
      | some i => match i.zero with
        | some z => if Nat.beq z.cells.size i.size && (Nat.ble i.bytes 4096 && o.dst.isSome) then some (.append i.size x y) else none
        | none => none
      | none => none
    | _, _, _, _ => none
  | .call { callee := .builtin .max, args := ⟨[x, y]⟩, .. } => match opd x, opd y with
    | some x, some y => some (.minmax true x y)
    | _, _ => none
  | .call { callee := .builtin .min, args := ⟨[x, y]⟩, .. } => match opd x, opd y with
    | some x, some y => some (.minmax false x y)
    | _, _ => none
  | .call { callee := .value f, args := args, .. } => match opd f, opds args.toList with
    | some (.c (.fn (.func k) xs ys)), some rs => if hasBody P k then some (.call (.c (.fn (.func k) xs ys)) rs) else none
    | some (.t t), some rs => some (.callv (.t t) rs)
    | _, _ => none
  | _ => none

theorem cParts_get {P : Program} {fs : Array Field} : ∀ {ps : List (Nat × Operand)} {parts : List (Nat × Nat × Opd)}, cParts P fs ps = some parts → ps.length = parts.length ∧
    ∀ i (h : i < ps.length) (h' : i < parts.length), (∃ f, fs[ps[i].1]? = some f ∧ f.offset = parts[i].1 ∧ szOf P f.type = some parts[i].2.1) ∧ opd ps[i].2 = some parts[i].2.2
  | [], parts, h => by cases h; exact ⟨rfl, fun i h => by cases h⟩
  | (i, x) :: r, parts, h => by
    simp only [cParts] at h
    split at h
    · rename_i f rx rs h1 h2 h3
      split at h
      · rename_i k h4
        cases h
        obtain ⟨h5, h6⟩ := cParts_get h3
        refine ⟨by simp [h5], fun j hj hj' => ?_⟩
        cases j with
        | zero => exact ⟨⟨f, h1, rfl, h4⟩, h2⟩
        | succ j =>
          simp only [List.getElem_cons_succ]
          exact h6 j (by simpa using hj) (by simpa using hj')
      · cases h
    · cases h
theorem cElems_get : ∀ {ps : List (Nat × Operand)} {rs : List Opd} {k : Nat}, cElems k ps = some rs → ps.length = rs.length ∧ ∀ i (h : i < ps.length) (h' : i < rs.length), ps[i].1 = k + i ∧ opd ps[i].2 = some rs[i]
  | [], rs, k, h => by cases h; exact ⟨rfl, fun i h => by cases h⟩
  | (i, x) :: r, rs, k, h => by
    simp only [cElems] at h
    split at h
    · rename_i rx rs' h1 h2 h3
      cases h
      have h1 := Nat.eq_of_beq_eq_true h1
      obtain ⟨h5, h6⟩ := cElems_get h3
      refine ⟨by simp [h5], fun j hj hj' => ?_⟩
      cases j with
      | zero => exact ⟨by simpa using h1, h2⟩
      | succ j =>
        simp only [List.getElem_cons_succ]
        obtain ⟨h7, h8⟩ := h6 j (by simpa using hj) (by simpa using hj')
        exact ⟨by omega, h8⟩
    · cases h

theorem opdO_none {o : Option Operand} (h : opdO o = some none) : o = none := by
  cases o with
  | none => rfl
  | some x =>
    simp only [opdO] at h
    split at h <;> cases h
theorem opdO_some {o : Option Operand} {r : Opd} (h : opdO o = some (some r)) : ∃ x, o = some x ∧ opd x = some r := by
  cases o with
  | none => cases h
  | some x =>
    simp only [opdO] at h
    split at h
    · rename_i q hq
      cases h
      exact ⟨x, rfl, hq⟩
    · cases h
theorem Fun.sem {P : Program} {s : St} {d : Option Nat} {f : AV} {args : List AV} {K : St → Prop} (h : pcallK P f args fun r => K (s.put d r)) : callK P s d f args K := by
  unfold pcallK at h
  split at h
  · rename_i f xs ys
    obtain ⟨r, h1, h2⟩ := h
    exact ⟨_, .inl (h1 s.bs), fun r' bs' ⟨e1, e2⟩ => by subst e1 e2; exact h2⟩
  · exact h.elim

theorem mov_dr {P : Program} {s : St} {o : Oper} {x : Operand} (ho : o.op = .move x ∨ o.op = .assign x) {rx : Opd} (hx : opd x = some rx) {K : St → Prop} (h : K (s.put o.dst (s.ev rx))) : OpS P o s K := by
  have hd : ∀ c, o.op ≠ .defer c := fun c e => by rcases ho with ho | ho <;> (rw [ho] at e; cases e)
  exact OpS.pure _ hd h fun E G a w hs => ⟨a.eval x, by unfold execOp; rcases ho with ho | ho <;> simp [ho], hs.ev hx⟩

theorem cMov_sound {P : Program} {tk : Nat → Nat → Bool} {o : Oper} {x : Operand} (ho : o.op = .move x ∨ o.op = .assign x) {rx : RX} (hc : cMov tk o.dst x = some rx) {dr : Bool} {s : St} {K : St → Prop} (h : rx.run P dr s o.dst K) : OpS P o s K := by
  have plain : ∀ r, opd x = some r → rx = .mov r → OpS P o s K := fun r hr e => by
    subst e
    cases dr with
    | true => exact mov_dr ho hr h
    | false => exact mov_sound ho hr h
  have rest : (opd x).map .mov = some rx → OpS P o s K := fun hc => by
    cases hx : opd x with
    | none => rw [hx] at hc; cases hc
    | some r => rw [hx] at hc; cases hc; exact plain r hx rfl
  cases x with
  | tmp t =>
    cases hd : o.dst with
    | none => rw [hd] at hc; exact rest hc
    | some d =>
      rw [hd] at hc
      simp only [cMov] at hc
      split at hc
      · cases hc; exact mov_dr ho rfl h
      · split at hc
        · cases hc; exact mov_sound ho rfl h
        · cases hc; exact plain _ rfl rfl
  | const v => exact rest hc
  | func f => exact rest hc
  | global g => exact rest hc

set_option maxHeartbeats 1000000 in
theorem cRX_sound {P : Program} {tk : Nat → Nat → Bool} {o : Oper} {rx : RX} (hc : cRX P tk o = some rx) {dr : Bool} {s : St} {K : St → Prop} (h : rx.run P dr s o.dst K) : OpS P o s K := by
  unfold cRX at hc
  split at hc
  · rename_i x ho; exact cMov_sound (.inl ho) hc h
  · rename_i x ho; exact cMov_sound (.inr ho) hc h
  · rename_i c a b ho
    split at hc
    · rename_i c' a' b' h1 h2 h3
      cases hc
      exact pick_sound ho h1 h2 h3 h
    · cases hc
  · rename_i t ho
    split at hc
    · rename_i i hi
      split at hc
      · rename_i z hz
        cases hx : avOf z with
        | none => rw [hx] at hc; cases hc
        | some x => rw [hx] at hc; cases hc; exact alloc_sound ho hi hz hx h
      · cases hc
    · cases hc
  · rename_i t x ho
    cases hx : opd x with
    | none => rw [hx] at hc; cases hc
    | some r => rw [hx] at hc; cases hc; exact box_sound ho hx h
  · rename_i t ps ho
    split at hc
    · rename_i fs i ht hi
      split at hc
      · rename_i z hz
        split at hc
        · rename_i zs parts h1 h2
          split at hc
          · rename_i hall
            cases hc
            obtain ⟨h3, h4⟩ := cParts_get h2
            refine build_sound ho ht hi hz h1 (fun f hf => ?_) h3 h4 h
            simp only [allSz, List.all_eq_true] at hall
            have := hall f (by simpa using hf)
            exact Option.isSome_iff_exists.1 this
          · cases hc
        · cases hc
      · cases hc
    · cases hc
  · rename_i t n ps ho
    split at hc
    · rename_i e ht
      split at hc
      · rename_i i rs hi hr
        split at hc
        · rename_i hall
          cases hc
          simp only [Bool.and_eq_true, decide_eq_true_eq] at hall
          obtain ⟨hz, hlim, hn, hl⟩ := hall
          obtain ⟨z, hz⟩ := Option.isSome_iff_exists.1 hz
          obtain ⟨h3, h4⟩ := cElems_get hr
          refine bslice_sound ho ht hi hz rfl hlim hn h3 (Nat.eq_of_beq_eq_true hl) (fun i h h' => ?_) h
          obtain ⟨h5, h6⟩ := h4 i h h'
          exact ⟨by omega, h6⟩
        · cases hc
      · cases hc
    · cases hc
  · rename_i t x ho
    split at hc
    · rename_i agg n x' h1 h2 h3
      split at hc
      · cases hc
        exact lde_sound ho h3 h1 (fun _ => h2) h
      · cases hc
        cases dr with
        | true => exact load_sound ho h3 h1 (fun _ => h2) h
        | false => exact loadT_sound ho h3 h1 (fun _ => h2) h
    · cases hc
  · rename_i t p x ho
    split at hc
    · rename_i n p' x' h1 h2 h3 h4
      cases hc
      cases dr with
      | true => exact store_sound ho h4 h2 h3 h1 h
      | false => exact storeT_sound ho h4 h2 h3 h1 h
    · cases hc
  · rename_i x ho
    cases hx : opd x with
    | none => rw [hx] at hc; cases hc
    | some r => rw [hx] at hc; cases hc; exact nilck_sound ho hx h
  · rename_i op t x y u ho
    split at hc
    · rename_i x' y' h1 h2
      unfold cBin at hc
      split at hc
      · cases hk : eqaOf P t with
        | none => rw [hk] at hc; cases hc
        | some ks => rw [hk] at hc; cases hc; exact eqA_sound (neg := false) ho h1 h2 hk h
      · cases hk : eqaOf P t with
        | none => rw [hk] at hc; cases hc
        | some ks => rw [hk] at hc; cases hc; exact eqA_sound (neg := true) ho h1 h2 hk h
      · rename_i ht
        split at hc
        · cases hc
          cases dr with
          | true => exact h.elim
          | false =>
            have h : effK (.nilS false) [s.ev x'] s o.dst K := h
            cases hxe : s.ev x' <;> rw [hxe] at h <;> first | exact h.elim | exact nilS_sound (neg := false) ho h1 (opd_nilS h2) ht hxe h
        · cases hc
      · rename_i ht
        split at hc
        · cases hc
          cases dr with
          | true => exact h.elim
          | false =>
            have h : effK (.nilS true) [s.ev x'] s o.dst K := h
            cases hxe : s.ev x' <;> rw [hxe] at h <;> first | exact h.elim | exact nilS_sound (neg := true) ho h1 (opd_nilS h2) ht hxe h
        · cases hc
      · rename_i ht; cases hc; exact eqB_sound (neg := false) ho h1 h2 ht h
      · rename_i ht; cases hc; exact eqB_sound (neg := true) ho h1 h2 ht h
      · cases hc; exact binK_sound ho h1 h2 h
    · cases hc
  · rename_i op t x ho
    cases hx : opd x with
    | none => rw [hx] at hc; cases hc
    | some r => rw [hx] at hc; cases hc; exact un_sound ho hx h
  · rename_i t u x ho
    split at hc
    · rename_i k x' h1 h2 h3
      cases hc
      exact conv_sound (k := some _) ho h3 h1 h2 h
    · rename_i e x' h1 h2 h3
      split at hc
      · rename_i h4
        cases hc
        exact bts_sound ho h3 h1 h4 h2 h
      · cases hc
    · rename_i x' _ h1 h2 h3
      cases hc
      exact conv_sound (k := none) ho h3 h1 h2 h
    · cases hc
  · rename_i f xs ys ho
    split at hc
    · rename_i xs' ys' h1 h2
      cases hc
      exact mkfn_sound ho h1 h2 h
    · cases hc
  · rename_i t l c ho
    split at hc
    · rename_i e ht
      split at hc
      · rename_i i l' c' hi h1 h2
        split at hc
        · rename_i z hz
          split at hc
          · rename_i x hx
            split at hc
            · rename_i hall
              simp only [Bool.and_eq_true] at hall
              obtain ⟨⟨h3, h4, h5, h6⟩, h7⟩ := hall
              obtain ⟨d, hd⟩ := Option.isSome_iff_exists.1 h7
              split at hc
              · cases hc
                cases dr with
                | true => exact h.elim
                | false => exact mkB_sound ho ht hi hz rfl (Nat.eq_of_beq_eq_true h3) (Nat.le_of_ble_eq_true h4) hx h5 h6 h1 h2 h
              · cases hc
                exact mk_sound ho hd ht hi hz rfl (Nat.eq_of_beq_eq_true h3) (Nat.le_of_ble_eq_true h4) hx h5 h6 h1 h2 h
            · cases hc
          · cases hc
        · cases hc
      · cases hc
    · cases hc
  · rename_i t x f ho
    split at hc
    · rename_i fs x' ht hx
      split at hc
      · rename_i fd hf
        split at hc
        · rename_i k hk
          cases hc
          exact fptr_sound ho hx ht hf hk (by omega) h
        · cases hc
      · cases hc
    · cases hc
  · rename_i t x f ho
    split at hc
    · rename_i fs x' ht hx
      split at hc
      · rename_i fd hf
        split at hc
        · rename_i agg n h1 h2
          cases hc
          exact fld_sound ho hx ht hf h1 (fun _ => h2) h
        · cases hc
      · cases hc
    · cases hc
  · rename_i t x i ho
    split at hc
    · rename_i e x' i' ht hx hi
      split at hc
      · rename_i sz hsz
        cases hc
        exact idx_sound ho hx hi ht hsz h
      · cases hc
    · rename_i len e x' i' ht hx hi
      split at hc
      · rename_i sz hsz
        cases hc
        exact idxA_sound ho hx hi ht hsz h
      · cases hc
    · cases hc
  · rename_i t x i ho
    split at hc
    · rename_i x' i' ht hx hi
      cases hc
      exact idxS_sound ho hx hi ht h
    · rename_i len e x' i' ht hx hi
      split at hc
      · rename_i sz agg hsz ha
        split at hc
        · rename_i hall
          cases hc
          exact idxV_sound ho hx hi ht hsz ha (fun e => by rw [e] at hall; simpa using hall) h
        · cases hc
      · cases hc
    · cases hc
  · rename_i t x lo hi mx ho
    split at hc
    · rename_i e x' lo' hi' mx' ht hx hlo hhi hmx
      split at hc
      · rename_i sz hsz
        split at hc
        · unfold cSlN at hc
          split at hc
          · rename_i h'
            cases hc
            have e1 : lo = none := opdO_none hlo
            have e2 : mx = none := opdO_none hmx
            obtain ⟨xh, e3, e4⟩ := opdO_some hhi
            subst e1 e2 e3
            cases dr with
            | true => exact h.elim
            | false =>
              have h : slNK (s.ev x') (s.ev h') s o.dst K := h
              unfold slNK at h
              split at h
              · rename_i ki n hxe hhe
                obtain ⟨h0, hK⟩ := h
                subst h0
                exact slN_sound ho hx e4 ht hsz hxe hhe hK
              · exact h.elim
          · cases hc
        · split at hc
          · rename_i hall
            cases hc
            exact slc_sound ho hx hlo hhi hmx ht hsz (fun e => by rw [e] at hall; simpa using hall) h
          · cases hc
      · cases hc
    · rename_i x' lo' hi' mx' ht hx hlo hhi hmx
      split at hc
      · cases hc
        exact slcS_sound ho hx hlo hhi ht h
      · cases hc
    · cases hc
  · rename_i x i ho
    cases hx : opd x with
    | none => rw [hx] at hc; cases hc
    | some r => rw [hx] at hc; cases hc; exact ext_sound ho hx h
  · rename_i x t ho
    split at hc
    · rename_i x' ht hx
      cases hc
      exact len_sound ho hx (.inl ⟨rfl, ht⟩) h
    · rename_i e x' ht hx
      cases hc
      exact len_sound ho hx (.inr ⟨rfl, e, ht⟩) h
    · cases hc
  · rename_i x t ho
    split at hc
    · rename_i e x' ht hx
      cases hc
      exact cap_sound ho hx ht h
    · cases hc
  · rename_i t r ho
    split at hc
    · rename_i kt et r' ht hr
      cases hc
      cases dr with
      | true => exact h.elim
      | false =>
        refine makeMap_sound ho hr ht ?_
        cases r' with
        | none => exact ⟨trivial, h⟩
        | some q =>
          have h : effK .mkM [s.ev q] s o.dst K := h
          cases hqe : s.ev q <;> rw [hqe] at h <;> first | exact h.elim | skip
          simp only [Option.map_some, hqe]
          exact ⟨trivial, h⟩
    · cases hc
  · rename_i t m k v ho
    split at hc
    · rename_i kt et m' k' v' ht hm hk hv hdn
      split at hc
      · rename_i ik hkt
        cases hc
        cases dr with
        | true => exact h.elim
        | false => exact mapUpdate_sound ho hdn hm hk hv ht hkt h
      · cases hc
    · cases hc
  · rename_i t m k ok ho
    split at hc
    · rename_i kt et m' k' ht hm hk
      split at hc
      · rename_i ik i hkt hi
        split at hc
        · rename_i z hz
          cases hx : avOf z with
          | none => rw [hx] at hc; cases hc
          | some zx =>
            rw [hx] at hc; cases hc
            cases dr with
            | true => exact h.elim
            | false => exact lookup_sound ho hm hk ht hkt hi hz hx h
        · cases hc
      · cases hc
    · cases hc
  · rename_i x y t u ho
    split at hc
    · unfold cAppB at hc
      split at hc
      · rename_i e x' y' ht hx hy
        split at hc
        · rename_i i hi
          split at hc
          · rename_i z hz
            split at hc
            · rename_i zx hzx
              split at hc
              · rename_i _ hall htu
                cases hc
                have htu := Nat.eq_of_beq_eq_true htu
                subst htu
                simp only [Bool.and_eq_true] at hall
                obtain ⟨h3, h4, h5, h6⟩ := hall
                cases dr with
                | true => exact h.elim
                | false => exact appB_sound ho ht hi hz rfl (Nat.eq_of_beq_eq_true h3) (Nat.le_of_ble_eq_true h4) hzx h5 hx hy h
              · rename_i ik hall _ hu
                cases hc
                simp only [Bool.and_eq_true] at hall
                obtain ⟨h3, h4, h5, h6⟩ := hall
                cases dr with
                | true => exact h.elim
                | false => exact appZ_sound ho ht hu hi hz rfl (Nat.eq_of_beq_eq_true h3) (Nat.le_of_ble_eq_true h4) hzx h5 h6 hx hy h
              · cases hc
            · cases hc
          · cases hc
        · cases hc
      · cases hc
    · split at hc
      · rename_i e x' y' htu ht hx hy
        have htu := Nat.eq_of_beq_eq_true htu
        subst htu
        split at hc
        · rename_i i hi
          split at hc
          · rename_i z hz
            split at hc
            · rename_i hall
              cases hc
              simp only [Bool.and_eq_true] at hall
              obtain ⟨h3, h4, h5⟩ := hall
              obtain ⟨d, hd⟩ := Option.isSome_iff_exists.1 h5
              exact append_sound ho hd ⟨ht, i, z, hi, hz, rfl, Nat.eq_of_beq_eq_true h3, Nat.le_of_ble_eq_true h4⟩ hx hy h
            · cases hc
          · cases hc
        · cases hc
      · cases hc
  · rename_i x y ts ho
    split at hc
    · rename_i x' y' hx hy
      cases hc
      exact mm_sound (mx := true) ho hx hy h
    · cases hc
  · rename_i x y ts ho
    split at hc
    · rename_i x' y' hx hy
      cases hc
      exact mm_sound (mx := false) ho hx hy h
    · cases hc
  · rename_i f args ts ho
    split at hc
    · rename_i k xs ys rs hf hr
      split at hc
      · rename_i hb
        cases hc
        refine call_sound ho hf hr (fun f' xs' ys' e => by cases e; exact hb) ?_
        cases dr with
        | true => exact Fun.sem h
        | false => exact h
      · cases hc
    · rename_i t rs hf hr
      cases hc
      refine call_sound ho hf hr (fun f' xs' ys' e => by have := h.1; rw [e] at this; exact this) ?_
      have h2 := h.2
      cases dr with
      | true => exact Fun.sem h2
      | false => exact h2
    · cases hc
  · cases hc
end Go.AM

