/-
  Texts of this claim joined (wip/gen/bundle.py), those declarations only that are needed: AmY AmZ. By an AI agent.
-/
import Derived.Test.YtcjfkbdbcgmomaaGreatDoorBaj
set_option linter.unusedSimpArgs false
set_option linter.unusedVariables false
namespace Go.AM
open Go.CK Go.RowKit
section
variable {P : Program}
theorem ROp.mono {dr : Bool} {r : ROp} {s : St} {K K' : St -> Prop} (hk : ∀ x, K x -> K' x) (h : r.run P dr s K) : r.run P dr s K' := by
 unfold ROp.run at h ⊢; split at h
 ·exact rx_mono hk h
 ·split at h
  ·exact ⟨fun e => rx_mono hk (h.1 e), fun e => hk _ (h.2 e)⟩
  ·exact h
theorem opsK_mono {dr : Bool} {K K' : St -> Prop} (hk : ∀ x, K x -> K' x) : ∀ {rs : List ROp} {s : St}, opsK P dr rs s K -> opsK P dr rs s K'
 | [], _, h => hk _ h
 | _ :: _, _, h => ROp.mono (fun _ hx => opsK_mono hk hx) h
theorem ROp.ex {r : ROp} {s : St} {K : St -> Prop} (h : r.run P true s K) : ∃ s1, r.run P true s (fun x => x = s1) ∧ K s1 := by
 unfold ROp.run at h ⊢; split at h
 ·exact rx_ex h
 ·rename_i g want hg; split at h
  ·rename_i b hb
   by_cases hbw : b = want
   ·obtain ⟨s1, h1, h2⟩ := rx_ex (h.1 hbw); exact ⟨s1, ⟨fun _ => h1, fun e => absurd hbw e⟩, h2⟩
   ·exact ⟨_, ⟨fun e => absurd e hbw, fun _ => rfl⟩, h.2 hbw⟩
  ·exact h.elim
theorem isSrc_writes {r : ROp} {k : Nat} (h : r.rx.isSrc k = true) : k ∈ r.writes := by
 unfold RX.isSrc at h; simp only [ROp.writes, List.mem_append]; refine .inr ?_; split at h
 ·simp [Nat.eq_of_beq_eq_true h]
 ·simp [Nat.eq_of_beq_eq_true h]
 ·cases h
theorem writes_dst {r : ROp} {k : Nat} (h : k ∉ r.writes) : r.dst ≠ some k ∧ r.rx.isSrc k = false := by
 constructor
 ·intro e; exact h (by simp [ROp.writes, e])
 ·cases hs : r.rx.isSrc k with
  | false => rfl
  | true => exact absurd (isSrc_writes hs) h
theorem reads_rx {r : ROp} {k : Nat} (h : k ∉ r.reads) : k ∉ slotsOf r.rx.opds ∧ ∀ g w, r.guard = some (g, w) -> g ≠ k := by
 constructor
 ·intro e; exact h (by simp [ROp.reads, e])
 ·intro g w e e2; exact h (by simp [ROp.reads, e, e2])
theorem ROp.frame {r : ROp} {k : Nat} (v : AV) (h1 : k ∉ r.reads) (h2 : k ∉ r.writes) {s : St} {K : St -> Prop} : r.run P true (s.put (some k) v) K ↔ r.run P true s (fun s' => K (s'.put (some k) v)) := by
 obtain ⟨a1, a2⟩ := writes_dst h2; obtain ⟨b1, b2⟩ := reads_rx h1; unfold ROp.run; split
 ·exact rx_frame v b1 a1
 ·rename_i g want hg; have hgk := b2 g want hg; rw [show (s.put (some k) v).ev (.t g) = s.ev (.t g) from St.ev_put s k v (by simp [Opd.slots]; exact Ne.symm hgk)]
  split
  ·have hput : ∀ y, (s.put (some k) v).put r.dst y = (s.put r.dst y).put (some k) v := fun y => by
    cases hd : r.dst with
    | none => rfl
    | some j => exact St.put_comm s v y (fun e => a1 (by rw [hd, e]))
   rw [hput, rx_frame v b1 a1]
  ·exact Iff.rfl
theorem ROp.mod {r : ROp} {s s1 : St} (h : r.run P true s (fun x => x = s1)) {k : Nat} (h2 : k ∉ r.writes) : s1.get k = s.get k := by
 obtain ⟨a1, a2⟩ := writes_dst h2; unfold ROp.run at h; split at h
 ·exact rx_mod h a1 a2
 ·rename_i g want hg; split at h
  ·rename_i b hb
   by_cases hbw : b = want
   ·exact rx_mod (h.1 hbw) a1 a2
   ·have := h.2 hbw; subst this
    cases hd : r.dst with
    | none => rfl
    | some j => exact St.get_put s j _ (fun e => a1 (by rw [hd, e]))
  ·exact h.elim
theorem rd_bs {s s' : St} (h : s'.bs = s.bs) : s'.rd = s.rd := by
 funext x
 cases x <;> simp only [St.rd, h]
theorem ROp.slots {r : ROp} (hp : r.rx.slotOnly = true) {s s1 : St} (h : r.run P true s (fun x => x = s1)) :
  ∃ ps, s1 = s.puts ps ∧ (∀ p ∈ ps, p.1 ∈ r.writes) ∧ ∀ s', (∀ k ∈ r.reads, s'.get k = s.get k) -> (r.rx.looks = true -> ∀ o ∈ r.rx.opds, r.rx.lowOk (s.ev o) -> ∀ cs, s.rd (s.ev o) = some cs -> s'.rd (s.ev o) = some cs) -> r.run P true s' (fun x => x = s'.puts ps) := by
 have hw : ∀ k, (r.dst = some k ∨ r.rx.isSrc k = true) -> k ∈ r.writes := fun k hk => by
  rcases hk with hk | hk
  ·simp [ROp.writes, hk]
  ·exact isSrc_writes hk
 have main : ∀ {s1}, r.rx.run P true s r.dst (fun x => x = s1) -> ∃ ps, s1 = s.puts ps ∧ (∀ p ∈ ps, p.1 ∈ r.writes) ∧ ∀ s', (∀ k ∈ r.reads, s'.get k = s.get k) -> (r.rx.looks = true -> ∀ o ∈ r.rx.opds, r.rx.lowOk (s.ev o) -> ∀ cs, s.rd (s.ev o) = some cs -> s'.rd (s.ev o) = some cs) -> r.rx.run P true s' r.dst (fun x => x = s'.puts ps) := fun {s1} h => by
  obtain ⟨ps, h1, h2, h3⟩ := rx_slots hp h; refine ⟨ps, h1, fun p hp => hw _ (h2 p hp), fun s' hr hl => h3 s' (fun k hk => hr k ?_) hl⟩; simp only [ROp.reads, List.mem_append]; exact .inr hk
 unfold ROp.run at h ⊢; split at h
 ·exact main h
 ·rename_i g want hg; split at h
  ·rename_i b hb
   have hev : ∀ s' : St, (∀ k ∈ r.reads, s'.get k = s.get k) -> gv want (s'.ev (.t g)) = some b := fun s' hr => by
    rw [← hb]; congr 1; exact ev_get fun k hk => hr k (by simp [Opd.slots] at hk; simp [ROp.reads, hg, hk])
   by_cases hbw : b = want
   ·obtain ⟨ps, h1, h2, h3⟩ := main (h.1 hbw); refine ⟨ps, h1, h2, fun s' hr hl => ?_⟩; simp only [hev s' hr]; exact ⟨fun _ => h3 s' hr hl, fun e => absurd hbw e⟩
   ·have htop : ∃ ps, (∀ s : St, s.put r.dst (.tup []) = s.puts ps) ∧ ∀ p ∈ ps, r.dst = some p.1 := by
     cases r.dst with
     | none => exact ⟨[], fun s => rfl, fun p hp => by cases hp⟩
     | some k => exact ⟨[(k, .tup [])], fun s => rfl, fun p hp => by simp at hp; rw [hp]⟩
    obtain ⟨ps, q1, q2⟩ := htop; refine ⟨ps, by rw [← h.2 hbw, q1], fun p hp => hw _ (.inl (q2 p hp)), fun s' hr hl => ?_⟩
    simp only [hev s' hr]; exact ⟨fun e => absurd e hbw, fun _ => by rw [q1]⟩
  ·exact h.elim
theorem ROp.frames {r : ROp} : ∀ (ps : List (Nat × AV)), (∀ p ∈ ps, p.1 ∉ r.reads ∧ p.1 ∉ r.writes) -> ∀ {s : St} {K : St -> Prop}, r.run P true (s.puts ps) K ↔ r.run P true s (fun s' => K (s'.puts ps))
 | [], _, s, K => Iff.rfl
 | (k, v) :: ps, h, s, K => by
  simp only [St.puts]; rw [ROp.frames ps (fun p hp => h p (by simp [hp]))]
  obtain ⟨h1, h2⟩ := h (k, v) (by simp)
  rw [ROp.frame v h1 h2]
theorem St.rd_puts (s : St) (ps : List (Nat × AV)) : (s.puts ps).rd = s.rd := rd_bs (St.puts_bs s ps)
theorem rd_addBox (s : St) (ds : List AV) (x : AV) (cs : List AV) (h : s.rd x = some cs) : (s.addBox ds).rd x = some cs := by
 cases x <;> first | (cases h; done) | exact h | skip
 all_goals
  simp only [St.rd] at h ⊢; split at h
  ·rename_i es hb
   have : ∀ b es, boxCells s.bs b = some es -> boxCells (s.addBox ds).bs b = some es := fun b es hb => by
    simp only [St.addBox]; rw [boxCells_append, if_neg (by have := boxCells_lt hb; omega)]; exact hb
   rw [this _ _ hb]; exact h
  ·cases h
theorem ROp.box_rd {r : ROp} (hb : r.rx.isBox = true) {s s1 : St} (h : r.run P true s (fun x => x = s1)) : ∀ x cs, s.rd x = some cs -> s1.rd x = some cs := by
 have main : ∀ {s1}, r.rx.run P true s r.dst (fun x => x = s1) -> ∀ x cs, s.rd x = some cs -> s1.rd x = some cs := fun {s1} h => by
  cases hr : r.rx <;> rw [hr] at hb <;> simp [RX.isBox] at hb; rename_i o; rw [hr] at h; have := (req_iff.1 h).2; subst this; rw [St.rd_put]; exact rd_addBox s _
 unfold ROp.run at h; split at h
 ·exact main h
 ·rename_i g want hg; split at h
  ·rename_i b hbv
   by_cases hbw : b = want
   ·exact main (h.1 hbw)
   ·have := h.2 hbw; subst this; rw [St.rd_put]; exact fun _ _ e => e
  ·exact h.elim
theorem rd_low {s : St} {b bnd : Nat} {cs : List AV} {x : AV} (h : lowP bnd x = true) (hb : bnd ≤ b) : (s.setBox b cs).rd x = s.rd x := by
 cases x <;> first | rfl | skip
 case ptr c off =>
  simp only [lowP, Nat.blt_eq] at h; have hne : ¬ b = c := by omega
  simp only [St.rd, St.setBox, boxCells, List.getElem?_set, if_neg hne]
 case elp => simp [lowP] at h
theorem ROp.stn_rd {r : ROp} {rx : RX} (hb : lowStn rx r.rx = true) {s s1 : St} (h : r.run P true s (fun x => x = s1)) : ∀ o, rx.lowOk (s.ev o) -> ∀ cs, s.rd (s.ev o) = some cs -> s1.rd (s.ev o) = some cs := by
 have main : ∀ {s1}, r.rx.run P true s r.dst (fun x => x = s1) -> ∀ o, rx.lowOk (s.ev o) -> ∀ cs, s.rd (s.ev o) = some cs -> s1.rd (s.ev o) = some cs := fun {s1} h => by
  unfold lowStn at hb; split at hb
  ·rename_i b _ _ _ c n p x hr; rw [hr] at h; have h : stnK c n s (s.ev p) (s.ev x) (fun x => x = s1) := h; unfold stnK at h; split at h
   ·obtain ⟨h1, h2⟩ := req_iff.1 h; simp only [storeK] at h2; split at h2
    ·have := (req_iff.1 h2).2; subst this; intro o ho cs hcs; rw [rd_low ho (by have := Nat.le_of_ble_eq_true h1; have := Nat.le_of_ble_eq_true hb; omega)]; exact hcs
    ·exact h2.elim
   ·exact h.elim
  ·cases hb
 unfold ROp.run at h; split at h
 ·exact main h
 ·rename_i g want hg; split at h
  ·rename_i b hbv
   by_cases hbw : b = want
   ·exact main (h.1 hbw)
   ·have := h.2 hbw; subst this; rw [St.rd_put]; exact fun _ _ _ e => e
  ·exact h.elim
theorem diamond {x y : ROp} (hi : indep x y = true) {s s1 s2 : St} (hx : x.run P true s (fun q => q = s1)) (hy : y.run P true s1 (fun q => q = s2)) : ∃ s1', y.run P true s (fun q => q = s1') ∧ x.run P true s1' (fun q => q = s2) := by
 simp only [indep, Bool.and_eq_true, Bool.or_eq_true, Bool.not_eq_true'] at hi; obtain ⟨⟨w1, w2⟩, hc⟩ := hi; have w1 := apart_spec w1; have w2 := apart_spec w2
 have hxw : ∀ k, k ∈ x.writes -> k ∉ y.reads ∧ k ∉ y.writes := fun k hk => by
  have := w1 k hk; simp only [List.mem_append, not_or] at this; exact this
 rcases hc with ⟨hp, hc⟩ | ⟨hp, hl⟩
 ·
  obtain ⟨ps, rfl, hps, hv⟩ := ROp.slots hp hx; rw [ROp.frames ps (fun p hp => hxw _ (hps p hp))] at hy; obtain ⟨s1', h1, h2⟩ := ROp.ex hy; refine ⟨s1', h1, ?_⟩; have := hv s1' (fun k hk => ROp.mod h1 (fun e => w2 k e hk)) (fun hlk => ?_)
  ·rw [h2] at this; exact this
  ·rcases hc with hc | hc | hc | hc
   ·obtain ⟨qs, h3, _⟩ := ROp.slots hc h1; rw [h3, St.rd_puts]; exact fun _ _ _ _ e => e
   ·exact fun o _ _ cs e => ROp.box_rd hc h1 _ cs e
   ·rw [hc] at hlk; cases hlk
   ·exact fun o _ hl => ROp.stn_rd hc h1 o hl
 ·obtain ⟨ps, rfl, hps, hv⟩ := ROp.slots hp hy; have h1 := hv s (fun k hk => (ROp.mod hx (fun e => (hxw k e).1 hk)).symm) (fun e => by rw [hl] at e; cases e)
  refine ⟨_, h1, ?_⟩; rw [ROp.frames ps (fun p hp => ⟨fun e => w2 _ (hps p hp) e, fun e => (hxw _ e).2 (hps p hp)⟩)]; exact ROp.mono (fun q hq => by rw [hq]) hx
variable {rs : List ROp}
def AOp (P : Program) (rs : List ROp) (i : Nat) (s s1 : St) : Prop := ∃ r, rs[i]? = some r ∧ r.run P true s (fun q => q = s1)
def ExecL (P : Program) (rs : List ROp) : List Nat -> St -> St -> Prop
 | [], s, s' => s = s'
 | i :: l, s, s' => ∃ s1, AOp P rs i s s1 ∧ ExecL P rs l s1 s'
theorem front {i : Nat} : ∀ {pre post : List Nat} {s sf : St}, ExecL P rs (pre ++ i :: post) s sf -> (∀ k ∈ pre, ∀ x y, rs[k]? = some x -> rs[i]? = some y -> indep x y = true) -> ∃ s1, AOp P rs i s s1 ∧ ExecL P rs (pre ++ post) s1 sf
 | [], post, s, sf, h, _ => h
 | k :: pre, post, s, sf, h, hi => by
  obtain ⟨s0, ⟨x, hx, hx2⟩, h2⟩ := h; obtain ⟨s0', ⟨y, hy, hy2⟩, h3⟩ := front h2 (fun k' hk' => hi k' (by simp [hk']))
  obtain ⟨s1, h4, h5⟩ := diamond (hi k (by simp) x y hx hy) hx2 hy2
  exact ⟨s1, ⟨y, hy, h4⟩, s0', ⟨x, hx, h5⟩, h3⟩
def masksFrom (acc : List Nat) : List Oper -> List Nat
 | [] => acc
 | o :: os => masksFrom (acc ++ [o.after.toList.foldl (fun m e => if Region.binds .any e then m ||| 2 ^ e.on ||| acc.getD e.on 0 else m) 0]) os
def indepRow (rs : List ROp) (i : Nat) (m : Nat) : Nat -> Bool
 | 0 => true
 | k + 1 => indepRow rs i m k && (m.testBit k || (match rs[k]?, rs[i]? with | some x, some y => indep x y | _, _ => true))
def indepRows (rs : List ROp) (ms : List Nat) : Nat -> Bool
 | 0 => true
 | i + 1 => indepRows rs ms i && indepRow rs i (ms.getD i 0) i
def edgesOk : List Oper -> Nat -> Bool
 | [], _ => true
 | o :: os, i => o.after.toList.all (fun e => !(Region.binds .any e) || Nat.blt e.on i) && edgesOk os (i + 1)
def indepAll (ops : Array Oper) (rs : List ROp) : Bool := edgesOk ops.toList 0 && indepRows rs (masksFrom [] ops.toList) ops.size
theorem edgesOk_spec : ∀ {os : List Oper} {k : Nat}, edgesOk os k = true -> ∀ (j : Nat) o, os[j]? = some o -> ∀ e ∈ o.after, Region.binds .any e = true -> e.on < k + j
 | [], _, _, j, o, hj, _, _, _ => by simp at hj
 | o :: os, k, h, j, o', hj, e, he, hb => by
  simp only [edgesOk, Bool.and_eq_true, List.all_eq_true] at h
  cases j with
  | zero =>
   simp at hj; subst hj; have := h.1 e (by simpa using he)
   rw [hb] at this
   simpa [Nat.blt_eq] using this
  | succ j =>
   have := edgesOk_spec h.2 j o' (by simpa using hj) e he hb
   omega
def Closed (ops : Array Oper) (D : Nat -> Prop) : Prop := ∀ i o, ops[i]? = some o -> D i -> ∀ e ∈ o.after, Region.binds .any e = true -> D e.on
theorem foldl_bits (acc : List Nat) : ∀ (es : List Edge) (m k : Nat), (es.foldl (fun m e => if Region.binds .any e then m ||| 2 ^ e.on ||| acc.getD e.on 0 else m) m).testBit k = true -> m.testBit k = true ∨ ∃ e ∈ es, Region.binds .any e = true ∧ (k = e.on ∨ (acc.getD e.on 0).testBit k = true)
 | [], m, k, h => .inl h
 | e :: es, m, k, h => by
  simp only [List.foldl_cons] at h; rcases foldl_bits acc es _ k h with h1 | ⟨e', he', h2, h3⟩
  ·split at h1
   ·rename_i hb; simp only [Nat.testBit_or, Bool.or_eq_true, Nat.testBit_two_pow, decide_eq_true_eq] at h1; rcases h1 with (h1 | h1) | h1
    ·exact .inl h1
    ·exact .inr ⟨e, by simp, hb, .inl h1.symm⟩
    ·exact .inr ⟨e, by simp, hb, .inr h1⟩
   ·exact .inl h1
  ·exact .inr ⟨e', by simp [he'], h2, h3⟩
theorem masks_spec {ops : Array Oper} {D : Nat -> Prop} (hD : Closed ops D) : ∀ {os : List Oper} {acc : List Nat}, (∀ (j : Nat) o, os[j]? = some o -> ops[acc.length + j]? = some o) ->
  (∀ (i m : Nat) o, acc[i]? = some m -> ops[i]? = some o -> (∀ e ∈ o.after, Region.binds .any e = true -> D e.on) -> ∀ k, m.testBit k = true -> D k) ->
  (∀ (i : Nat), i < acc.length -> ∃ o, ops[i]? = some o) ->
  ∀ (i m : Nat) o, (masksFrom acc os)[i]? = some m -> ops[i]? = some o -> (∀ e ∈ o.after, Region.binds .any e = true -> D e.on) -> ∀ k, m.testBit k = true -> D k
 | [], acc, _, h, _ => h
 | o :: os, acc, hi, h, hex => by
  simp only [masksFrom]; have ho := hi 0 o rfl; refine masks_spec hD (fun j o' hj => ?_) (fun i m o' hm ho' he k hk => ?_) (fun i hlt => ?_)
  ·have := hi (j + 1) o' (by simpa using hj)
   rw [List.length_append]; rw [show acc.length + [_].length + j = acc.length + (j + 1) by simp; omega]; exact this
  ·by_cases hlt : i < acc.length
   ·rw [List.getElem?_append_left hlt] at hm; exact h i m o' hm ho' he k hk
   ·rw [List.getElem?_append_right (by omega)] at hm
    have hii : i = acc.length := by
     rcases Nat.lt_or_ge (i - acc.length) 1 with h1 | h1
     ·omega
     ·rw [List.getElem?_eq_none (by simpa using h1)] at hm; cases hm
    subst hii; rw [Nat.sub_self] at hm; simp only [List.getElem?_cons_zero, Option.some.injEq] at hm; subst hm; rw [Nat.add_zero] at ho; rw [ho] at ho'; cases ho'; rcases foldl_bits acc _ _ _ hk with h1 | ⟨e, he1, he2, h3⟩
    ·simp at h1
    ·have hDe := he e (by simpa using he1) he2
     rcases h3 with rfl | h3
     ·exact hDe
     ·have hlt : e.on < acc.length := by
       rcases Nat.lt_or_ge e.on acc.length with h4 | h4
       ·exact h4
       ·simp [List.getElem?_eq_none h4] at h3
      obtain ⟨o2, ho2⟩ := hex e.on hlt; have hm2 : acc[e.on]? = some (acc.getD e.on 0) := by simp [List.getElem?_eq_getElem hlt]
      exact h e.on _ o2 hm2 ho2 (fun e2 h5 h6 => hD e.on o2 ho2 hDe e2 h5 h6) k h3
  ·rw [List.length_append] at hlt
   by_cases hlt2 : i < acc.length
   ·exact hex i hlt2
   ·have : i = acc.length := by simp at hlt; omega
    subst this; exact ⟨o, by simpa using ho⟩
theorem indepRow_spec {rs : List ROp} {i m : Nat} : ∀ {n : Nat}, indepRow rs i m n = true -> ∀ k, k < n -> m.testBit k = true ∨ ∀ x y, rs[k]? = some x -> rs[i]? = some y -> indep x y = true
 | 0, _, k, hk => by omega
 | n + 1, h, k, hk => by
  simp only [indepRow, Bool.and_eq_true, Bool.or_eq_true] at h
  by_cases hkn : k = n
  ·subst hkn; rcases h.2 with h1 | h1
   ·exact .inl h1
   ·refine .inr fun x y hx hy => ?_; rw [hx, hy] at h1; exact h1
  ·exact indepRow_spec h.1 k (by omega)
theorem indepRows_spec {rs : List ROp} {ms : List Nat} : ∀ {n : Nat}, indepRows rs ms n = true -> ∀ i, i < n -> indepRow rs i (ms.getD i 0) i = true
 | 0, _, i, hi => by omega
 | n + 1, h, i, hi => by
  simp only [indepRows, Bool.and_eq_true] at h
  by_cases hin : i = n
  ·subst hin; exact h.2
  ·exact indepRows_spec h.1 i (by omega)
theorem masks_length : ∀ (os : List Oper) (acc : List Nat), (masksFrom acc os).length = acc.length + os.length
 | [], acc => by simp [masksFrom]
 | o :: os, acc => by rw [masksFrom, masks_length os]; simp; omega
theorem opsK_exec {K : St -> Prop} : ∀ {q : List ROp} {k : Nat} {s : St}, (∀ (j : Nat) r, q[j]? = some r -> rs[k + j]? = some r) -> opsK P true q s K -> ∃ sf, ExecL P rs (List.range' k q.length) s sf ∧ K sf
 | [], _, s, _, h => ⟨s, rfl, h⟩
 | r :: q, k, s, hi, h => by
  obtain ⟨s1, h1, h2⟩ := ROp.ex h
  obtain ⟨sf, h3, h4⟩ := opsK_exec (k := k + 1) (fun j r' hj => by
   have := hi (j + 1) r' (by simpa using hj)
   rw [show k + 1 + j = k + (j + 1) by omega]; exact this) h2
  refine ⟨sf, ?_, h4⟩; rw [List.length_cons, List.range'_succ]; exact ⟨s1, ⟨r, by simpa using hi 0 r rfl, h1⟩, h3⟩
end
theorem filter_split (p : Nat -> Bool) (i : Nat) : ∀ (l : List Nat), i ∈ l -> p i = true -> l.Pairwise (· < ·) -> ∃ pre post, l.filter p = pre ++ i :: post ∧ (∀ k ∈ pre, k < i ∧ p k = true) ∧ l.filter (fun k => p k && !(k == i)) = pre ++ post
 | [], h, _, _ => by cases h
 | x :: l, h, hp, hs => by
  obtain ⟨hs1, hs2⟩ := List.pairwise_cons.1 hs
  by_cases hx : x = i
  ·subst hx; refine ⟨[], l.filter p, by simp [hp], by simp, ?_⟩
   simp only [List.nil_append]; rw [List.filter_cons_of_neg (by simp)]
   refine List.filter_congr fun k hk => ?_; have := hs1 k hk; have hne : (k == x) = false := by simp; omega
   simp [hne]
  ·have hmem : i ∈ l := by
    rcases List.mem_cons.1 h with h | h
    ·exact absurd h.symm hx
    ·exact h
   obtain ⟨pre, post, h1, h2, h3⟩ := filter_split p i l hmem hp hs2; have hlt := hs1 i hmem; have hne : (x == i) = false := by simpa using hx
   cases hpx : p x with
   | true =>
    refine ⟨x :: pre, post, by rw [List.filter_cons_of_pos hpx, h1]; rfl, fun k hk => ?_, ?_⟩
    ·rcases List.mem_cons.1 hk with rfl | hk
     ·exact ⟨hlt, hpx⟩
     ·exact h2 k hk
    ·rw [List.filter_cons_of_pos (by simp [hpx, hne]), h3]; rfl
   | false =>
    refine ⟨pre, post, by rw [List.filter_cons_of_neg (by simp [hpx]), h1], h2, ?_⟩
    rw [List.filter_cons_of_neg (by simp [hpx]), h3]
section
variable {P : Program} {nt : Nat} {fl : Bool} {ops : Array Oper} {rs : List ROp} {E : Entry} {rd : Option Nat} {n : Nat}
def restOf (ops : Array Oper) (listed : Array Bool) : List Nat := (List.range ops.size).filter fun i => !listed.getD i true
theorem any_sound (hc : ∀ (i : Nat) (o : Oper), ops[i]? = some o -> ∃ r, rs[i]? = some r ∧ OpC P nt ops o r) (hi : indepAll ops rs = true) {Q : Exit -> Act -> World -> Prop} (hnt : E.nt = nt) :
  ∀ (fuel : Nat) (listed : Array Bool) (s sf : St) (G : Gh) (a : Act) (w : World), listed.size = ops.size -> (restOf ops listed).length ≤ fuel -> Closed ops (fun i => listed.getD i false = true) -> ExecL P rs (restOf ops listed) s sf -> RS E G s a w ->
   (∀ G' a' w', RS E G' sf a' w' -> a'.defers = a.defers -> Q .normal a' w') -> wpAnyIn (F0 rd) n P .any ops Q fuel listed a w := by
 have hready : ∀ (listed : Array Bool) i, listed.size = ops.size -> i ∈ Region.ready .any ops listed -> i < ops.size ∧ listed.getD i true = false ∧ ∃ o, ops[i]? = some o ∧ ∀ e ∈ o.after, Region.binds .any e = true -> listed.getD e.on false = true := fun listed i hl h => by
  simp only [Region.ready, List.mem_filter, List.mem_range, Bool.and_eq_true, Bool.not_eq_true'] at h; obtain ⟨h1, h2, h3⟩ := h; refine ⟨h1, h2, ops[i], Array.getElem?_eq_getElem h1, fun e he hb => ?_⟩; rw [Array.getElem?_eq_getElem h1] at h3; simp only [Option.map_some, Option.getD_some, Array.all_eq_true_iff_forall_mem, Bool.or_eq_true, Bool.not_eq_true'] at h3; rcases h3 e he with h4 | h4
  ·rw [hb] at h4; cases h4
  ·exact h4
 intro fuel
 induction fuel with
 | zero =>
  intro listed s sf G a w hl hlen hD hex hs hQ; have hnil : restOf ops listed = [] := List.length_eq_zero_iff.1 (by omega)
  rw [hnil] at hex; have hex : s = sf := hex; subst hex; refine ⟨?_, hQ G a w hs rfl⟩; rcases hq : Region.ready .any ops listed with _ | ⟨i, _⟩
  ·rfl
  ·obtain ⟨h1, h2, _⟩ := hready listed i hl (by rw [hq]; simp)
   have : i ∈ restOf ops listed := by simp only [restOf, List.mem_filter, List.mem_range]; exact ⟨h1, by simp [h2]⟩
   rw [hnil] at this; cases this
 | succ fuel ih =>
  intro listed s sf G a w hl hlen hD hex hs hQ
  refine ⟨fun hr => ?_, fun i hi' => ?_⟩
  ·
   have hnil : restOf ops listed = [] := by
    rcases hq : restOf ops listed with _ | ⟨i, l⟩
    ·rfl
    ·exfalso; have hsort : (restOf ops listed).Pairwise (· < ·) := List.pairwise_lt_range.filter _; rw [hq] at hsort; have hfirst := (List.pairwise_cons.1 hsort).1; have hmem : i ∈ restOf ops listed := by rw [hq]; simp
     simp only [restOf, List.mem_filter, List.mem_range, Bool.not_eq_true'] at hmem
     have hin : i ∈ Region.ready .any ops listed := by
      simp only [Region.ready, List.mem_filter, List.mem_range, Bool.and_eq_true, Bool.not_eq_true']; refine ⟨hmem.1, hmem.2, ?_⟩; rw [Array.getElem?_eq_getElem hmem.1]; simp only [Option.map_some, Option.getD_some, Array.all_eq_true_iff_forall_mem, Bool.or_eq_true, Bool.not_eq_true']; intro e he
      cases hb : Region.binds .any e with
      | false => exact .inl rfl
      | true =>
       have hlt := edgesOk_spec (Bool.and_eq_true_iff.1 hi).1 i ops[i] (by simp [hmem.1]) e he hb
       rw [Nat.zero_add] at hlt; refine .inr ?_
       cases hlk : listed.getD e.on false with
       | true => rfl
       | false =>
        exfalso
        have hlk2 : listed.getD e.on true = false := by
         have hsz : e.on < listed.size := by rw [hl]; omega
         simpa [hsz] using hlk
        have hin2 : e.on ∈ restOf ops listed := by
         simp only [restOf, List.mem_filter, List.mem_range, Bool.not_eq_true']; exact ⟨by omega, hlk2⟩
        rw [hq] at hin2; rcases List.mem_cons.1 hin2 with h5 | h5
        ·omega
        ·have := hfirst _ h5; omega
     rw [hr] at hin; cases hin
   rw [hnil] at hex; have hex : s = sf := hex; subst hex; exact hQ G a w hs rfl
  ·obtain ⟨h1, h2, o, ho, hpre⟩ := hready listed i hl hi'; obtain ⟨r, hr, hoc⟩ := hc i o ho; have hmem : i ∈ List.range ops.size := by simpa using h1
   obtain ⟨pre, post, e1, e2, e3⟩ := filter_split (fun k => !listed.getD k true) i (List.range ops.size) hmem (by simp [h2]) List.pairwise_lt_range
   have hrow := indepRows_spec (Bool.and_eq_true_iff.1 hi).2 i h1
   have hgd : ∀ k, listed.getD k true = false -> listed.getD k false = false := fun k hk => by
    simp only [Array.getD_eq_getD_getElem?] at hk ⊢
    cases hq : listed[k]? with
    | none => rw [hq] at hk; cases hk
    | some b => rw [hq] at hk; simpa using hk
   have hex' : ExecL P rs (pre ++ i :: post) s sf := by rw [← e1]; exact hex
   obtain ⟨s1, ⟨r', hr', hrun⟩, hrest⟩ := front hex' (fun k hk x y hx hy => by
    obtain ⟨hki, hkl⟩ := e2 k hk; rcases indepRow_spec hrow k hki with hb | hb
    ·exfalso; have hml : i < (masksFrom [] ops.toList).length := by rw [masks_length]; simpa using h1
     have := masks_spec hD (os := ops.toList) (acc := []) (fun j o' hj => by simpa using hj) (fun i m o' hm => by simp at hm) (fun i hlt => by simp at hlt) i ((masksFrom [] ops.toList).getD i 0) o (by simp [List.getElem?_eq_getElem hml]) ho hpre k hb
     have h4 := hgd k (by simpa using hkl)
     rw [h4] at this; cases this
    ·exact hb x y hx hy)
   rw [hr] at hr'; cases hr'; refine op_sound hoc ho hrun hs hnt fun s' G' a' w' hs1 hs' hd => ?_; subst hs1
   have hset : restOf ops (listed.setIfInBounds i true) = pre ++ post := by
    rw [← e3]; unfold restOf; refine List.filter_congr fun k hk => ?_
    by_cases hki : k = i
    ·subst hki; have : k < listed.size := by rw [hl]; exact h1
     simp [this]
    ·have hne : (k == i) = false := by simpa using hki
     simp [Array.getElem?_setIfInBounds_ne (Ne.symm hki), hne]
   refine ih _ _ _ G' a' w' (by simpa using hl) ?_ ?_ (by rw [hset]; exact hrest) hs' fun G2 a2 w2 h5 h6 => hQ G2 a2 w2 h5 (h6.trans hd)
   ·rw [hset]; have : (restOf ops listed).length = (pre ++ i :: post).length := by rw [← e1]; rfl
    simp at this ⊢; omega
   ·intro j oj hj hDj e he hb
    have hkeep : ∀ k, listed.getD k false = true -> (listed.setIfInBounds i true).getD k false = true := fun k hk => by
     by_cases hki : k = i
     ·subst hki; have : k < listed.size := by rw [hl]; exact h1
      simp [this]
     ·simp only [Array.getD_eq_getD_getElem?] at hk ⊢; rw [Array.getElem?_setIfInBounds_ne (Ne.symm hki)]; exact hk
    by_cases hji : j = i
    ·subst hji; rw [ho] at hj; cases hj; exact hkeep _ (hpre e he hb)
    ·refine hkeep _ (hD j oj hj ?_ e he hb); simp only [Array.getD_eq_getD_getElem?] at hDj ⊢
     rwa [Array.getElem?_setIfInBounds_ne (Ne.symm hji)] at hDj
theorem WP.region_any (hm : P.follows .mixedOrders = true) {id : Nat} {tk : Nat -> Nat -> Bool} (hc : cOps P nt tk ops ops.toList = some rs) (hi : indepAll ops rs = true) {s : St} {Q : AX -> St -> Prop} (h : opsK P true rs s (Q .normal)) : WP P nt fl (.region id ops true) s Q := fun E G a w rd n hs he => by
 obtain ⟨h1, h2⟩ := cOps_spec hc; obtain ⟨sf, h3, h4⟩ := opsK_exec (rs := rs) (k := 0) (fun j r hj => by simp [hj]) h
 have hlen : rs.length = ops.size := by simpa using h1.symm
 refine wpIn_region_any hm ?_; refine any_sound (fun i o ho => h2 i o (by simpa using ho)) hi he.1 ops.size _ s sf G a _ (by simp) ?_ ?_ ?_ hs.drew fun G' a' w' h5 _ => ⟨.normal, sf, G', rfl, h4, h5⟩
 ·exact Nat.le_trans (List.length_filter_le _ _) (by simp)
 ·intro i o _ hD; simp only [Array.getD_eq_getD_getElem?, Array.getElem?_replicate] at hD; split at hD <;> cases hD
 ·have : restOf ops (Array.replicate ops.size false) = List.range' 0 rs.length := by
   unfold restOf
   rw [List.filter_eq_self.2 (fun i hi => by
    have := List.mem_range.1 hi; simp [this]), List.range_eq_range', hlen]
  rw [this]; exact h3
end
end Go.AM
namespace Go.AM
open Go.CK Go.RowKit
def soloRow (rs : List ROp) (p i : Nat) (m : Nat) : Nat -> Bool
 | 0 => true
 | k + 1 => soloRow rs p i m k && (m.testBit k || (!(Nat.beq i p) && (!(Nat.beq k p) && (match rs[k]?, rs[i]? with | some x, some y => indep x y | _, _ => true))))
def soloRows (rs : List ROp) (p : Nat) (ms : List Nat) : Nat -> Bool
 | 0 => true
 | i + 1 => soloRows rs p ms i && soloRow rs p i (ms.getD i 0) i
def indepSolo (ops : Array Oper) (rs : List ROp) (p : Nat) : Bool := edgesOk ops.toList 0 && soloRows rs p (masksFrom [] ops.toList) ops.size
theorem soloRow_spec {rs : List ROp} {p i m : Nat} : ∀ {n : Nat}, soloRow rs p i m n = true -> ∀ k, k < n -> m.testBit k = true ∨ (i ≠ p ∧ k ≠ p ∧ ∀ x y, rs[k]? = some x -> rs[i]? = some y -> indep x y = true)
 | 0, _, k, hk => by omega
 | n + 1, h, k, hk => by
  simp only [soloRow, Bool.and_eq_true, Bool.or_eq_true, Bool.not_eq_true'] at h
  by_cases hkn : k = n
  ·subst hkn; rcases h.2 with h1 | ⟨h1, h2, h3⟩
   ·exact .inl h1
   ·refine .inr ⟨fun e => ?_, fun e => ?_, fun x y hx hy => ?_⟩
    ·subst e; simp at h1
    ·subst e; simp at h2
    ·rw [hx, hy] at h3; exact h3
  ·exact soloRow_spec h.1 k (by omega)
theorem soloRows_spec {rs : List ROp} {p : Nat} {ms : List Nat} : ∀ {n : Nat}, soloRows rs p ms n = true -> ∀ i, i < n -> soloRow rs p i (ms.getD i 0) i = true
 | 0, _, i, hi => by omega
 | n + 1, h, i, hi => by
  simp only [soloRows, Bool.and_eq_true] at h
  by_cases hin : i = n
  ·subst hin; exact h.2
  ·exact soloRows_spec h.1 i (by omega)
def seqK (P : Program) (rs : List ROp) (p : Nat) : List Nat -> St -> (St -> Prop) -> Prop
 | [], s, K => K s
 | i :: l, s, K => ∃ r, rs[i]? = some r ∧ r.run P (!(Nat.beq i p)) s fun s' => seqK P rs p l s' K
def soloK (P : Program) (p : Nat) : Nat -> List ROp -> St -> (St -> Prop) -> Prop
 | _, [], s, K => K s
 | i, r :: rs, s, K => r.run P (!(Nat.beq i p)) s fun s' => soloK P p (i + 1) rs s' K
section
variable {P : Program} {rs : List ROp} {p : Nat} {K : St -> Prop}
theorem soloK_mono {K' : St -> Prop} (hk : ∀ x, K x -> K' x) : ∀ {q : List ROp} {i : Nat} {s : St}, soloK P p i q s K -> soloK P p i q s K'
 | [], _, _, h => hk _ h
 | _ :: _, _, _, h => ROp.mono (fun _ hx => soloK_mono hk hx) h
theorem soloK_seq : ∀ {q : List ROp} {k : Nat} {s : St}, (∀ (j : Nat) r, q[j]? = some r -> rs[k + j]? = some r) -> soloK P p k q s K -> seqK P rs p (List.range' k q.length) s K
 | [], k, s, _, h => h
 | r :: q, k, s, hi, h => by
  rw [List.length_cons, List.range'_succ]; refine ⟨r, by simpa using hi 0 r rfl, ROp.mono (fun s' hs' => ?_) h⟩
  exact soloK_seq (k := k + 1) (fun j r' hj => by
   have := hi (j + 1) r' (by simpa using hj)
   rw [show k + 1 + j = k + (j + 1) by omega]; exact this) hs'
theorem det_ne {i : Nat} (h : i ≠ p) : (!(Nat.beq i p)) = true := by rw [beq_ne h]; rfl
theorem seqK_det : ∀ {pre post : List Nat} {s : St}, (∀ k ∈ pre, k ≠ p) -> seqK P rs p (pre ++ post) s K -> ∃ sm, ExecL P rs pre s sm ∧ seqK P rs p post sm K
 | [], post, s, _, h => ⟨s, rfl, h⟩
 | k :: pre, post, s, hn, ⟨r, hr, h⟩ => by
  rw [det_ne (hn k (by simp))] at h
  obtain ⟨s1, h1, h2⟩ := ROp.ex h; obtain ⟨sm, h3, h4⟩ := seqK_det (fun k' hk' => hn k' (by simp [hk'])) h2
  exact ⟨sm, ⟨s1, ⟨r, hr, h1⟩, h3⟩, h4⟩
theorem seqK_join : ∀ {pre post : List Nat} {s sm : St}, (∀ k ∈ pre, k ≠ p) -> ExecL P rs pre s sm -> seqK P rs p post sm K -> seqK P rs p (pre ++ post) s K
 | [], post, s, sm, _, h, k => by have h : s = sm := h; subst h; exact k
 | k :: pre, post, s, sm, hn, ⟨s1, ⟨r, hr, h1⟩, h2⟩, hk => by
  refine ⟨r, hr, ?_⟩; rw [det_ne (hn k (by simp))]
  refine ROp.mono (fun s' e => ?_) h1; subst e; exact seqK_join (fun k' hk' => hn k' (by simp [hk'])) h2 hk
end
section
variable {P : Program} {nt : Nat} {fl : Bool} {ops : Array Oper} {rs : List ROp} {E : Entry} {rd : Option Nat} {n : Nat}
theorem any_solo {p : Nat} {K : St -> Prop} (hc : ∀ (i : Nat) (o : Oper), ops[i]? = some o -> ∃ r, rs[i]? = some r ∧ OpC P nt ops o r) (hi : indepSolo ops rs p = true) {Q : Exit -> Act -> World -> Prop} (hnt : E.nt = nt) :
  ∀ (fuel : Nat) (listed : Array Bool) (s : St) (G : Gh) (a : Act) (w : World), listed.size = ops.size -> (restOf ops listed).length ≤ fuel -> Closed ops (fun i => listed.getD i false = true) -> seqK P rs p (restOf ops listed) s K -> RS E G s a w ->
   (∀ s' G' a' w', K s' -> RS E G' s' a' w' -> Q .normal a' w') -> wpAnyIn (F0 rd) n P .any ops Q fuel listed a w := by
 have hready : ∀ (listed : Array Bool) i, listed.size = ops.size -> i ∈ Region.ready .any ops listed -> i < ops.size ∧ listed.getD i true = false ∧ ∃ o, ops[i]? = some o ∧ ∀ e ∈ o.after, Region.binds .any e = true -> listed.getD e.on false = true := fun listed i hl h => by
  simp only [Region.ready, List.mem_filter, List.mem_range, Bool.and_eq_true, Bool.not_eq_true'] at h; obtain ⟨h1, h2, h3⟩ := h; refine ⟨h1, h2, ops[i], Array.getElem?_eq_getElem h1, fun e he hb => ?_⟩; rw [Array.getElem?_eq_getElem h1] at h3; simp only [Option.map_some, Option.getD_some, Array.all_eq_true_iff_forall_mem, Bool.or_eq_true, Bool.not_eq_true'] at h3; rcases h3 e he with h4 | h4
  ·rw [hb] at h4; cases h4
  ·exact h4
 intro fuel
 induction fuel with
 | zero =>
  intro listed s G a w hl hlen hD hex hs hQ; have hnil : restOf ops listed = [] := List.length_eq_zero_iff.1 (by omega)
  rw [hnil] at hex; refine ⟨?_, hQ s G a w hex hs⟩; rcases hq : Region.ready .any ops listed with _ | ⟨i, _⟩
  ·rfl
  ·obtain ⟨h1, h2, _⟩ := hready listed i hl (by rw [hq]; simp)
   have : i ∈ restOf ops listed := by simp only [restOf, List.mem_filter, List.mem_range]; exact ⟨h1, by simp [h2]⟩
   rw [hnil] at this; cases this
 | succ fuel ih =>
  intro listed s G a w hl hlen hD hex hs hQ
  refine ⟨fun hr => ?_, fun i hi' => ?_⟩
  ·
   have hnil : restOf ops listed = [] := by
    rcases hq : restOf ops listed with _ | ⟨i, l⟩
    ·rfl
    ·exfalso; have hsort : (restOf ops listed).Pairwise (· < ·) := List.pairwise_lt_range.filter _; rw [hq] at hsort; have hfirst := (List.pairwise_cons.1 hsort).1; have hmem : i ∈ restOf ops listed := by rw [hq]; simp
     simp only [restOf, List.mem_filter, List.mem_range, Bool.not_eq_true'] at hmem
     have hin : i ∈ Region.ready .any ops listed := by
      simp only [Region.ready, List.mem_filter, List.mem_range, Bool.and_eq_true, Bool.not_eq_true']; refine ⟨hmem.1, hmem.2, ?_⟩; rw [Array.getElem?_eq_getElem hmem.1]; simp only [Option.map_some, Option.getD_some, Array.all_eq_true_iff_forall_mem, Bool.or_eq_true, Bool.not_eq_true']; intro e he
      cases hb : Region.binds .any e with
      | false => exact .inl rfl
      | true =>
       have hlt := edgesOk_spec (Bool.and_eq_true_iff.1 hi).1 i ops[i] (by simp [hmem.1]) e he hb
       rw [Nat.zero_add] at hlt; refine .inr ?_
       cases hlk : listed.getD e.on false with
       | true => rfl
       | false =>
        exfalso
        have hlk2 : listed.getD e.on true = false := by
         have hsz : e.on < listed.size := by rw [hl]; omega
         simpa [hsz] using hlk
        have hin2 : e.on ∈ restOf ops listed := by
         simp only [restOf, List.mem_filter, List.mem_range, Bool.not_eq_true']; exact ⟨by omega, hlk2⟩
        rw [hq] at hin2; rcases List.mem_cons.1 hin2 with h5 | h5
        ·omega
        ·have := hfirst _ h5; omega
     rw [hr] at hin; cases hin
   rw [hnil] at hex; exact hQ s G a w hex hs
  ·obtain ⟨h1, h2, o, ho, hpre⟩ := hready listed i hl hi'; obtain ⟨r, hr, hoc⟩ := hc i o ho; have hmem : i ∈ List.range ops.size := by simpa using h1
   obtain ⟨pre, post, e1, e2, e3⟩ := filter_split (fun k => !listed.getD k true) i (List.range ops.size) hmem (by simp [h2]) List.pairwise_lt_range
   have hrow := soloRows_spec (Bool.and_eq_true_iff.1 hi).2 i h1
   have hgd : ∀ k, listed.getD k true = false -> listed.getD k false = false := fun k hk => by
    simp only [Array.getD_eq_getD_getElem?] at hk ⊢
    cases hq : listed[k]? with
    | none => rw [hq] at hk; cases hk
    | some b => rw [hq] at hk; simpa using hk
   have hex' : seqK P rs p (pre ++ i :: post) s K := by rw [← e1]; exact hex
   have hpreI : ∀ k ∈ pre, i ≠ p ∧ k ≠ p ∧ ∀ x y, rs[k]? = some x -> rs[i]? = some y -> indep x y = true := fun k hk => by
    obtain ⟨hki, hkl⟩ := e2 k hk; rcases soloRow_spec hrow k hki with hb | hb
    ·exfalso; have hml : i < (masksFrom [] ops.toList).length := by rw [masks_length]; simpa using h1
     have := masks_spec hD (os := ops.toList) (acc := []) (fun j o' hj => by simpa using hj) (fun i m o' hm => by simp at hm) (fun i hlt => by simp at hlt) i ((masksFrom [] ops.toList).getD i 0) o (by simp [List.getElem?_eq_getElem hml]) ho hpre k hb
     have h4 := hgd k (by simpa using hkl)
     rw [h4] at this; cases this
    ·exact hb
   obtain ⟨dr, K1, hrun, hrest⟩ : ∃ dr K1, r.run P dr s K1 ∧ ∀ s1, K1 s1 -> seqK P rs p (pre ++ post) s1 K := by
    cases pre with
    | nil =>
     obtain ⟨r', hr', h3⟩ := hex'; rw [hr] at hr'; cases hr'
     exact ⟨_, _, h3, fun s1 h4 => h4⟩
    | cons k0 pre' =>
     obtain ⟨hip, _⟩ := hpreI k0 (by simp)
     obtain ⟨sm, h3, h4⟩ := seqK_det (pre := (k0 :: pre') ++ [i]) (post := post) (fun k hk => by
      rcases List.mem_append.1 hk with h5 | h5
      ·exact (hpreI k h5).2.1
      ·simp at h5; rw [h5]; exact hip) (by simpa using hex')
     obtain ⟨s1, ⟨r', hr', h5⟩, h6⟩ := front h3 (fun k hk => (hpreI k hk).2.2); rw [hr] at hr'; cases hr'; refine ⟨true, _, h5, fun s2 e => ?_⟩; subst e; exact seqK_join (fun k hk => (hpreI k hk).2.1) (by simpa using h6) h4
   refine op_sound hoc ho hrun hs hnt fun s' G' a' w' hs1 hs' _ => ?_
   have hset : restOf ops (listed.setIfInBounds i true) = pre ++ post := by
    rw [← e3]; unfold restOf; refine List.filter_congr fun k hk => ?_
    by_cases hki : k = i
    ·subst hki; have : k < listed.size := by rw [hl]; exact h1
     simp [this]
    ·have hne : (k == i) = false := by simpa using hki
     simp [Array.getElem?_setIfInBounds_ne (Ne.symm hki), hne]
   refine ih _ _ G' a' w' (by simpa using hl) ?_ ?_ (by rw [hset]; exact hrest _ hs1) hs' hQ
   ·rw [hset]; have : (restOf ops listed).length = (pre ++ i :: post).length := by rw [← e1]; rfl
    simp at this ⊢; omega
   ·intro j oj hj hDj e he hb
    have hkeep : ∀ k, listed.getD k false = true -> (listed.setIfInBounds i true).getD k false = true := fun k hk => by
     by_cases hki : k = i
     ·subst hki; have : k < listed.size := by rw [hl]; exact h1
      simp [this]
     ·simp only [Array.getD_eq_getD_getElem?] at hk ⊢; rw [Array.getElem?_setIfInBounds_ne (Ne.symm hki)]; exact hk
    by_cases hji : j = i
    ·subst hji; rw [ho] at hj; cases hj; exact hkeep _ (hpre e he hb)
    ·refine hkeep _ (hD j oj hj ?_ e he hb); simp only [Array.getD_eq_getD_getElem?] at hDj ⊢
     rwa [Array.getElem?_setIfInBounds_ne (Ne.symm hji)] at hDj
theorem WP.region_solo {p : Nat} (hm : P.follows .mixedOrders = true) {id : Nat} {tk : Nat -> Nat -> Bool} (hc : cOps P nt tk ops ops.toList = some rs) (hi : indepSolo ops rs p = true) {s : St} {Q : AX -> St -> Prop} (h : soloK P p 0 rs s (Q .normal)) : WP P nt fl (.region id ops true) s Q := fun E G a w rd n hs he => by
 obtain ⟨h1, h2⟩ := cOps_spec hc; have h3 := soloK_seq (rs := rs) (k := 0) (fun j r hj => by simp [hj]) h
 have hlen : rs.length = ops.size := by simpa using h1.symm
 refine wpIn_region_any hm ?_; refine any_solo (fun i o ho => h2 i o (by simpa using ho)) hi he.1 ops.size _ s G a _ (by simp) ?_ ?_ ?_ hs.drew fun s' G' a' w' h4 h5 => ⟨.normal, s', G', rfl, h4, h5⟩
 ·exact Nat.le_trans (List.length_filter_le _ _) (by simp)
 ·intro i o _ hD; simp only [Array.getD_eq_getD_getElem?, Array.getElem?_replicate] at hD; split at hD <;> cases hD
 ·have : restOf ops (Array.replicate ops.size false) = List.range' 0 rs.length := by
   unfold restOf
   rw [List.filter_eq_self.2 (fun i hi => by
    have := List.mem_range.1 hi; simp [this]), List.range_eq_range', hlen]
  rw [this]; exact h3
end
end Go.AM
