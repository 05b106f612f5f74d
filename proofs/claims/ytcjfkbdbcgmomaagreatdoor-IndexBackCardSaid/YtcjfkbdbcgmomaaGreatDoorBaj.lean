/-
  Texts of this claim joined (wip/gen/bundle.py), those declarations only that are needed: AmX. By an AI agent.
-/
import Derived.Test.YtcjfkbdbcgmomaaGreatDoorBai
set_option linter.unusedSimpArgs false
set_option linter.unusedVariables false
namespace Go.AM
open Go.CK Go.RowKit
def Opd.slots : Opd -> List Nat
 | .t k => [k]
 | .c _ => []
def slotsOf : List Opd -> List Nat
 | [] => []
 | o :: os => o.slots ++ slotsOf os
def RX.opds : RX -> List Opd
 | .mov o | .nilck o | .fptr _ o | .fld _ _ _ o | .ext _ o | .len _ o | .un _ o | .conv _ o | .load _ _ o | .lod _ _ _ o | .box o => [o]
 | .pick c a b => [c, a, b]
 | .idx _ x i | .idxS x i | .bin _ x i | .mk _ _ x i | .store _ x i | .stn _ _ x i | .append _ x i => [x, i]
 | .build _ ps => ps.map fun p => p.2.2
 | .bslice _ rs => rs
 | .mkfn _ xs ys => xs ++ ys
 | .call f args | .callv f args => f :: args
 | .more _ args => args
 | .eff _ args => args
 | .take t => [.t t]
 | .minmax _ x y | .idxA _ _ x y | .idxV _ _ _ x y => [x, y]
 | .slc _ x lo hi mx => x :: (lo.toList ++ (hi.toList ++ mx.toList))
 | .slcS x lo hi => x :: (lo.toList ++ hi.toList)
def RX.passive : RX -> Bool
 | .box _ | .store .. | .stn .. | .append .. | .take _ | .eff .. => false
 | _ => true
def RX.looks : RX -> Bool
 | .load .. | .lod .. | .box _ | .store .. | .stn .. | .eff .. => true
 | _ => false
def RX.slotOnly : RX -> Bool
 | .box _ | .store .. | .stn .. | .eff .. => false
 | _ => true
def lowStn : RX -> RX -> Bool
 | .lod b _ _ _, .stn c _ _ _ => Nat.ble b c
 | _, _ => false
def RX.lowOk (v : AV) : RX -> Prop
 | .lod b _ _ _ => lowP b v = true
 | _ => True
def RX.isSrc (k : Nat) : RX -> Bool
 | .append _ (.t j) _ | .take j => Nat.beq j k
 | _ => false
def RX.isBox : RX -> Bool
 | .box _ => true
 | _ => false
def ROp.reads (r : ROp) : List Nat := (match r.guard with | some (g, _) => [g] | none => []) ++ slotsOf r.rx.opds
def ROp.writes (r : ROp) : List Nat := (match r.dst with | some d => [d] | none => []) ++ (match r.rx with | .append _ (.t k) _ | .take k => [k] | _ => [])
def apart : List Nat -> List Nat -> Bool
 | [], _ => true
 | x :: xs, ys => !(ys.contains x) && apart xs ys
def indep (x y : ROp) : Bool :=
 (apart x.writes (y.reads ++ y.writes) && apart y.writes x.reads) &&
 ((x.rx.slotOnly && (y.rx.slotOnly || (y.rx.isBox || (!x.rx.looks || lowStn x.rx y.rx)))) || (y.rx.slotOnly && !y.rx.looks))
theorem apart_spec : ∀ {xs ys : List Nat}, apart xs ys = true -> ∀ k, k ∈ xs -> k ∉ ys
 | [], _, _, k, hk => by cases hk
 | x :: xs, ys, h, k, hk => by
  simp only [apart, Bool.and_eq_true, Bool.not_eq_true', List.contains_eq_mem, decide_eq_false_iff_not] at h; rcases List.mem_cons.1 hk with rfl | hk
  ·exact h.1
  ·exact apart_spec h.2 k hk
theorem mem_slotsOf : ∀ {os : List Opd} {o : Opd} {k : Nat}, o ∈ os -> k ∈ o.slots -> k ∈ slotsOf os
 | _ :: os, o, k, h, hk => by
  simp only [slotsOf, List.mem_append]; rcases List.mem_cons.1 h with rfl | h
  ·exact .inl hk
  ·exact .inr (mem_slotsOf h hk)
theorem evs_congr {ev ev' : Opd -> AV} : ∀ {os : List Opd}, (∀ o ∈ os, ev o = ev' o) -> evs ev os = evs ev' os
 | [], _ => rfl
 | o :: os, h => by rw [evs, evs, h o (by simp), evs_congr fun x hx => h x (by simp [hx])]
theorem fillK_congr {ev ev' : Opd -> AV} : ∀ {ps : List (Nat × Nat × Opd)} {cs : List AV} {K : List AV -> Prop}, (∀ o ∈ ps.map (fun p => p.2.2), ev o = ev' o) -> fillK ev ps cs K -> fillK ev' ps cs K
 | [], _, _, _, h => h
 | (off, sz, o) :: ps, cs, K, he, h => by
  have h0 := he o (by simp)
  simp only [fillK] at h ⊢; rw [← h0]; obtain ⟨h1, h2⟩ := req_iff.1 h; exact req_iff.2 ⟨h1, fillK_congr (fun x hx => he x (by simp at hx ⊢; exact .inr hx)) h2⟩
theorem elemsOf_congr {ev ev' : Opd -> AV} {sz : Nat} : ∀ {os : List Opd} {K : List AV -> Prop}, (∀ o ∈ os, ev o = ev' o) -> elemsOf ev sz os K -> elemsOf ev' sz os K
 | [], _, _, h => h
 | o :: os, K, he, h => by
  have h0 := he o (by simp)
  simp only [elemsOf] at h ⊢; rw [← h0]; obtain ⟨h1, h2⟩ := req_iff.1 h; exact req_iff.2 ⟨h1, elemsOf_congr (fun x hx => he x (by simp [hx])) h2⟩
theorem pK_congr {rx : RX} {ev ev' : Opd -> AV} {rd rd' : AV -> Option (List AV)} (he : ∀ o ∈ rx.opds, ev o = ev' o) (hr : rx.looks = true -> ∀ o ∈ rx.opds, rx.lowOk (ev o) -> ∀ cs, rd (ev o) = some cs -> rd' (ev o) = some cs) {K : AV -> Prop} (h : rx.pK ev rd K) : rx.pK ev' rd' K := by
 cases rx <;> simp only [RX.opds, List.mem_cons, List.not_mem_nil, or_false, forall_eq_or_imp, forall_eq] at he <;> simp only [RX.pK] at h ⊢
 case mov o => rw [← he]; exact h
 case pick c a b => rw [← he.1, ← he.2.1, ← he.2.2]; exact h
 case nilck o => rw [← he]; exact h
 case fptr off o => rw [← he]; exact h
 case idx sz x i => rw [← he.1, ← he.2]; exact h
 case idxS x i => rw [← he.1, ← he.2]; exact h
 case fld a off n o => rw [← he]; exact h
 case ext i o => rw [← he]; exact h
 case len st o => rw [← he]; exact h
 case un op o => rw [← he]; exact h
 case conv k o => rw [← he]; exact h
 case bin op x y => rw [← he.1, ← he.2]; exact h
 case load agg n o =>
  rw [← he]; unfold loadK at h ⊢; split at h
  ·rename_i cs hcs; rw [hr rfl o (by simp [RX.opds]) trivial _ hcs]; exact h
  ·exact h.elim
 case lod bnd agg n o =>
  rw [← he]; obtain ⟨h1, h⟩ := req_iff.1 h; refine req_iff.2 ⟨h1, ?_⟩; unfold loadK at h ⊢; split at h
  ·rename_i cs hcs; rw [hr rfl o (by simp [RX.opds]) h1 _ hcs]; exact h
  ·exact h.elim
 case build zs ps => exact fillK_congr he h
 case bslice sz rs => exact elemsOf_congr he h
 case mk sz z l c => rw [← he.1, ← he.2]; exact h
 case minmax mx x y => rw [← he.1, ← he.2]; exact h
 case idxA ln sz x i => rw [← he.1, ← he.2]; exact h
 case idxV agg ln sz x i => rw [← he.1, ← he.2]; exact h
 case slc sz x lo hi mx =>
  have e1 : lo.map ev = lo.map ev' := by cases lo with | none => rfl | some o => simp only [Option.map_some]; rw [he.2 o (by simp)]
  have e2 : hi.map ev = hi.map ev' := by cases hi with | none => rfl | some o => simp only [Option.map_some]; rw [he.2 o (by simp)]
  have e3 : mx.map ev = mx.map ev' := by cases mx with | none => rfl | some o => simp only [Option.map_some]; rw [he.2 o (by simp)]
  rw [← he.1, ← e1, ← e2, ← e3]; exact h
 case slcS x lo hi =>
  have e1 : lo.map ev = lo.map ev' := by cases lo with | none => rfl | some o => simp only [Option.map_some]; rw [he.2 o (by simp)]
  have e2 : hi.map ev = hi.map ev' := by cases hi with | none => rfl | some o => simp only [Option.map_some]; rw [he.2 o (by simp)]
  rw [← he.1, ← e1, ← e2]; exact h
 case more g args => rw [← evs_congr he]; exact h
 case mkfn f xs ys => rw [← evs_congr fun o ho => he o (List.mem_append_left _ ho), ← evs_congr fun o ho => he o (List.mem_append_right _ ho)]; exact h
theorem fillK_mono {ev : Opd -> AV} : ∀ {ps : List (Nat × Nat × Opd)} {cs : List AV} {K K' : List AV -> Prop}, (∀ x, K x -> K' x) -> fillK ev ps cs K -> fillK ev ps cs K'
 | [], _, _, _, hk, h => hk _ h
 | (_, _, _) :: _, _, _, _, hk, h => req_iff.2 ⟨(req_iff.1 h).1, fillK_mono hk (req_iff.1 h).2⟩
theorem fillK_ex {ev : Opd -> AV} : ∀ {ps : List (Nat × Nat × Opd)} {cs : List AV} {K : List AV -> Prop}, fillK ev ps cs K -> ∃ r, fillK ev ps cs (fun x => x = r) ∧ K r
 | [], cs, _, h => ⟨cs, rfl, h⟩
 | (_, _, _) :: _, _, _, h => let ⟨r, h1, h2⟩ := fillK_ex (req_iff.1 h).2; ⟨r, req_iff.2 ⟨(req_iff.1 h).1, h1⟩, h2⟩
theorem elemsOf_mono {ev : Opd -> AV} {sz : Nat} : ∀ {os : List Opd} {K K' : List AV -> Prop}, (∀ x, K x -> K' x) -> elemsOf ev sz os K -> elemsOf ev sz os K'
 | [], _, _, hk, h => hk _ h
 | _ :: _, _, _, hk, h => req_iff.2 ⟨(req_iff.1 h).1, elemsOf_mono (fun _ hx => hk _ hx) (req_iff.1 h).2⟩
theorem elemsOf_ex {ev : Opd -> AV} {sz : Nat} : ∀ {os : List Opd} {K : List AV -> Prop}, elemsOf ev sz os K -> ∃ r, elemsOf ev sz os (fun x => x = r) ∧ K r
 | [], _, h => ⟨[], rfl, h⟩
 | o :: _, _, h => let ⟨r, h1, h2⟩ := elemsOf_ex (req_iff.1 h).2; ⟨(ev o).norm :: r, req_iff.2 ⟨(req_iff.1 h).1, elemsOf_mono (fun x hx => by rw [hx]) h1⟩, h2⟩
theorem pK_mono {rx : RX} {ev : Opd -> AV} {rd : AV -> Option (List AV)} {K K' : AV -> Prop} (hk : ∀ x, K x -> K' x) (h : rx.pK ev rd K) : rx.pK ev rd K' := by
 cases rx <;> simp only [RX.pK] at h ⊢
 case mov o => exact hk _ h
 case pick c a b =>
  unfold pickK at h ⊢; split at h
  ·exact ⟨fun e => hk _ (h.1 e), fun e => hk _ (h.2 e)⟩
  ·exact h
 case nilck o => unfold nilckK at h ⊢; split at h <;> first | exact hk _ h | exact h
 case fptr off o => exact req_iff.2 ⟨(req_iff.1 h).1, hk _ (req_iff.1 h).2⟩
 case idx sz x i =>
  unfold idxK at h ⊢; split at h
  ·obtain ⟨y, h1, h2⟩ := h; exact ⟨y, h1, hk _ h2⟩
  ·exact ⟨h.1, hk _ h.2⟩
  ·exact h
 case idxS x i =>
  unfold idxSK at h ⊢; split at h
  ·obtain ⟨y, h1, h2⟩ := h; exact ⟨y, h1, hk _ h2⟩
  ·exact h
 case fld agg off n o =>
  unfold fldK at h ⊢; split at h
  ·split at h
   ·exact req_iff.2 ⟨(req_iff.1 h).1, hk _ (req_iff.1 h).2⟩
   ·split at h <;> first | exact hk _ h | exact h
  ·exact h
 case ext i o =>
  unfold extK at h ⊢; split at h
  ·split at h <;> first | exact hk _ h | exact h
  ·exact h
 case len st o => unfold lenK at h ⊢; split at h <;> first | exact hk _ h | exact h
 case un op o => unfold unK at h ⊢; split at h <;> first | exact hk _ h | exact h
 case conv k o => unfold convK at h ⊢; split at h <;> first | exact hk _ h | exact h
 case bin op x y =>
  unfold binK at h ⊢; split at h
  ·refine req_iff.2 ⟨(req_iff.1 h).1, ?_⟩; have h := (req_iff.1 h).2; split at h <;> first | exact hk _ h | exact ⟨h.1, hk _ h.2⟩ | exact h
  ·split at h <;> first | exact hk _ h | exact ⟨h.1, hk _ h.2⟩ | exact h
  ·exact h
 case load agg n o =>
  unfold loadK at h ⊢; split at h
  ·split at h
   ·exact req_iff.2 ⟨(req_iff.1 h).1, hk _ (req_iff.1 h).2⟩
   ·split at h <;> first | exact hk _ h | exact h
  ·exact h
 case lod bnd agg n o =>
  obtain ⟨h0, h⟩ := req_iff.1 h; refine req_iff.2 ⟨h0, ?_⟩; unfold loadK at h ⊢; split at h
  ·split at h
   ·exact req_iff.2 ⟨(req_iff.1 h).1, hk _ (req_iff.1 h).2⟩
   ·split at h <;> first | exact hk _ h | exact h
  ·exact h
 case build zs ps => exact fillK_mono (fun x hx => hk _ hx) h
 case bslice sz rs => exact elemsOf_mono (fun x hx => hk _ hx) h
 case mk sz z l c => unfold mkK at h ⊢; split at h <;> first | exact ⟨h.1, hk _ h.2⟩ | exact h
 case minmax mx x y =>
  unfold mmK at h ⊢; split at h
  ·exact req_iff.2 ⟨(req_iff.1 h).1, hk _ (req_iff.1 h).2⟩
  ·exact h
 case idxA ln sz x i =>
  unfold idxAK at h ⊢; split at h
  ·exact req_iff.2 ⟨(req_iff.1 h).1, (req_iff.1 h).2.1, hk _ (req_iff.1 h).2.2⟩
  ·exact h
 case idxV agg ln sz x i =>
  unfold idxVK at h ⊢; split at h
  ·refine ⟨h.1, ?_⟩; have h := h.2; split at h
   ·exact req_iff.2 ⟨(req_iff.1 h).1, hk _ (req_iff.1 h).2⟩
   ·obtain ⟨c, h1, h2⟩ := h; exact ⟨c, h1, hk _ h2⟩
  ·exact h
 case slc sz x lo hi mx =>
  unfold slcK at h ⊢; split at h
  ·refine bnd_mono (fun a h => bnd_mono (fun b h => ?_) h) h; split at h
   ·exact ⟨h.1, hk _ h.2⟩
   ·exact bnd_mono (fun m h => ⟨h.1, hk _ h.2⟩) h
  ·refine bnd_mono (fun a h => bnd_mono (fun b h => ?_) h) h; split at h
   ·exact ⟨h.1, hk _ h.2⟩
   ·exact bnd_mono (fun m h => ⟨h.1, hk _ h.2⟩) h
  ·exact h
 case slcS x lo hi =>
  unfold slcSK at h ⊢; split at h
  ·exact bnd_mono (fun a h => bnd_mono (fun b h => ⟨h.1, hk _ h.2⟩) h) h
  ·exact h
 case more g args => exact moreK_mono hk h
 case mkfn f xs ys => exact hk _ h
theorem pK_ex {rx : RX} {ev : Opd -> AV} {rd : AV -> Option (List AV)} {K : AV -> Prop} (h : rx.pK ev rd K) : ∃ r, rx.pK ev rd (fun x => x = r) ∧ K r := by
 cases rx <;> simp only [RX.pK] at h ⊢
 case mov o => exact ⟨_, rfl, h⟩
 case pick c a b =>
  unfold pickK at h ⊢; split at h
  ·rename_i t _
   cases t with
   | true => exact ⟨_, ⟨fun _ => rfl, (fun e => by cases e)⟩, h.1 rfl⟩
   | false => exact ⟨_, ⟨(fun e => by cases e), fun _ => rfl⟩, h.2 rfl⟩
  ·exact h.elim
 case nilck o => unfold nilckK at h ⊢; split at h <;> first | exact ⟨_, rfl, h⟩ | exact h.elim
 case fptr off o => exact ⟨_, req_iff.2 ⟨(req_iff.1 h).1, rfl⟩, (req_iff.1 h).2⟩
 case idx sz x i =>
  unfold idxK at h ⊢; split at h
  ·obtain ⟨y, h1, h2⟩ := h; exact ⟨_, ⟨y, h1, rfl⟩, h2⟩
  ·exact ⟨_, ⟨h.1, rfl⟩, h.2⟩
  ·exact h.elim
 case idxS x i =>
  unfold idxSK at h ⊢; split at h
  ·obtain ⟨y, h1, h2⟩ := h; exact ⟨_, ⟨y, h1, rfl⟩, h2⟩
  ·exact h.elim
 case fld agg off n o =>
  unfold fldK at h ⊢; split at h
  ·split at h
   ·exact ⟨_, req_iff.2 ⟨(req_iff.1 h).1, rfl⟩, (req_iff.1 h).2⟩
   ·split at h <;> first | exact ⟨_, rfl, h⟩ | exact h.elim
  ·exact h.elim
 case ext i o =>
  unfold extK at h ⊢; split at h
  ·split at h <;> first | exact ⟨_, rfl, h⟩ | exact h.elim
  ·exact h.elim
 case len st o => unfold lenK at h ⊢; split at h <;> first | exact ⟨_, rfl, h⟩ | exact h.elim
 case un op o => unfold unK at h ⊢; split at h <;> first | exact ⟨_, rfl, h⟩ | exact h.elim
 case conv k o => unfold convK at h ⊢; split at h <;> first | exact ⟨_, rfl, h⟩ | exact h.elim
 case bin op x y =>
  unfold binK at h ⊢; split at h
  ·obtain ⟨h0, h⟩ := req_iff.1 h; split at h <;> first | exact ⟨_, req_iff.2 ⟨h0, rfl⟩, h⟩ | exact ⟨_, req_iff.2 ⟨h0, h.1, rfl⟩, h.2⟩ | exact h.elim
  ·split at h <;> first | exact ⟨_, rfl, h⟩ | exact ⟨_, ⟨h.1, rfl⟩, h.2⟩ | exact h.elim
  ·exact h.elim
 case load agg n o =>
  unfold loadK at h ⊢; split at h
  ·split at h
   ·exact ⟨_, req_iff.2 ⟨(req_iff.1 h).1, rfl⟩, (req_iff.1 h).2⟩
   ·split at h <;> first | exact ⟨_, rfl, h⟩ | exact h.elim
  ·exact h.elim
 case lod bnd agg n o =>
  obtain ⟨h0, h⟩ := req_iff.1 h
  suffices h9 : ∃ r, loadK agg n (rd (ev o)) (fun x => x = r) ∧ K r from h9.imp fun r ⟨q1, q2⟩ => ⟨req_iff.2 ⟨h0, q1⟩, q2⟩
  unfold loadK at h ⊢; split at h
  ·split at h
   ·exact ⟨_, req_iff.2 ⟨(req_iff.1 h).1, rfl⟩, (req_iff.1 h).2⟩
   ·split at h <;> first | exact ⟨_, rfl, h⟩ | exact h.elim
  ·exact h.elim
 case build zs ps =>
  obtain ⟨r, h1, h2⟩ := fillK_ex h; exact ⟨_, fillK_mono (fun x hx => by rw [hx]) h1, h2⟩
 case bslice sz rs =>
  obtain ⟨r, h1, h2⟩ := elemsOf_ex h; exact ⟨_, elemsOf_mono (fun x hx => by rw [hx]) h1, h2⟩
 case mk sz z l c => unfold mkK at h ⊢; split at h <;> first | exact ⟨_, ⟨h.1, rfl⟩, h.2⟩ | exact h.elim
 case minmax mx x y =>
  unfold mmK at h ⊢; split at h
  ·exact ⟨_, req_iff.2 ⟨(req_iff.1 h).1, rfl⟩, (req_iff.1 h).2⟩
  ·exact h.elim
 case idxA ln sz x i =>
  unfold idxAK at h ⊢; split at h
  ·exact ⟨_, req_iff.2 ⟨(req_iff.1 h).1, (req_iff.1 h).2.1, rfl⟩, (req_iff.1 h).2.2⟩
  ·exact h.elim
 case idxV agg ln sz x i =>
  unfold idxVK at h ⊢; split at h
  ·obtain ⟨h0, h⟩ := h; split at h
   ·exact ⟨_, ⟨h0, req_iff.2 ⟨(req_iff.1 h).1, rfl⟩⟩, (req_iff.1 h).2⟩
   ·obtain ⟨c, h1, h2⟩ := h; exact ⟨_, ⟨h0, c, h1, rfl⟩, h2⟩
  ·exact h.elim
 case slc sz x lo hi mx =>
  unfold slcK at h ⊢; split at h
  ·obtain ⟨a, ha, h⟩ := bnd_ex h; obtain ⟨b, hb, h⟩ := bnd_ex h; split at h
   ·exact ⟨_, ha _ (hb _ ⟨h.1, rfl⟩), h.2⟩
   ·obtain ⟨m, hm, h⟩ := bnd_ex h; exact ⟨_, ha _ (hb _ (hm _ ⟨h.1, rfl⟩)), h.2⟩
  ·obtain ⟨a, ha, h⟩ := bnd_ex h; obtain ⟨b, hb, h⟩ := bnd_ex h; split at h
   ·exact ⟨_, ha _ (hb _ ⟨h.1, rfl⟩), h.2⟩
   ·obtain ⟨m, hm, h⟩ := bnd_ex h; exact ⟨_, ha _ (hb _ (hm _ ⟨h.1, rfl⟩)), h.2⟩
  ·exact h.elim
 case slcS x lo hi =>
  unfold slcSK at h ⊢; split at h
  ·obtain ⟨a, ha, h⟩ := bnd_ex h; obtain ⟨b, hb, h⟩ := bnd_ex h; exact ⟨_, ha _ (hb _ ⟨h.1, rfl⟩), h.2⟩
  ·exact h.elim
 case more g args => exact moreK_ex h
 case mkfn f xs ys => exact ⟨_, rfl, h⟩
 all_goals exact h.elim
def RX.qK (P : Program) (rx : RX) (ev : Opd -> AV) (rd : AV -> Option (List AV)) (K : AV -> Prop) : Prop :=
 match rx with
 | .call f args => pcallK P (ev f) (evs ev args) K
 | .callv f args => callable P (ev f) ∧ pcallK P (ev f) (evs ev args) K
 | rx => rx.pK ev rd K
theorem qK_eq {P : Program} {rx : RX} (h : ∀ f args, rx ≠ .call f args) (h' : ∀ f args, rx ≠ .callv f args) (ev : Opd -> AV) (rd : AV -> Option (List AV)) (K : AV -> Prop) : rx.qK P ev rd K = rx.pK ev rd K := by
 cases rx <;> first | rfl | exact absurd rfl (h _ _) | exact absurd rfl (h' _ _)
theorem run_passive {P : Program} {rx : RX} (hp : rx.passive = true) {s : St} {d : Option Nat} {K : St -> Prop} : rx.run P true s d K ↔ rx.qK P s.ev s.rd fun v => K (s.put d v) := by
 cases rx <;> first | exact Iff.rfl | (simp [RX.passive] at hp)
theorem qK_congr {P : Program} {rx : RX} {ev ev' : Opd -> AV} {rd rd' : AV -> Option (List AV)} (he : ∀ o ∈ rx.opds, ev o = ev' o) (hr : rx.looks = true -> ∀ o ∈ rx.opds, rx.lowOk (ev o) -> ∀ cs, rd (ev o) = some cs -> rd' (ev o) = some cs) {K : AV -> Prop} (h : rx.qK P ev rd K) : rx.qK P ev' rd' K := by
 cases rx
 case call f args =>
  simp only [RX.opds, List.mem_cons, forall_eq_or_imp] at he; simp only [RX.qK] at h ⊢; rw [← he.1, ← evs_congr he.2]; exact h
 case callv f args =>
  simp only [RX.opds, List.mem_cons, forall_eq_or_imp] at he; simp only [RX.qK] at h ⊢; rw [← he.1, ← evs_congr he.2]; exact h
 all_goals (rw [qK_eq (by simp) (by simp)] at h ⊢; exact pK_congr he hr h)
theorem qK_mono {P : Program} {rx : RX} {ev : Opd -> AV} {rd : AV -> Option (List AV)} {K K' : AV -> Prop} (hk : ∀ x, K x -> K' x) (h : rx.qK P ev rd K) : rx.qK P ev rd K' := by
 cases rx
 case call f args =>
  simp only [RX.qK] at h ⊢; unfold pcallK at h ⊢; split at h
  ·obtain ⟨r, h1, h2⟩ := h; exact ⟨r, h1, hk _ h2⟩
  ·exact h
 case callv f args =>
  simp only [RX.qK] at h ⊢; refine ⟨h.1, ?_⟩; have h := h.2; unfold pcallK at h ⊢; split at h
  ·obtain ⟨r, h1, h2⟩ := h; exact ⟨r, h1, hk _ h2⟩
  ·exact h
 all_goals (rw [qK_eq (by simp) (by simp)] at h ⊢; exact pK_mono hk h)
theorem qK_ex {P : Program} {rx : RX} {ev : Opd -> AV} {rd : AV -> Option (List AV)} {K : AV -> Prop} (h : rx.qK P ev rd K) : ∃ r, rx.qK P ev rd (fun x => x = r) ∧ K r := by
 cases rx
 case call f args =>
  simp only [RX.qK] at h ⊢; unfold pcallK at h ⊢; split at h
  ·obtain ⟨r, h1, h2⟩ := h; exact ⟨r, ⟨r, h1, rfl⟩, h2⟩
  ·exact h.elim
 case callv f args =>
  simp only [RX.qK] at h ⊢; obtain ⟨h0, h⟩ := h; unfold pcallK at h ⊢; split at h
  ·obtain ⟨r, h1, h2⟩ := h; exact ⟨r, ⟨h0, r, h1, rfl⟩, h2⟩
  ·exact h.elim
 all_goals (rw [qK_eq (by simp) (by simp)] at h; obtain ⟨r, h1, h2⟩ := pK_ex h; exact ⟨r, by rw [qK_eq (by simp) (by simp)]; exact h1, h2⟩)
theorem blt_of {a b : Nat} (h : a < b) : Nat.blt a b = true := by rw [Nat.blt_eq]; exact h
theorem blt_not {a b : Nat} (h : ¬ a < b) : Nat.blt a b = false := by
 cases hb : Nat.blt a b with
 | false => rfl
 | true => rw [Nat.blt_eq] at hb; exact absurd hb h
theorem beq_self (a : Nat) : Nat.beq a a = true := by simp
theorem envPut_comm : ∀ (e : List (Nat × AV)) {j k : Nat} (x y : AV), j ≠ k -> envPut (envPut e j x) k y = envPut (envPut e k y) j x
 | [], j, k, x, y, h => by
  have h1 : Nat.beq j k = false := beq_ne h; have h2 : Nat.beq k j = false := beq_ne (Ne.symm h)
  by_cases h3 : k < j
  ·simp only [envPut, h1, h2, blt_of h3, blt_not (show ¬ j < k by omega)]
  ·simp only [envPut, h1, h2, blt_not h3, blt_of (show j < k by omega)]
 | (t, u) :: r, j, k, x, y, h => by
  have h1 : Nat.beq j k = false := beq_ne h; have h2 : Nat.beq k j = false := beq_ne (Ne.symm h); have ih := envPut_comm r x y h
  by_cases htj : t = j
  ·subst htj
   by_cases h3 : k < t
   ·simp only [envPut, beq_self, h1, h2, blt_of h3, blt_not (show ¬ t < k by omega)]
   ·simp only [envPut, beq_self, h1, blt_not h3]
  ·by_cases htk : t = k
   ·subst htk
    by_cases h3 : j < t
    ·simp only [envPut, beq_self, h1, h2, blt_of h3, blt_not (show ¬ t < j by omega)]
    ·simp only [envPut, beq_self, h2, blt_not h3]
   ·have b1 : Nat.beq t j = false := beq_ne htj; have b2 : Nat.beq t k = false := beq_ne htk
    by_cases h3 : j < t
    ·by_cases h4 : k < t
     ·by_cases h5 : k < j
      ·simp only [envPut, b1, b2, h1, h2, blt_of h3, blt_of h4, blt_of h5, blt_not (show ¬ j < k by omega)]
      ·simp only [envPut, b1, b2, h1, h2, blt_of h3, blt_of h4, blt_not h5, blt_of (show j < k by omega)]
     ·simp only [envPut, b1, b2, h1, blt_of h3, blt_not h4, blt_not (show ¬ k < j by omega)]
    ·by_cases h4 : k < t
     ·simp only [envPut, b1, b2, h2, blt_not h3, blt_of h4, blt_not (show ¬ j < k by omega)]
     ·simp only [envPut, b1, b2, blt_not h3, blt_not h4, ih]
theorem St.put_comm (s : St) {j k : Nat} (x y : AV) (h : j ≠ k) : (s.put (some j) x).put (some k) y = (s.put (some k) y).put (some j) x := by
 simp only [St.put, envPut_comm _ _ _ h]
theorem St.get_put (s : St) (k : Nat) (v : AV) {t : Nat} (h : t ≠ k) : (s.put (some k) v).get t = s.get t := by
 rw [St.get_at, St.get_at, St.at_put, if_neg (by simpa using h)]
theorem St.ev_put (s : St) (k : Nat) (v : AV) {o : Opd} (h : k ∉ o.slots) : (s.put (some k) v).ev o = s.ev o := by
 cases o with
 | t j => simp only [St.ev]; rw [St.get_put]; simpa [Opd.slots, eq_comm] using h
 | c x => rfl
theorem St.rd_put (s : St) (d : Option Nat) (v : AV) : (s.put d v).rd = s.rd := by
 funext x
 cases d <;> (cases x <;> rfl)
theorem rx_frame {P : Program} {rx : RX} {d : Option Nat} {k : Nat} (v : AV) (h1 : k ∉ slotsOf rx.opds) (h2 : d ≠ some k) {s : St} {K : St -> Prop} :
  rx.run P true (s.put (some k) v) d K ↔ rx.run P true s d (fun s' => K (s'.put (some k) v)) := by
 have hev : ∀ o ∈ rx.opds, (s.put (some k) v).ev o = s.ev o := fun o ho => St.ev_put s k v fun hk => h1 (mem_slotsOf ho hk)
 have hput : ∀ y, (s.put (some k) v).put d y = (s.put d y).put (some k) v := fun y => by
  cases d with
  | none => rfl
  | some j => exact St.put_comm s v y (fun e => h2 (by rw [e]))
 cases hp : rx.passive with
 | true =>
  rw [run_passive hp, run_passive hp]; constructor
  ·intro h; exact qK_mono (fun y hy => by rw [← hput]; exact hy) (qK_congr hev (fun _ o _ _ cs e => by rw [← St.rd_put s (some k) v]; exact e) h)
  ·intro h; refine qK_congr (fun o ho => (hev o ho).symm) (fun _ o _ _ cs e => by rw [St.rd_put]; exact e) (qK_mono (fun y hy => ?_) h)
   rw [hput]; exact hy
 | false =>
  cases rx <;> simp [RX.passive] at hp
  case eff e args => exact Iff.rfl
  case take t =>
   have htk : t ≠ k := fun e => h1 (by simp [RX.opds, slotsOf, Opd.slots, e])
   simp only [RX.run, movK, St.get_put s k v htk]; cases s.get t <;> try (simp only [hput]; done)
   rename_i c l
   cases c with
   | no => simp only [hput]
   | full => simp only [hput]
   | own z' =>
    cases d with
    | none => exact Iff.rfl
    | some d =>
     have hdk : d ≠ k := fun e => h2 (by rw [e])
     have : ∀ x y u, ((((s.put (some k) v).put (some d) x).put (some t) y).put (some d) u) = ((((s.put (some d) x).put (some t) y).put (some d) u).put (some k) v) := fun x y u => by
      rw [St.put_comm s v x (Ne.symm hdk), St.put_comm _ v y (Ne.symm htk), St.put_comm _ v u (Ne.symm hdk)]
     simp only [this]
  case box o =>
   simp only [RX.run, boxK]; rw [hev o (by simp [RX.opds])]
   have : ∀ y cs, (((s.put (some k) v).addBox cs).put d y) = (((s.addBox cs).put d y).put (some k) v) := fun y cs => by
    cases d with
    | none => rfl
    | some j => exact St.put_comm (s.addBox cs) v y (fun e => h2 (by rw [e]))
   have hb : (s.put (some k) v).bs = s.bs := rfl; rw [hb, this]
  case store n p x =>
   simp only [RX.run, storeK]; rw [hev p (by simp [RX.opds]), hev x (by simp [RX.opds])]
   cases s.ev p <;> exact Iff.rfl
  case stn bnd n p x =>
   simp only [RX.run, stnK, storeK]; rw [hev p (by simp [RX.opds]), hev x (by simp [RX.opds])]
   cases s.ev p <;> exact Iff.rfl
  case append z o x =>
   simp only [RX.run, appendK]; rw [hev x (by simp [RX.opds])]
   cases s.ev x <;> try exact Iff.rfl
   rename_i c xs
   cases o with
   | t t =>
    have htk : t ≠ k := fun e => h1 (by simp [RX.opds, slotsOf, Opd.slots, e])
    simp only [St.get_put s k v htk]; cases s.get t <;> try exact Iff.rfl
    rename_i c l
    cases c with
    | no => exact Iff.rfl
    | full => simp only [hput]
    | own z' =>
     have : ∀ y, (((s.put (some k) v).put (some t) (.sl .no l)).put d y) = (((s.put (some t) (.sl .no l)).put d y).put (some k) v) := fun y => by
      rw [St.put_comm s v _ (Ne.symm htk)]
      cases d with
      | none => rfl
      | some j => exact St.put_comm _ v y (fun e => h2 (by rw [e]))
     simp only [this]
   | c y =>
    cases y <;> try exact Iff.rfl
    rename_i c l
    cases c with
    | full => simp only [hput]
    | _ => exact Iff.rfl
theorem rx_mono {P : Program} {rx : RX} {d : Option Nat} {s : St} {K K' : St -> Prop} {dr : Bool} (hk : ∀ x, K x -> K' x) (h : rx.run P dr s d K) : rx.run P dr s d K' := by
 cases rx
 case mov o =>
  cases dr with
  | true => exact hk _ h
  | false =>
   simp only [RX.run, movK] at h ⊢; split at h
   ·exact hk _ h
   ·split at h
    ·split at h
     ·exact req_iff.2 ⟨(req_iff.1 h).1, hk _ (req_iff.1 h).2⟩
     ·exact h
    ·exact hk _ h
 case take t =>
  simp only [RX.run, movK] at h ⊢; split at h
  ·split at h
   ·exact req_iff.2 ⟨(req_iff.1 h).1, hk _ (req_iff.1 h).2⟩
   ·exact h
  ·exact hk _ h
 case callv f args =>
  refine ⟨h.1, ?_⟩; have h := h.2
  cases dr with
  | true =>
   simp only at h ⊢; unfold pcallK at h ⊢; split at h
   ·obtain ⟨r, h1, h2⟩ := h; exact ⟨r, h1, hk _ h2⟩
   ·exact h
  | false =>
   simp only [callK] at h ⊢; split at h
   ·obtain ⟨Q, h1, h2⟩ := h; exact ⟨Q, h1, fun r bs' hq => hk _ (h2 r bs' hq)⟩
   ·obtain ⟨Q, h1, h2⟩ := h; exact ⟨Q, h1, fun r bs' hq => hk _ (h2 r bs' hq)⟩
   ·exact h
 case box o => exact req_iff.2 ⟨(req_iff.1 h).1, hk _ (req_iff.1 h).2⟩
 case load agg n o =>
  cases dr with
  | true => exact pK_mono (rx := .load agg n o) (fun x hx => hk _ hx) h
  | false =>
   simp only [RX.run, loadTK] at h ⊢; split at h
   ·split at h
    ·exact hk _ h
    ·exact pK_mono (rx := .load false n o) (ev := fun _ => _) (fun x hx => hk _ hx) h
   ·exact pK_mono (rx := .load _ n o) (ev := fun _ => _) (fun x hx => hk _ hx) h
 case store n p x =>
  have hst : ∀ n p v, storeK n s p v K -> storeK n s p v K' := fun n p v h => by
   simp only [storeK] at h ⊢; split at h
   ·split at h
    ·exact req_iff.2 ⟨(req_iff.1 h).1, hk _ (req_iff.1 h).2⟩
    ·exact h
   ·exact h
  cases dr with
  | true => exact hst _ _ _ h
  | false =>
   simp only [RX.run, storeTK] at h ⊢; split at h
   ·split at h
    ·split at h
     ·exact req_iff.2 ⟨(req_iff.1 h).1, hk _ (req_iff.1 h).2⟩
     ·exact h
    ·exact hst _ _ _ h
   ·unfold storeEK at h ⊢; split at h
    ·exact ⟨h.1, hk _ h.2⟩
    ·exact h
   ·exact hst _ _ _ h
 case stn conf n p x =>
  cases dr with
  | false => exact h
  | true =>
   simp only [RX.run, stnK, storeK] at h ⊢; split at h
   ·refine req_iff.2 ⟨(req_iff.1 h).1, ?_⟩; have h := (req_iff.1 h).2; split at h
    ·exact req_iff.2 ⟨(req_iff.1 h).1, hk _ (req_iff.1 h).2⟩
    ·exact h
   ·exact h
 case append z o x =>
  simp only [RX.run, appendK] at h ⊢; split at h
  ·split at h
   ·split at h
    ·exact req_iff.2 ⟨(req_iff.1 h).1, (req_iff.1 h).2.1, hk _ (req_iff.1 h).2.2⟩
    ·exact ⟨h.1, hk _ h.2⟩
    ·exact h
   ·exact ⟨h.1, hk _ h.2⟩
   ·exact h
  ·exact h
 case call f args =>
  cases dr with
  | true => exact qK_mono (rx := .call f args) (rd := s.rd) (fun x hx => hk _ hx) h
  | false =>
   simp only [RX.run, callK] at h ⊢; split at h
   ·obtain ⟨Q, h1, h2⟩ := h; exact ⟨Q, h1, fun r bs' hq => hk _ (h2 r bs' hq)⟩
   ·obtain ⟨Q, h1, h2⟩ := h; exact ⟨Q, h1, fun r bs' hq => hk _ (h2 r bs' hq)⟩
   ·exact h
 case eff e args =>
  cases dr with
  | true => exact h
  | false => exact effK_mono hk h
 all_goals (simp only [RX.run] at h ⊢; exact pK_mono (fun x hx => hk _ hx) h)
theorem rx_ex {P : Program} {rx : RX} {d : Option Nat} {s : St} {K : St -> Prop} (h : rx.run P true s d K) : ∃ s1, rx.run P true s d (fun x => x = s1) ∧ K s1 := by
 cases hp : rx.passive with
 | true =>
  rw [run_passive hp] at h; obtain ⟨r, h1, h2⟩ := qK_ex h
  exact ⟨_, (run_passive hp).2 (qK_mono (fun x hx => by rw [hx]) h1), h2⟩
 | false =>
  cases rx <;> simp [RX.passive] at hp
  case eff e args => exact h.elim
  case take t =>
   simp only [RX.run, movK] at h ⊢; split at h
   ·split at h
    ·exact ⟨_, req_iff.2 ⟨(req_iff.1 h).1, rfl⟩, (req_iff.1 h).2⟩
    ·exact h.elim
   ·exact ⟨_, rfl, h⟩
  case box o => exact ⟨_, req_iff.2 ⟨(req_iff.1 h).1, rfl⟩, (req_iff.1 h).2⟩
  case store n p x =>
   simp only [RX.run, storeK] at h ⊢; split at h
   ·split at h
    ·exact ⟨_, req_iff.2 ⟨(req_iff.1 h).1, rfl⟩, (req_iff.1 h).2⟩
    ·exact h.elim
   ·exact h.elim
  case stn conf n p x =>
   simp only [RX.run, stnK, storeK] at h ⊢; split at h
   ·have h1 := (req_iff.1 h).1; have h := (req_iff.1 h).2; split at h
    ·exact ⟨_, req_iff.2 ⟨h1, req_iff.2 ⟨(req_iff.1 h).1, rfl⟩⟩, (req_iff.1 h).2⟩
    ·exact h.elim
   ·exact h.elim
  case append z o x =>
   simp only [RX.run, appendK] at h ⊢; split at h
   ·split at h
    ·split at h
     ·exact ⟨_, req_iff.2 ⟨(req_iff.1 h).1, (req_iff.1 h).2.1, rfl⟩, (req_iff.1 h).2.2⟩
     ·exact ⟨_, ⟨h.1, rfl⟩, h.2⟩
     ·exact h.elim
    ·exact ⟨_, ⟨h.1, rfl⟩, h.2⟩
    ·exact h.elim
   ·exact h.elim
theorem rx_mod {P : Program} {rx : RX} {d : Option Nat} {s s1 : St} (h : rx.run P true s d (fun x => x = s1)) {k : Nat} (h1 : d ≠ some k) (h2 : rx.isSrc k = false) : s1.get k = s.get k := by
 have hput : ∀ (s : St) y, (s.put d y).get k = s.get k := fun s y => by
  cases d with
  | none => rfl
  | some j => exact St.get_put s j y (fun e => h1 (by rw [e]))
 cases hp : rx.passive with
 | true =>
  rw [run_passive hp] at h; obtain ⟨r, _, rfl⟩ := qK_ex h
  exact hput s r
 | false =>
  cases rx <;> simp [RX.passive] at hp
  case eff e args => exact h.elim
  case take t =>
   have htk : k ≠ t := fun e => by subst e; simp [RX.isSrc] at h2
   simp only [RX.run, movK] at h; split at h
   ·split at h
    ·rename_i d; have hdk : k ≠ d := fun e => h1 (by rw [e])
     have := (req_iff.1 h).2; subst this; rw [St.get_put _ _ _ hdk, St.get_put _ _ _ htk, St.get_put _ _ _ hdk]
    ·exact h.elim
   ·subst h; exact hput _ _
  case box o =>
   have := (req_iff.1 h).2; subst this; exact hput _ _
  case store n p x =>
   simp only [RX.run, storeK] at h; split at h
   ·split at h
    ·have := (req_iff.1 h).2; subst this; rfl
    ·exact h.elim
   ·exact h.elim
  case stn conf n p x =>
   simp only [RX.run, stnK, storeK] at h; split at h
   ·have h := (req_iff.1 h).2; split at h
    ·have := (req_iff.1 h).2; subst this; rfl
    ·exact h.elim
   ·exact h.elim
  case append z o x =>
   simp only [RX.run, appendK] at h; split at h
   ·split at h
    ·rename_i t; have htk : k ≠ t := fun e => by subst e; simp [RX.isSrc] at h2
     split at h
     ·have := (req_iff.1 h).2.2; subst this; rw [hput, St.get_put _ _ _ htk]
     ·have := h.2; subst this; exact hput _ _
     ·exact h.elim
    ·have := h.2; subst this; exact hput _ _
    ·exact h.elim
   ·exact h.elim
def St.puts : St -> List (Nat × AV) -> St
 | s, [] => s
 | s, (k, v) :: r => (s.put (some k) v).puts r
theorem St.puts_bs (s : St) : ∀ ps : List (Nat × AV), (s.puts ps).bs = s.bs := fun ps => by
 induction ps generalizing s with
 | nil => rfl
 | cons p ps ih => obtain ⟨k, v⟩ := p; simp only [St.puts]; rw [ih]; rfl
theorem ev_get {s s' : St} {o : Opd} (h : ∀ k ∈ o.slots, s'.get k = s.get k) : s'.ev o = s.ev o := by
 cases o with
 | t k => simp only [St.ev]; rw [h k (by simp [Opd.slots])]
 | c x => rfl
theorem rx_slots {P : Program} {rx : RX} (hp : rx.slotOnly = true) {d : Option Nat} {s s1 : St} (h : rx.run P true s d (fun x => x = s1)) :
  ∃ ps, s1 = s.puts ps ∧ (∀ p ∈ ps, d = some p.1 ∨ rx.isSrc p.1 = true) ∧ ∀ s', (∀ k ∈ slotsOf rx.opds, s'.get k = s.get k) -> (rx.looks = true -> ∀ o ∈ rx.opds, rx.lowOk (s.ev o) -> ∀ cs, s.rd (s.ev o) = some cs -> s'.rd (s.ev o) = some cs) -> rx.run P true s' d (fun x => x = s'.puts ps) := by
 have hput : ∀ v, ∃ ps, (∀ s : St, s.put d v = s.puts ps) ∧ ∀ p ∈ ps, d = some p.1 := fun v => by
  cases d with
  | none => exact ⟨[], fun s => rfl, fun p hp => by cases hp⟩
  | some k => exact ⟨[(k, v)], fun s => rfl, fun p hp => by simp at hp; rw [hp]⟩
 cases hpp : rx.passive with
 | true =>
  rw [run_passive hpp] at h; obtain ⟨v, h1, h2⟩ := qK_ex h; obtain ⟨ps, q1, q2⟩ := hput v; refine ⟨ps, by rw [← h2, q1], fun p hp => .inl (q2 p hp), fun s' hr hl => ?_⟩
  rw [run_passive hpp]; refine qK_mono (fun x hx => by rw [hx, q1]) (qK_congr (fun o ho => (ev_get fun k hk => ?_).symm) hl h1)
  exact hr k (mem_slotsOf ho hk)
 | false =>
  cases rx <;> simp [RX.passive, RX.slotOnly] at hpp hp
  case take t =>
   simp only [RX.run, movK] at h ⊢; split at h
   ·rename_i z l hg; split at h
    ·rename_i k; obtain ⟨h1, h2⟩ := req_iff.1 h; refine ⟨[(k, .sl .no l), (t, .sl .no l), (k, .sl (.own z) l)], h2.symm, fun p hp => ?_, fun s' hr _ => ?_⟩
     ·simp only [List.mem_cons, List.not_mem_nil, or_false] at hp; rcases hp with rfl | rfl | rfl
      ·exact .inl rfl
      ·exact .inr (by simp [RX.isSrc])
      ·exact .inl rfl
     ·have := hr t (by simp [RX.opds, slotsOf, Opd.slots])
      rw [this, hg]; exact req_iff.2 ⟨h1, rfl⟩
    ·exact h.elim
   ·rename_i hnot; obtain ⟨ps, q1, q2⟩ := hput (s.get t); refine ⟨ps, by rw [← h, q1], fun p hp => .inl (q2 p hp), fun s' hr _ => ?_⟩
    have := hr t (by simp [RX.opds, slotsOf, Opd.slots])
    rw [this]; split
    ·rename_i z l hg; exact absurd hg (hnot z l)
    ·rw [q1]
  case append z o x =>
   simp only [RX.run, appendK] at h ⊢; have hx : ∀ s' : St, (∀ k ∈ slotsOf (RX.append z o x).opds, s'.get k = s.get k) -> s'.ev x = s.ev x := fun s' hr => ev_get fun k hk => hr k (mem_slotsOf (o := x) (by simp [RX.opds]) hk)
   split at h
   ·rename_i c xs hxe; split at h
    ·rename_i t; split at h
     ·rename_i z' l hg; obtain ⟨h1, h2, h3⟩ := req_iff.1 h; obtain ⟨ps, q1, q2⟩ := hput (.sl (.own z) (l ++ xs)); refine ⟨(t, .sl .no l) :: ps, by rw [← h3, q1]; rfl, fun p hp => ?_, fun s' hr _ => ?_⟩
      ·rcases List.mem_cons.1 hp with rfl | hp
       ·exact .inr (by simp [RX.isSrc])
       ·exact .inl (q2 p hp)
      ·rw [hx s' hr, hxe]; simp only; rw [hr t (by simp [RX.opds, slotsOf, Opd.slots]), hg]
       exact req_iff.2 ⟨h1, h2, by rw [q1]; rfl⟩
     ·rename_i l hg; obtain ⟨ps, q1, q2⟩ := hput (.sl (.own z) (l ++ xs)); refine ⟨ps, by rw [← h.2, q1], fun p hp => .inl (q2 p hp), fun s' hr _ => ?_⟩
      rw [hx s' hr, hxe]; simp only; rw [hr t (by simp [RX.opds, slotsOf, Opd.slots]), hg]
      exact ⟨h.1, by rw [q1]⟩
     ·exact h.elim
    ·rename_i l; obtain ⟨ps, q1, q2⟩ := hput (.sl (.own z) (l ++ xs)); refine ⟨ps, by rw [← h.2, q1], fun p hp => .inl (q2 p hp), fun s' hr _ => ?_⟩
     rw [hx s' hr, hxe]; exact ⟨h.1, by rw [q1]⟩
    ·exact h.elim
   ·exact h.elim
end Go.AM
