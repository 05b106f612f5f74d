/-
  Texts of this aQ joined (wip/gen/bundle.py),those declarations only that are needed:ArmB ArmC BnE BnF BnG BnH BnI FunC. By an AI agent.
-/
import Derived.Test.YtahnpgfkkngimaaGreatBcc
import Derived.Test.YtahnpgfkkngimaaGreatBca
set_option linter.unusedSimpArgs false
set_option linter.unusedVariables false
namespace Go.CK
open Go.AM Go.Proofs
theorem JB {s:ByteArray} (h:mz s=false):Fun Tryz.prog 128 [.str s] .nfn:=by
 have h2:=of_decide_eq_false h;have h3:¬s=⟨⟨[43]⟩⟩:=fun e=>h2 (.inl e);have h4:¬s=⟨⟨[45]⟩⟩:=fun e=>h2 (.inr (.inl e));have h5:¬s=⟨⟨[42]⟩⟩:=fun e=>h2 (.inr (.inr (.inl e)));have h6:¬s=⟨⟨[47]⟩⟩:=fun e=>h2 (.inr (.inr (.inr (.inl e))));have h7:¬s=⟨⟨[37]⟩⟩:=fun e=>h2 (.inr (.inr (.inr (.inr e))));refine Fun.of (cu (by simp) ?_) rfl rfl
 conv=>whnf
 conv=>whnf
 repeat' ((first|(refine gC ?_;(refine gD ?_;refine cJ ?_))|refine af.nrm ?_)<;>conv=>whnf)
theorem Cq:Fun Tryz.prog 128 [.str Br] (.fn (.func 159) [] []):=by
 refine Fun.of (cu (by simp) ?_) rfl rfl
 conv=>whnf
 conv=>whnf
 repeat' ((first|(refine gC ?_;(refine gD ?_;refine cId ?_))|refine af.nrm ?_)<;>conv=>whnf)
theorem Co:Fun Tryz.prog 128 [.str Bp] (.fn (.func 160) [] []):=by
 refine Fun.of (cu (by simp) ?_) rfl rfl
 conv=>whnf
 conv=>whnf
 repeat' ((first|(refine gC ?_;(refine gD ?_;first|refine cId ?_|refine cJd ?_))|refine af.nrm ?_)<;>conv=>whnf)
theorem Cp:Fun Tryz.prog 128 [.str Bq] (.fn (.func 161) [] []):=by
 refine Fun.of (cu (by simp) ?_) rfl rfl
 conv=>whnf
 conv=>whnf
 repeat' ((first|(refine gC ?_;(refine gD ?_;first|refine cId ?_|refine cJd ?_))|refine af.nrm ?_)<;>conv=>whnf)
theorem uZ (f:AV) (hf:f=.fn (.func 163) [] []∨f=.fn (.func 164) [] []):AM.Sem Tryz.prog 162 [f] [] fun r bs'=>r=.fn (.func 175) [] [.ptr 0 0]∧bs'=[.cells [f]]:=by
 rcases hf with rfl|rfl
 ·refine dh (by simp) ?_
  conv=>whnf
  conv=>whnf
  repeat' (refine af.nrm ?_<;>conv=>whnf)
  all_goals exact ⟨rfl,rfl⟩
 ·refine dh (by simp) ?_
  conv=>whnf
  conv=>whnf
  repeat' (refine af.nrm ?_<;>conv=>whnf)
  all_goals exact ⟨rfl,rfl⟩
theorem yQ:AM.Sem Tryz.prog 128 [.str zc] [] fun r bs'=>r=.fn (.func 175) [] [.ptr 0 0]∧bs'=[.cells [.fn (.func 163) [] []]]:=by
 refine cu (by simp) ?_
 conv=>whnf
 conv=>whnf
 repeat' ((first|(refine gF ?_;refine ab.to (uZ _ (.inl rfl)) ?_)|(refine gC ?_;(refine gD ?_;first|refine cId ?_|refine cJd ?_))|refine af.nrm ?_)<;>conv=>whnf)
 all_goals exact ⟨rfl,rfl⟩
theorem yP:AM.Sem Tryz.prog 128 [.str cMod] [] fun r bs'=>r=.fn (.func 175) [] [.ptr 0 0]∧bs'=[.cells [.fn (.func 164) [] []]]:=by
 refine cu (by simp) ?_
 conv=>whnf
 conv=>whnf
 repeat' ((first|(refine gF ?_;refine ab.to (uZ _ (.inr rfl)) ?_)|(refine gC ?_;(refine gD ?_;first|refine cId ?_|refine cJd ?_))|refine af.nrm ?_)<;>conv=>whnf)
 all_goals exact ⟨rfl,rfl⟩
theorem Kd {a b:Int} (hb:b≠0) (h1:inR a=true) (h2:inR b=true):Fun Tryz.prog 164 [.int .i64 a,.int .i64 b] (.int .i64 (a-a.fdiv b*b)):=by
 have h3:=qk.1 h1;have h4:=qk.1 h2;have h5:=uQ hb h3.1 h3.2;have h6:=qY h5.1 h5.2 h4.1 h4.2;refine Fun.of (wu (by simp) ?_) rfl rfl
 conv=>whnf
 conv=>whnf
 repeat' ((first|(refine gF ?_;refine ab.fn (r9 hb h1 h2) ?_)|(refine gW ?_;refine wI ?_)|refine af.nrm ?_)<;>conv=>whnf)
theorem D1 {a:Int} {f:AV} (hf:f=.fn (.func 163) [] []∨f=.fn (.func 164) [] []):AM.Sem Tryz.prog 175 [.int .i64 a,.int .i64 0,.ptr 0 0] [.cells [f]] fun r bs'=>r=.tup [.int .i64 0,.int .i64 12]∧bs'=[.cells [f]]:=by
 rcases hf with rfl|rfl
 ·refine cy (by simp) ?_
  conv=>whnf
  conv=>whnf
  repeat' ((first|(refine gC ?_;(refine gD ?_;refine cI ?_))|refine af.nrm ?_)<;>conv=>whnf)
  all_goals exact ⟨rfl,rfl⟩
 ·refine cy (by simp) ?_
  conv=>whnf
  conv=>whnf
  repeat' ((first|(refine gC ?_;(refine gD ?_;refine cI ?_))|refine af.nrm ?_)<;>conv=>whnf)
  all_goals exact ⟨rfl,rfl⟩
theorem D0 {a b:Int} (hb:b≠0) (h1:inR a=true) (h2:inR b=true):AM.Sem Tryz.prog 175 [.int .i64 a,.int .i64 b,.ptr 0 0] [.cells [.fn (.func 163) [] []]] fun r bs'=>r=.tup [.int .i64 (a.fdiv b),.int .i64 0]∧bs'=[.cells [.fn (.func 163) [] []]]:=by
 refine cy (by simp) ?_
 conv=>whnf
 conv=>whnf
 repeat' ((first|(refine gF ?_;refine ab.fn (r9 hb h1 h2) ?_)|(refine gC ?_;(refine gD ?_;refine cJ ?_))|(refine gH ?_;refine hB ?_)|refine af.nrm ?_)<;>conv=>whnf)
 all_goals exact ⟨rfl,rfl⟩
theorem D2 {a b:Int} (hb:b≠0) (h1:inR a=true) (h2:inR b=true):AM.Sem Tryz.prog 175 [.int .i64 a,.int .i64 b,.ptr 0 0] [.cells [.fn (.func 164) [] []]] fun r bs'=>r=.tup [.int .i64 (a-a.fdiv b*b),.int .i64 0]∧bs'=[.cells [.fn (.func 164) [] []]]:=by
 refine cy (by simp) ?_
 conv=>whnf
 conv=>whnf
 repeat' ((first|(refine gF ?_;refine ab.fn (Kd hb h1 h2) ?_)|(refine gC ?_;(refine gD ?_;refine cJ ?_))|(refine gH ?_;refine hB ?_)|refine af.nrm ?_)<;>conv=>whnf)
 all_goals exact ⟨rfl,rfl⟩
theorem xZ {s:ByteArray} {a b x:Int} (h:mz s=true) (h2:(inR a&&inR b)=true) (hv:opv s a b=(x,0)):apply s a b=if inR x=false then (0,5) else (x,0):=by
 unfold apply;rw [h,h2,hv,if_neg (by simp),if_neg (by simp),if_neg (by simp)]
theorem x4 {s:ByteArray} {a b:Int} (h:mz s=true) (h2:(inR a&&inR b)=true) (hv:opv s a b=(0,12)):apply s a b=(0,12):=by
 unfold apply;rw [h,h2,hv,if_neg (by simp),if_neg (by simp),if_pos (by simp)]
def ld (s:ByteArray) (a b:Int):AV:=.tup [.int .i64 (apply s a b).1,.int .i64 (apply s a b).2]
theorem k9 {s:ByteArray} {a b x e:Int} (h:apply s a b=(x,e)):ld s a b=.tup [.int .i64 x,.int .i64 e]:=by unfold ld;rw [h]
theorem k8 {s:ByteArray} {a b x:Int} (h:mz s=true) (h2:(inR a&&inR b)=true) (hv:opv s a b=(x,0)) (hx:inR x=true):ld s a b=.tup [.int .i64 x,.int .i64 0]:=k9 (by rw [xZ h h2 hv,hx];rfl)
theorem la {s:ByteArray} {a b x:Int} (h:mz s=true) (h2:(inR a&&inR b)=true) (hv:opv s a b=(x,0)) (hx:inR x=false):ld s a b=.tup [.int .i64 0,.int .i64 5]:=k9 (by rw [xZ h h2 hv,hx];rfl)
theorem IA {a b:Int} (hb:b≠0):opv zc a b=(a.fdiv b,0):=by
 unfold opv;rw [if_neg (by decide),if_neg (by decide),if_neg (by decide),if_neg hb,if_pos rfl]
theorem Iz {a b:Int} (hb:b≠0):opv cMod a b=(a-a.fdiv b*b,0):=by
 unfold opv;rw [if_neg (by decide),if_neg (by decide),if_neg (by decide),if_neg hb,if_neg (by decide)]
theorem IB (a b:Int):opv Br a b=(a+b,0):=by unfold opv;rw [if_pos rfl]
theorem Iw (a b:Int):opv Bp a b=(a-b,0):=by unfold opv;rw [if_neg (by decide),if_pos rfl]
theorem Iy (a b:Int):opv Bq a b=(a*b,0):=by unfold opv;rw [if_neg (by decide),if_neg (by decide),if_pos rfl]
theorem GD (a:Int):opv zc a 0=(0,12):=by
 unfold opv;rw [if_neg (by decide),if_neg (by decide),if_neg (by decide),if_pos rfl]
theorem GC (a:Int):opv cMod a 0=(0,12):=by
 unfold opv;rw [if_neg (by decide),if_neg (by decide),if_neg (by decide),if_pos rfl]
theorem pd {s:ByteArray} (h:mz s=true):s=Br∨s=Bp∨s=Bq∨s=zc∨s=cMod:=of_decide_eq_true h
theorem H9 {s:ByteArray} {a b:Int} (h:mz s=false):Fun Tryz.prog 91 [.str s,.int .i64 a,.int .i64 b] (ld s a b):=by
 have hv:apply s a b=(0,7):=by unfold apply;rw [if_pos h]
 rw [k9 hv];have hof:=JB h;refine Fun.of (ay (by simp) ?_) rfl rfl
 conv=>whnf
 conv=>whnf
 repeat' ((first|(refine gF ?_;refine ab.fn (hof) ?_)|(refine gC ?_;refine cY ?_)|refine af.nrm ?_)<;>conv=>whnf)
set_option maxRecDepth 100000 in
theorem FE {s:ByteArray} {a b:Int} (h:mz s=true) (h2:(inR a&&inR b)=false):Fun Tryz.prog 91 [.str s,.int .i64 a,.int .i64 b] (ld s a b):=by
 have hv:apply s a b=(0,5):=by unfold apply;rw [if_neg (by rw [h];decide),if_pos h2]
 rw [k9 hv];have hin:=oa a b;rw [h2] at hin;rcases pd h with rfl|rfl|rfl|rfl|rfl
 ·have hof:=Cq;refine Fun.of (ay (by simp) ?_) rfl rfl
  conv=>whnf
  conv=>whnf
  repeat' ((first|(refine gF ?_;first|refine ab.fn (hof) ?_|refine ab.fn (hin) ?_)|(refine gC ?_;first|refine cN ?_|refine .not ?_)|refine af.nrm ?_)<;>conv=>whnf)
 ·have hof:=Co;refine Fun.of (ay (by simp) ?_) rfl rfl
  conv=>whnf
  conv=>whnf
  repeat' ((first|(refine gF ?_;first|refine ab.fn (hof) ?_|refine ab.fn (hin) ?_)|(refine gC ?_;first|refine cN ?_|refine .not ?_)|refine af.nrm ?_)<;>conv=>whnf)
 ·have hof:=Cp;refine Fun.of (ay (by simp) ?_) rfl rfl
  conv=>whnf
  conv=>whnf
  repeat' ((first|(refine gF ?_;first|refine ab.fn (hof) ?_|refine ab.fn (hin) ?_)|(refine gC ?_;first|refine cN ?_|refine .not ?_)|refine af.nrm ?_)<;>conv=>whnf)
 ·refine Fun.of (ay (by simp) ?_) rfl rfl
  conv=>whnf
  conv=>whnf
  repeat' ((first|(refine gF ?_;first|refine ab.to (yQ) ?_|refine ab.fn (hin) ?_)|(refine gC ?_;first|refine cN ?_|refine .not ?_)|refine af.nrm ?_)<;>conv=>whnf)
 ·refine Fun.of (ay (by simp) ?_) rfl rfl
  conv=>whnf
  conv=>whnf
  repeat' ((first|(refine gF ?_;first|refine ab.to (yP) ?_|refine ab.fn (hin) ?_)|(refine gC ?_;first|refine cN ?_|refine .not ?_)|refine af.nrm ?_)<;>conv=>whnf)
set_option maxRecDepth 100000 in
theorem FI {a b:Int} (h2:(inR a&&inR b)=true):Fun Tryz.prog 91 [.str Br,.int .i64 a,.int .i64 b] (ld Br a b):=by
 have hin:=oa a b;rw [h2] at hin;have h3:=(Bool.and_eq_true _ _).mp h2;have hv:=IB a b;have hi:=Ck (s:=Br) h3.1 h3.2;rw [hv] at hi;have hof:=Cq;have hop:=Kg hi;have hr:=od (a+b)
 cases hx:inR (a+b) with
 |true=>
  rw [k8 rfl h2 hv hx];rw [hx] at hr;refine Fun.of (ay (by simp) ?_) rfl rfl
  conv=>whnf
  conv=>whnf
  repeat' ((first|(refine gF ?_;first|refine ab.fn (hof) ?_|refine ab.fn (hin) ?_|refine ab.fn (hop) ?_|refine ab.fn (hr) ?_)|(refine gC ?_;first|refine cY ?_|refine cN ?_|refine .not ?_|(refine gD ?_;refine cI ?_))|(refine gH ?_;refine hB ?_)|refine af.nrm ?_)<;>conv=>whnf)
 |false=>
  rw [la rfl h2 hv hx];rw [hx] at hr;refine Fun.of (ay (by simp) ?_) rfl rfl
  conv=>whnf
  conv=>whnf
  repeat' ((first|(refine gF ?_;first|refine ab.fn (hof) ?_|refine ab.fn (hin) ?_|refine ab.fn (hop) ?_|refine ab.fn (hr) ?_)|(refine gC ?_;first|refine cY ?_|refine cN ?_|refine .not ?_|(refine gD ?_;first|refine cI ?_|refine cJ ?_))|(refine gH ?_;refine hB ?_)|refine af.nrm ?_)<;>conv=>whnf)
set_option maxRecDepth 100000 in
theorem FD {a b:Int} (h2:(inR a&&inR b)=true):Fun Tryz.prog 91 [.str Bp,.int .i64 a,.int .i64 b] (ld Bp a b):=by
 have hin:=oa a b;rw [h2] at hin;have h3:=(Bool.and_eq_true _ _).mp h2;have hv:=Iw a b;have hi:=Ck (s:=Bp) h3.1 h3.2;rw [hv] at hi;have hof:=Co;have hop:=Kf hi;have hr:=od (a-b)
 cases hx:inR (a-b) with
 |true=>
  rw [k8 rfl h2 hv hx];rw [hx] at hr;refine Fun.of (ay (by simp) ?_) rfl rfl
  conv=>whnf
  conv=>whnf
  repeat' ((first|(refine gF ?_;first|refine ab.fn (hof) ?_|refine ab.fn (hin) ?_|refine ab.fn (hop) ?_|refine ab.fn (hr) ?_)|(refine gC ?_;first|refine cY ?_|refine cN ?_|refine .not ?_|(refine gD ?_;refine cI ?_))|(refine gH ?_;refine hB ?_)|refine af.nrm ?_)<;>conv=>whnf)
 |false=>
  rw [la rfl h2 hv hx];rw [hx] at hr;refine Fun.of (ay (by simp) ?_) rfl rfl
  conv=>whnf
  conv=>whnf
  repeat' ((first|(refine gF ?_;first|refine ab.fn (hof) ?_|refine ab.fn (hin) ?_|refine ab.fn (hop) ?_|refine ab.fn (hr) ?_)|(refine gC ?_;first|refine cY ?_|refine cN ?_|refine .not ?_|(refine gD ?_;first|refine cI ?_|refine cJ ?_))|(refine gH ?_;refine hB ?_)|refine af.nrm ?_)<;>conv=>whnf)
set_option maxRecDepth 100000 in
theorem FF {a b:Int} (h2:(inR a&&inR b)=true):Fun Tryz.prog 91 [.str Bq,.int .i64 a,.int .i64 b] (ld Bq a b):=by
 have hin:=oa a b;rw [h2] at hin;have h3:=(Bool.and_eq_true _ _).mp h2;have hv:=Iy a b;have hi:=Ck (s:=Bq) h3.1 h3.2;rw [hv] at hi;have hof:=Cp;have hop:=Ke hi;have hr:=od (a*b)
 cases hx:inR (a*b) with
 |true=>
  rw [k8 rfl h2 hv hx];rw [hx] at hr;refine Fun.of (ay (by simp) ?_) rfl rfl
  conv=>whnf
  conv=>whnf
  repeat' ((first|(refine gF ?_;first|refine ab.fn (hof) ?_|refine ab.fn (hin) ?_|refine ab.fn (hop) ?_|refine ab.fn (hr) ?_)|(refine gC ?_;first|refine cY ?_|refine cN ?_|refine .not ?_|(refine gD ?_;refine cI ?_))|(refine gH ?_;refine hB ?_)|refine af.nrm ?_)<;>conv=>whnf)
 |false=>
  rw [la rfl h2 hv hx];rw [hx] at hr;refine Fun.of (ay (by simp) ?_) rfl rfl
  conv=>whnf
  conv=>whnf
  repeat' ((first|(refine gF ?_;first|refine ab.fn (hof) ?_|refine ab.fn (hin) ?_|refine ab.fn (hop) ?_|refine ab.fn (hr) ?_)|(refine gC ?_;first|refine cY ?_|refine cN ?_|refine .not ?_|(refine gD ?_;first|refine cI ?_|refine cJ ?_))|(refine gH ?_;refine hB ?_)|refine af.nrm ?_)<;>conv=>whnf)
set_option maxRecDepth 100000 in
theorem FH {a b:Int} (h2:(inR a&&inR b)=true):Fun Tryz.prog 91 [.str zc,.int .i64 a,.int .i64 b] (ld zc a b):=by
 have hin:=oa a b;rw [h2] at hin;have h3:=(Bool.and_eq_true _ _).mp h2
 by_cases hb:b=0
 ·subst hb;rw [k9 (x4 rfl h2 (GD a))];refine Fun.of (ay (by simp) ?_) rfl rfl
  conv=>whnf
  conv=>whnf
  repeat' ((first|(refine gF ?_;first|refine ab.to (yQ) ?_|refine ab.fn (hin) ?_|refine ab.to (D1 (.inl rfl)) ?_)|(refine gC ?_;first|refine cY ?_|refine cN ?_|refine .not ?_|(refine gD ?_;refine cJ ?_))|(refine gH ?_;refine hB ?_))<;>conv=>whnf)
  refine af.lay [] oko ?_
  conv=>whnf
  conv=>whnf
  repeat' (refine af.nrm ?_<;>conv=>whnf)
 ·have hv:=IA (a:=a) hb;have hr:=od (a.fdiv b)
  cases hx:inR (a.fdiv b) with
  |true=>
   rw [k8 rfl h2 hv hx];rw [hx] at hr;refine Fun.of (ay (by simp) ?_) rfl rfl
   conv=>whnf
   conv=>whnf
   repeat' ((first|(refine gF ?_;first|refine ab.to (yQ) ?_|refine ab.fn (hin) ?_|refine ab.to (D0 hb h3.1 h3.2) ?_|refine ab.fn (hr) ?_)|(refine gC ?_;first|refine cY ?_|refine cN ?_|refine .not ?_|(refine gD ?_;refine cI ?_))|(refine gH ?_;refine hB ?_))<;>conv=>whnf)
   refine af.lay [] oko ?_
   conv=>whnf
   conv=>whnf
   repeat' (refine af.nrm ?_<;>conv=>whnf)
  |false=>
   rw [la rfl h2 hv hx];rw [hx] at hr;refine Fun.of (ay (by simp) ?_) rfl rfl
   conv=>whnf
   conv=>whnf
   repeat' ((first|(refine gF ?_;first|refine ab.to (yQ) ?_|refine ab.fn (hin) ?_|refine ab.to (D0 hb h3.1 h3.2) ?_|refine ab.fn (hr) ?_)|(refine gC ?_;first|refine cY ?_|refine cN ?_|refine .not ?_|(refine gD ?_;first|refine cI ?_|refine cJ ?_))|(refine gH ?_;refine hB ?_))<;>conv=>whnf)
   refine af.lay [] oko ?_
   conv=>whnf
   conv=>whnf
   repeat' (refine af.nrm ?_<;>conv=>whnf)
set_option maxRecDepth 100000 in
theorem FG {a b:Int} (h2:(inR a&&inR b)=true):Fun Tryz.prog 91 [.str cMod,.int .i64 a,.int .i64 b] (ld cMod a b):=by
 have hin:=oa a b;rw [h2] at hin;have h3:=(Bool.and_eq_true _ _).mp h2
 by_cases hb:b=0
 ·subst hb;rw [k9 (x4 rfl h2 (GC a))];refine Fun.of (ay (by simp) ?_) rfl rfl
  conv=>whnf
  conv=>whnf
  repeat' ((first|(refine gF ?_;first|refine ab.to (yP) ?_|refine ab.fn (hin) ?_|refine ab.to (D1 (.inr rfl)) ?_)|(refine gC ?_;first|refine cY ?_|refine cN ?_|refine .not ?_|(refine gD ?_;refine cJ ?_))|(refine gH ?_;refine hB ?_))<;>conv=>whnf)
  refine af.lay [] oko ?_
  conv=>whnf
  conv=>whnf
  repeat' (refine af.nrm ?_<;>conv=>whnf)
 ·have hv:=Iz (a:=a) hb;have hr:=od (a-a.fdiv b*b)
  cases hx:inR (a-a.fdiv b*b) with
  |true=>
   rw [k8 rfl h2 hv hx];rw [hx] at hr;refine Fun.of (ay (by simp) ?_) rfl rfl
   conv=>whnf
   conv=>whnf
   repeat' ((first|(refine gF ?_;first|refine ab.to (yP) ?_|refine ab.fn (hin) ?_|refine ab.to (D2 hb h3.1 h3.2) ?_|refine ab.fn (hr) ?_)|(refine gC ?_;first|refine cY ?_|refine cN ?_|refine .not ?_|(refine gD ?_;refine cI ?_))|(refine gH ?_;refine hB ?_))<;>conv=>whnf)
   refine af.lay [] oko ?_
   conv=>whnf
   conv=>whnf
   repeat' (refine af.nrm ?_<;>conv=>whnf)
  |false=>
   rw [la rfl h2 hv hx];rw [hx] at hr;refine Fun.of (ay (by simp) ?_) rfl rfl
   conv=>whnf
   conv=>whnf
   repeat' ((first|(refine gF ?_;first|refine ab.to (yP) ?_|refine ab.fn (hin) ?_|refine ab.to (D2 hb h3.1 h3.2) ?_|refine ab.fn (hr) ?_)|(refine gC ?_;first|refine cY ?_|refine cN ?_|refine .not ?_|(refine gD ?_;first|refine cI ?_|refine cJ ?_))|(refine gH ?_;refine hB ?_))<;>conv=>whnf)
   refine af.lay [] oko ?_
   conv=>whnf
   conv=>whnf
   repeat' (refine af.nrm ?_<;>conv=>whnf)
theorem H8 (s:ByteArray) (a b:Int):Fun Tryz.prog 91 [.str s,.int .i64 a,.int .i64 b] (ld s a b):=by
 cases h:mz s with
 |false=>exact H9 h
 |true=>
  cases h2:(inR a&&inR b) with
  |false=>exact FE h h2
  |true=>
   rcases pd h with rfl|rfl|rfl|rfl|rfl
   ·exact FI h2
   ·exact FD h2
   ·exact FF h2
   ·exact FH h2
   ·exact FG h2
theorem su (k n:Int) (s:ByteArray) (l:List AV) (f:AV) (hf:f=.fn (.func 163) [] []∨f=.fn (.func 164) [] []):AM.Sem Tryz.prog 162 [f] [.cells [.int .i64 k,.int .i64 n,.str s,.sl .no l]] fun r bs'=>r=.fn (.func 175) [] [.ptr 1 0]∧bs'=[.cells [.int .i64 k,.int .i64 n,.str s,.sl .no l],.cells [f]]:=by
 rcases hf with rfl|rfl
 ·refine dh (by simp) ?_
  conv=>whnf
  conv=>whnf
  repeat' (refine af.nrm ?_<;>conv=>whnf)
  all_goals exact ⟨rfl,rfl⟩
 ·refine dh (by simp) ?_
  conv=>whnf
  conv=>whnf
  repeat' (refine af.nrm ?_<;>conv=>whnf)
  all_goals exact ⟨rfl,rfl⟩
theorem IH (k n:Int) (s:ByteArray) (l:List AV):AM.Sem Tryz.prog 128 [.str zc] [.cells [.int .i64 k,.int .i64 n,.str s,.sl .no l]] fun r bs'=>r=.fn (.func 175) [] [.ptr 1 0]∧bs'=[.cells [.int .i64 k,.int .i64 n,.str s,.sl .no l],.cells [.fn (.func 163) [] []]]:=by
 refine cu (by simp) ?_
 conv=>whnf
 conv=>whnf
 repeat' ((first|(refine gF ?_;refine ab.to (su k n s l _ (.inl rfl)) ?_)|(refine gC ?_;(refine gD ?_;first|refine cId ?_|refine cJd ?_))|refine af.nrm ?_)<;>conv=>whnf)
 all_goals exact ⟨rfl,rfl⟩
theorem IG (k n:Int) (s:ByteArray) (l:List AV):AM.Sem Tryz.prog 128 [.str cMod] [.cells [.int .i64 k,.int .i64 n,.str s,.sl .no l]] fun r bs'=>r=.fn (.func 175) [] [.ptr 1 0]∧bs'=[.cells [.int .i64 k,.int .i64 n,.str s,.sl .no l],.cells [.fn (.func 164) [] []]]:=by
 refine cu (by simp) ?_
 conv=>whnf
 conv=>whnf
 repeat' ((first|(refine gF ?_;refine ab.to (su k n s l _ (.inr rfl)) ?_)|(refine gC ?_;(refine gD ?_;first|refine cId ?_|refine cJd ?_))|refine af.nrm ?_)<;>conv=>whnf)
 all_goals exact ⟨rfl,rfl⟩
def Cn (t:Tm):Bool:=decide (t.kind=2)&&(decide (t.args.length=2)&&mz t.name)
set_option maxRecDepth 100000 in
theorem Ae (t:Tm):Fun Tryz.prog 90 [t.avw] (.bool (Cn t)):=by
 unfold Cn
 by_cases h1:t.kind=2
 ·rw [decide_eq_true h1,Bool.true_and]
  by_cases h2:t.args.length=2
  ·rw [decide_eq_true h2,Bool.true_and]
   cases h:mz t.name with
   |false=>
    have hof:=JB h;refine Fun.of (a6 (by simp) ?_) rfl rfl
    conv=>whnf
    conv=>whnf
    repeat' ((first|(refine gF ?_;refine ab.fn (hof) ?_)|(refine gC ?_;(refine gD ?_;refine cI ?_))|(refine gL ?_;refine .map ?_)|refine af.nrm ?_)<;>conv=>whnf)
   |true=>
    rcases pd h with e|e|e|e|e
    ·have hof:=Cq;rw [←e] at hof;refine Fun.of (a6 (by simp) ?_) rfl rfl
     conv=>whnf
     conv=>whnf
     repeat' ((first|(refine gF ?_;refine ab.fn (hof) ?_)|(refine gC ?_;(refine gD ?_;refine cI ?_))|(refine gL ?_;refine .map ?_)|refine af.nrm ?_)<;>conv=>whnf)
    ·have hof:=Co;rw [←e] at hof;refine Fun.of (a6 (by simp) ?_) rfl rfl
     conv=>whnf
     conv=>whnf
     repeat' ((first|(refine gF ?_;refine ab.fn (hof) ?_)|(refine gC ?_;(refine gD ?_;refine cI ?_))|(refine gL ?_;refine .map ?_)|refine af.nrm ?_)<;>conv=>whnf)
    ·have hof:=Cp;rw [←e] at hof;refine Fun.of (a6 (by simp) ?_) rfl rfl
     conv=>whnf
     conv=>whnf
     repeat' ((first|(refine gF ?_;refine ab.fn (hof) ?_)|(refine gC ?_;(refine gD ?_;refine cI ?_))|(refine gL ?_;refine .map ?_)|refine af.nrm ?_)<;>conv=>whnf)
    ·have hof:=IH t.kind t.num t.name (t.args.map Tm.av);rw [←e] at hof;refine Fun.of (a6 (by simp) ?_) rfl rfl
     conv=>whnf
     conv=>whnf
     repeat' ((first|(refine gF ?_;refine ab.to (hof) ?_)|(refine gC ?_;(refine gD ?_;refine cI ?_))|(refine gL ?_;refine .map ?_))<;>conv=>whnf)
     refine af.lay [] oko ?_
     conv=>whnf
     conv=>whnf
     repeat' (refine af.nrm ?_<;>conv=>whnf)
    ·have hof:=IG t.kind t.num t.name (t.args.map Tm.av);rw [←e] at hof;refine Fun.of (a6 (by simp) ?_) rfl rfl
     conv=>whnf
     conv=>whnf
     repeat' ((first|(refine gF ?_;refine ab.to (hof) ?_)|(refine gC ?_;(refine gD ?_;refine cI ?_))|(refine gL ?_;refine .map ?_))<;>conv=>whnf)
     refine af.lay [] oko ?_
     conv=>whnf
     conv=>whnf
     repeat' (refine af.nrm ?_<;>conv=>whnf)
  ·rw [decide_eq_false h2,Bool.false_and];have h3:¬((t.args.length:Int)=2):=by omega
   refine Fun.of (a6 (by simp) ?_) rfl rfl
   conv=>whnf
   conv=>whnf
   repeat' ((first|(refine gC ?_;(refine gD ?_;first|refine cI ?_|refine cJ ?_))|(refine gL ?_;refine .map ?_)|refine af.nrm ?_)<;>conv=>whnf)
 ·rw [decide_eq_false h1,Bool.false_and];refine Fun.of (a6 (by simp) ?_) rfl rfl
  conv=>whnf
  conv=>whnf
  repeat' ((first|(refine gC ?_;first|refine cN ?_|(refine gD ?_;refine cJ ?_))|refine af.nrm ?_)<;>conv=>whnf)
end Go.CK
namespace Go.CK
open Go.AM Go.Proofs
def A8 (t:Tm):AV:=.tup [.int .i64 (aR t).1,.int .i64 (aR t).2]
theorem lV {t:Tm} {x e:Int} (h:aR t=(x,e)):A8 t=.tup [.int .i64 x,.int .i64 e]:=by unfold A8;rw [h]
theorem E9 {t:Tm} (h:t.kind=1):aR t=(0,17):=by
 obtain ⟨k,n,s,l⟩:=t;have h:k=1:=h;rw [uV (by omega),if_pos h]
theorem Fa {t:Tm} (h:t.kind=0):aR t=if inR t.num=true then (t.num,0) else (0,5):=by
 obtain ⟨k,n,s,l⟩:=t;have h:k=0:=h;rw [uV (by omega),if_neg (by omega),if_pos h];rfl
theorem Hs {t:Tm} (h0:¬t.kind=0) (h1:¬t.kind=1) (ho:Cn t=false):aR t=(0,11):=by
 obtain ⟨k,n,s,l⟩:=t;have h0:¬k=0:=h0;have h1:¬k=1:=h1;have ho:(decide (k=2)&&(decide (l.length=2)&&mz s))=false:=ho
 by_cases hk:k=2
 ·subst hk
  by_cases hl:l.length=2
  ·obtain ⟨a,b,rfl⟩:=oK hl;rw [xP];rw [decide_eq_true rfl,decide_eq_true hl,Bool.true_and,Bool.true_and] at ho;rw [if_pos ho]
  ·rw [Fb hl]
 ·rw [uV hk,if_neg h1,if_neg h0]
theorem Hr {t a b:Tm} (h0:¬t.kind=0) (h1:¬t.kind=1) (ho:Cn t=true) (hl:t.args=[a,b]):aR t=if (aR a).2≠0 then (0,(aR a).2) else if (aR b).2≠0 then (0,(aR b).2) else apply t.name (aR a).1 (aR b).1:=by
 obtain ⟨k,n,s,l⟩:=t;have hl:l=[a,b]:=hl;subst hl;have ho:(decide (k=2)&&(decide ([a,b].length=2)&&mz s))=true:=ho;rw [Bool.and_eq_true,Bool.and_eq_true] at ho;have hk:=of_decide_eq_true ho.1;subst hk;rw [xP,if_neg (by rw [ho.2.2];decide)];rfl
theorem GH {t:Tm} (h:Cn t=true):∃a b,t.args=[a,b]:=by
 unfold Cn at h;rw [Bool.and_eq_true,Bool.and_eq_true] at h;exact oK (of_decide_eq_true h.2.1)
def Kx (t:Tm) (q x y:Int):St:=⟨[(1,.ptr 0 0),(4,.ptr 1 0),(32,.int .i64 q)],[.cells [.int .i64 t.kind,.int .i64 t.num,.str t.name,.sl .no (t.args.map Tm.av)],.cells [.int .i64 x,.int .i64 y]],0⟩
set_option maxHeartbeats 1000000 in
set_option maxRecDepth 100000 in
theorem Jq (t:Tm):Fun Tryz.prog 49 [t.avw] (A8 t):=by
 induction t using Tm.bD with
 |h k n s l ih=>
 generalize ha:Tm.mk k n s l=t;have ih:∀x∈t.args,Fun Tryz.prog 49 [x.avw] (A8 x):=by subst ha;exact ih
 clear ha
 by_cases h1:t.kind=1
 ·rw [lV (E9 h1)];refine Fun.of (dy (by simp) ?_) rfl rfl
  conv=>whnf
  conv=>whnf
  repeat' ((first|(refine gC ?_;(refine gD ?_;refine cI ?_))|refine af.nrm ?_)<;>conv=>whnf)
 by_cases h0:t.kind=0
 ·have hr:=od t.num;have he:=Fa h0
  cases hi:inR t.num with
  |true=>
   rw [hi] at hr he;rw [lV he];refine Fun.of (dy (by simp) ?_) rfl rfl
   conv=>whnf
   conv=>whnf
   repeat' ((first|(refine gF ?_;refine ab.fn (hr) ?_)|(refine gC ?_;first|refine cY ?_|(refine gD ?_;first|refine cI ?_|refine cJ ?_))|refine af.nrm ?_)<;>conv=>whnf)
  |false=>
   rw [hi] at hr he;rw [lV he];refine Fun.of (dy (by simp) ?_) rfl rfl
   conv=>whnf
   conv=>whnf
   repeat' ((first|(refine gF ?_;refine ab.fn (hr) ?_)|(refine gC ?_;first|refine cN ?_|(refine gD ?_;first|refine cI ?_|refine cJ ?_))|refine af.nrm ?_)<;>conv=>whnf)
 have hop:=Ae t
 cases ho:Cn t with
 |false=>
  rw [ho] at hop;rw [lV (Hs h0 h1 ho)];refine Fun.of (dy (by simp) ?_) rfl rfl
  conv=>whnf
  conv=>whnf
  repeat' ((first|(refine gF ?_;refine ab.fn (hop) ?_)|(refine gC ?_;first|refine cN ?_|refine .not ?_|(refine gD ?_;refine cJ ?_))|refine af.nrm ?_)<;>conv=>whnf)
 |true=>
  rw [ho] at hop;obtain ⟨a,b,hl⟩:=GH ho;have he:=Hr h0 h1 ho hl;have ea:=ih a (by rw [hl];simp)
  have eb:=ih b (by rw [hl];simp)
  have hap:=H8 t.name (aR a).1 (aR b).1;have g0:t.args[0]? =some a:=by rw [hl];rfl
  have g1:t.args[1]? =some b:=by rw [hl];rfl
  have hln:t.args.length=2:=by rw [hl];rfl
  unfold A8 at ea eb;unfold ld at hap;refine Fun.of (dy (by simp) ?_) rfl rfl
  conv=>whnf
  repeat' ((first|(refine gF ?_;refine ab.fn (hop) ?_)|(refine gC ?_;first|refine cY ?_|refine cN ?_|refine .not ?_|(refine gD ?_;refine cJ ?_)))<;>conv=>whnf)
  refine aw.by (fb:=true) (fun _ (q:Nat)=>match q with|0=>Kx t 0 0 0|1=>Kx t 1 (aR a).1 0|_=>Kx t 2 (aR a).1 (aR b).1) (fun q=>q≤2∧(1≤q->(aR a).2=0)∧(2≤q->(aR b).2=0)) (fun q=>2-q) 0 ⟨by omega,by omega,by omega⟩ ?_ ?_
  ·exact au
  ·rintro q ⟨q1,q2,q3⟩
   match q,q1,q2,q3 with
   |0,_,_,_=>
    by_cases hz:(aR a).2=0
    ·conv=>whnf
     repeat' ((first|(refine gF ?_;refine ab.fn (ea) ?_)|(refine gC ?_;first|refine .not ?_|(refine gD ?_;refine cI ?_))|(refine gW ?_;refine wI ?_)|(refine gN ?_;refine nS ?_)|(refine gI ?_;(refine gT ?_;refine iA ?_)))<;>conv=>whnf)
     refine ⟨1,⟨⟨by omega,fun _=>hz,by omega⟩,by omega⟩,?_⟩
     exact au
    ·rw [if_pos hz] at he;rw [lV he]
     conv=>whnf
     repeat' ((first|(refine gF ?_;refine ab.fn (ea) ?_)|(refine gC ?_;first|refine .not ?_|(refine gD ?_;first|refine cI ?_|refine cJ ?_))|(refine gI ?_;(refine gT ?_;refine iA ?_))|refine af.nrm ?_)<;>conv=>whnf)
   |1,_,h2,_=>
    rw [if_neg (fun e=>e (h2 (by omega)))] at he
    by_cases hz:(aR b).2=0
    ·conv=>whnf
     repeat' ((first|(refine gF ?_;refine ab.fn (eb) ?_)|(refine gC ?_;first|refine .not ?_|(refine gD ?_;refine cI ?_))|(refine gW ?_;refine wI ?_)|(refine gN ?_;refine nS ?_)|(refine gI ?_;(refine gT ?_;refine iA ?_)))<;>conv=>whnf)
     refine ⟨2,⟨⟨by omega,fun _=>h2 (by omega),fun _=>hz⟩,by omega⟩,?_⟩
     exact au
    ·rw [if_pos hz] at he;rw [lV he]
     conv=>whnf
     repeat' ((first|(refine gF ?_;refine ab.fn (eb) ?_)|(refine gC ?_;first|refine .not ?_|(refine gD ?_;first|refine cI ?_|refine cJ ?_))|(refine gI ?_;(refine gT ?_;refine iA ?_))|refine af.nrm ?_)<;>conv=>whnf)
   |2,_,h2,h3=>
    rw [if_neg (fun e=>e (h2 (by omega))),if_neg (fun e=>e (h3 (by omega)))] at he
    unfold A8;rw [he]
    conv=>whnf
    repeat' ((first|(refine gF ?_;refine ab.fn (hap) ?_)|(refine gC ?_;(refine gD ?_;refine cJ ?_))|(refine gN ?_;refine nS ?_)|refine af.nrm ?_)<;>conv=>whnf)
end Go.CK
namespace Go.CK
open Go.AM Go.Proofs
theorem BY (n:Int):Fun Tryz.prog 50 [.int .i64 n] (mj n).avw:=by
 refine Fun.of (Ai (by simp) ?_) rfl rfl
 conv=>whnf
 conv=>whnf
 repeat' (refine af.nrm ?_<;>conv=>whnf)
 exact rfl
theorem FW (n:Int):Fun Tryz.prog 39 [.int .i64 n] (az n).avw:=by
 refine Fun.of (mZ (by simp) ?_) rfl rfl
 conv=>whnf
 conv=>whnf
 repeat' (refine af.nrm ?_<;>conv=>whnf)
 exact rfl
set_option maxRecDepth 100000 in
theorem zt (l:List Int):Fun Tryz.prog 17 [.sl .no (l.map c7),.sl .no (l.map c7)] (.bool true):=by
 refine Fun.of (Sem.assume fun hg0 _=>?_) rfl rfl;have hg:=(bH (hg0 (.sl .no (l.map c7)) (by simp) rfl)).1
 refine kL (by simp) ?_
 conv=>whnf
 repeat' ((first|(refine gC ?_;first|refine .not ?_|(refine gD ?_;refine cI ?_))|(refine gL ?_;refine .map ?_))<;>conv=>whnf)
 refine aw.count (fb:=true) (l.length) (fun st_ j=>st_.zG [(13,.int .i64 j)]) (fun _=>True) trivial ?_ (fun j hj _=>?_) (fun _=>?_)
 ·exact au
 ·obtain ⟨x,hx⟩:∃x,l[j]? =some x:=⟨_,List.getElem?_eq_getElem (by omega)⟩
  have hx2:(l.map c7)[j]? =some (.int .i64 x):=by rw [List.getElem?_map,hx];rfl
  conv=>whnf
  repeat' ((first|(refine gC ?_;first|refine .not ?_|(refine gD ?_;refine cI ?_))|(refine gW ?_;refine wI ?_)|(refine gI ?_;(refine gM ?_;refine iE ?_)))<;>conv=>whnf)
  refine ⟨trivial,?_⟩;exact au
 ·conv=>whnf
  repeat' ((first|(refine gC ?_;(refine gD ?_;refine cJ ?_))|refine af.nrm ?_)<;>conv=>whnf)
def g1T:Tm:=.mk 2 0 ⟨⟨[102]⟩⟩ [az 1]
def plT:Tm:=.mk 2 0 ⟨⟨[43]⟩⟩ [az 0,mj 1]
theorem bx1:allI fN fF [az 2,az 2] [g1T,az 0]=some ([⟨0,g1T⟩,⟨2,g1T⟩],0):=by kernel_rfl
theorem bx2:allI fN fF [az 0,az 1] [mj 2,mj 3]=some ([⟨0,mj 2⟩,⟨1,mj 3⟩],0):=by kernel_rfl
theorem bx3:allI fN fF [az 1] [g1T]=some ([],13):=by kernel_rfl
theorem bx4:allI fN fF [az 2,az 2] [g1T,g1T]=some ([⟨2,g1T⟩],0):=by kernel_rfl
theorem bx5:allI fN fF [az 2,az 2] [g1T,az 1]=some ([],13):=by kernel_rfl
theorem bv1:bk [⟨2,g1T⟩] (az 2) (az 0)=true:=by kernel_rfl
theorem bv2:bk [⟨0,mj 2⟩] (az 1) plT=true:=by kernel_rfl
theorem bv3:bk [] (az 1) g1T=true:=by kernel_rfl
theorem bv6:bk [⟨0,mj 2⟩] (az 1) (mj 3)=true:=by kernel_rfl
theorem bq1:fI [⟨2,g1T⟩] (az 2) g1T 0=1:=by kernel_rfl
theorem bq2:fI [⟨2,g1T⟩] (az 2) (az 1) 13=2:=by kernel_rfl
theorem bq3:fI [⟨2,g1T⟩] (az 2) (az 0) 0=0:=by kernel_rfl
theorem be1:aR (cR [⟨0,mj 2⟩] plT)=(3,0):=by kernel_rfl
theorem bb1:mD [⟨2,g1T⟩] [⟨0,g1T⟩,⟨2,g1T⟩]=[0]:=by kernel_rfl
theorem bb2:mD [⟨0,mj 2⟩] [⟨0,mj 2⟩,⟨1,mj 3⟩]=[1]:=by kernel_rfl
theorem Hu:A8 (cR [⟨0,mj 2⟩] plT)=.tup [.int .i64 3,.int .i64 0]:=lV be1
def b1L:List Bnd:=[⟨2,g1T⟩]
def b2L:List Bnd:=[⟨0,mj 2⟩]
theorem bs1:∀x∈b1L,x.t.vs.length≤100000:=by
 intro x hx;obtain rfl:=List.mem_singleton.1 hx;decide
theorem bs2:∀x∈b2L,x.t.vs.length≤100000:=by
 intro x hx;obtain rfl:=List.mem_singleton.1 hx;decide
theorem bs0:∀x∈([]:List Bnd),x.t.vs.length≤100000:=fun x hx=>by cases hx
theorem ts1 {t:Tm} (h:t.nodes≤10):TS b1L (az 2) t:=by
 refine ⟨fun x hx=>?_,by decide,by omega,by decide,?_⟩
 ·obtain rfl:=List.mem_singleton.1 hx;exact ⟨by decide,by decide⟩
 ·have e:∀x,Tm.ai (aH b1L++[x])=x.nodes+Tm.ai (aH b1L):=fun x=>by rw [←nc,Tm.ai]
  rw [e];have e1:Tm.ai (a8 b1L++[az 2])=2:=by decide
  have e2:Tm.ai (aH b1L)=2:=by decide
  omega
set_option maxHeartbeats 4000000 in
set_option maxRecDepth 100000 in
theorem Es:Fun Tryz.prog 20 [.sl .no (b2L.map Bnd.av),(az 1).avw,plT.avw] (lj [⟨0,mj 2⟩,⟨1,mj 3⟩] [1] 0):=by
 have hva:=nT (s:=az 1) (t:=plT) bs2;rw [show bk b2L (az 1) plT=true from bv2] at hva;have hap:=vr b2L (by decide) plT
 have hev:=Jq (cR b2L plT);rw [show A8 (cR b2L plT)=.tup [.int .i64 3,.int .i64 0] from Hu] at hev;have hti:=BY 3;have hte:=tb (b:=b2L) (s:=az 1) (t:=mj 3) bs2 bv6 ((rT _ _ _ _).trans bx2) (by decide) (by decide) (by decide)
 rw [if_pos rfl,show mD b2L _=[1] from bb2] at hte;refine Fun.of (sM (by simp) ?_) rfl rfl
 conv=>whnf
 conv=>whnf
 repeat' ((first|(refine gF ?_;first|refine ab.fn (hva) ?_|refine ab.fn (hap) ?_|refine ab.fn (hev) ?_)|(refine gG ?_;first|refine aM.fn (hti) ?_|refine aM.fn (hte) ?_)|(refine gC ?_;first|refine cY ?_|refine .not ?_|(refine gD ?_;refine cI ?_)))<;>conv=>whnf)
 refine af.lay [] oko ?_
 conv=>whnf
 conv=>whnf
 repeat' (refine af.nrm ?_<;>conv=>whnf)
 all_goals rfl
set_option maxHeartbeats 4000000 in
set_option maxRecDepth 100000 in
theorem l6:Fun Tryz.prog 13 [] (.bool true):=by
 have k1:=tb (b:=b1L) (s:=az 2) (t:=az 0) bs1 bv1 ((rT _ _ _ _).trans bx1) (by decide) (by decide) (by decide)
 rw [if_pos rfl,show mD b1L _=[0] from bb1] at k1;have k2:=Es;have k3:=tb (b:=[]) (s:=az 1) (t:=g1T) bs0 bv3 ((rT _ _ _ _).trans bx3) (by decide) (by decide) (by decide)
 rw [if_neg (by decide)] at k3
 have k4:=nQ (b:=b1L) (s:=az 2) (t:=g1T) (ts1 (by decide)) (fun _=>(rT _ _ _ _).trans bx4)
 have k5:=nQ (b:=b1L) (s:=az 2) (t:=az 1) (ts1 (by decide)) (fun _=>(rT _ _ _ _).trans bx5)
 have k6:=nQ (b:=b1L) (s:=az 2) (t:=az 0) (ts1 (by decide)) (fun _=>(rT _ _ _ _).trans bx1)
 rw [show fI b1L _ _ _=1 from bq1] at k4;rw [show fI b1L _ _ _=2 from bq2] at k5;rw [show fI b1L _ _ _=0 from bq3] at k6;have s1:=zM [⟨0,g1T⟩,⟨2,g1T⟩] [⟨0,g1T⟩,⟨2,g1T⟩];rw [oP] at s1;have i1:=zt [0];have i2:=zt [1];refine Fun.of (jQ (by simp) ?_) rfl rfl
 conv=>whnf
 conv=>whnf
 repeat' ((first|(refine gF ?_;first|refine ab.fn (FW _) ?_|refine ab.fn (k1) ?_|refine ab.fn (k2) ?_)|(refine gG ?_;first|refine aM.fn (FW _) ?_|refine aM.fn (k3) ?_|refine aM.fn (k4) ?_|refine aM.fn (k5) ?_|refine aM.fn (k6) ?_|refine aM.fn (s1) ?_|refine aM.fn (i1) ?_|refine aM.fn (i2) ?_)|(refine gC ?_;first|refine cY ?_|(refine gD ?_;first|refine cI ?_|refine cId ?_))|(refine gL ?_;refine .map ?_)|(refine gI ?_;refine iJ ?_))<;>conv=>whnf)
 refine af.lay [] oko ?_
 conv=>whnf
 conv=>whnf
 repeat' (refine af.nrm ?_<;>conv=>whnf)
 all_goals rfl
end Go.CK
namespace Go.CK
open Go.AM Go.Proofs
def rJ (l:List Bnd):Bool:=decide (l.length≤30)&&l.all fun x=>x.t.small
set_option maxRecDepth 100000 in
theorem H5 (l:List Bnd):Fun Tryz.prog 11 [.sl .no (l.map Bnd.av)] (.bool (rJ l)):=by
 refine Fun.of (Sem.assume fun hg0 _=>?_) rfl rfl;have hg:=(bH (hg0 (.sl .no (l.map Bnd.av)) (by simp) rfl)).1
 by_cases hl:l.length≤30
 rotate_left
 ·unfold rJ;rw [decide_eq_false hl,Bool.false_and];have hl2:¬((l.length:Int)≤30):=by omega
  refine ep (by simp) ?_
  conv=>whnf
  repeat' ((first|(refine gC ?_;(refine gD ?_;refine cI ?_))|(refine gL ?_;refine .map ?_)|refine af.nrm ?_)<;>conv=>whnf)
 unfold rJ;rw [decide_eq_true hl,Bool.true_and];refine ep (by simp) ?_
 conv=>whnf
 repeat' ((first|(refine gC ?_;(refine gD ?_;refine cJ ?_))|(refine gL ?_;refine .map ?_))<;>conv=>whnf)
 refine aw.by (fb:=true) (fun _ (j:Nat)=>⟨[(0,.sl .no (l.map Bnd.av)),(8,.int .i64 (l.length:Int)),(9,.int .i64 (j:Int))],[],0⟩) (fun j=>j≤l.length∧(l.drop j).all (fun x=>x.t.small)=l.all fun x=>x.t.small) (fun j=>l.length-j) 0 ⟨Nat.zero_le _,rfl⟩ ?_ ?_
 ·exact au
 ·rintro j ⟨q1,q2⟩
  by_cases hj:j<l.length
  ·obtain ⟨x,hx⟩:∃x,l[j]? =some x:=⟨_,List.getElem?_eq_getElem hj⟩;rw [List.drop_eq_getElem_cons hj,(List.getElem?_eq_some_iff.1 hx).2,List.all_cons] at q2;have hs:=vJ x.t
   cases hc:x.t.small with
   |true=>
    rw [hc] at hs;rw [hc,Bool.true_and] at q2
    conv=>whnf
    repeat' ((first|(refine gF ?_;refine ab.fn (hs) ?_)|(refine gC ?_;first|refine cY ?_|refine .not ?_|(refine gD ?_;refine cI ?_))|(refine gW ?_;refine wI ?_)|(refine gI ?_;(refine gM ?_;refine iE ?_)))<;>conv=>whnf)
    refine ⟨j+1,⟨⟨hj,q2⟩,by omega⟩,?_⟩
    exact au
   |false=>
    rw [hc] at hs;rw [hc,Bool.false_and] at q2;rw [←q2]
    conv=>whnf
    repeat' ((first|(refine gF ?_;refine ab.fn (hs) ?_)|(refine gC ?_;first|refine cN ?_|refine .not ?_|(refine gD ?_;refine cI ?_))|(refine gI ?_;(refine gM ?_;refine iE ?_))|refine af.nrm ?_)<;>conv=>whnf)
  ·obtain rfl:j=l.length:=by omega
   rw [List.drop_length,List.all_nil] at q2;rw [←q2]
   conv=>whnf
   repeat' ((first|(refine gC ?_;(refine gD ?_;refine cJ ?_))|refine af.nrm ?_)<;>conv=>whnf)
theorem AF (b:List Bnd):Tm.ai (a8 b)≤1*b.length:=by
 have h:=kO (n:=1) (l:=a8 b) fun t ht=>by
  obtain ⟨x,hx,rfl⟩:=List.mem_map.1 ht;simp [az,Tm.nodes,Tm.ai]
 have e:(a8 b).length=b.length:=List.length_map ..;rw [e] at h;exact h
theorem TS.Kb {b:List Bnd} {s t:Tm} (hb:rJ b=true) (hs:s.small=true) (ht:t.small=true):TS b s t:=by
 unfold rJ at hb;rw [Bool.and_eq_true] at hb;have hl:b.length≤30:=of_decide_eq_true hb.1;have hx:∀x∈b,x.t.nodes≤1000:=fun x hx=>mN (List.all_eq_true.1 hb.2 x hx);have ns:=mN hs;have nt:=mN ht;have h1:=AF b
 have h2:Tm.ai (aH b)≤1000*(aH b).length:=kO fun t ht=>by
  obtain ⟨x,hm,rfl⟩:=List.mem_map.1 ht;exact hx x hm
 have e2:(aH b).length=b.length:=List.length_map ..;rw [e2] at h2;refine ⟨fun x hm=>?_,by omega,by omega,by omega,?_⟩
 ·have:=hx x hm;have:=zw x.t;omega
 ·rw [cX,cX];omega
theorem TS.of_ans {M:Int->Tm} {c:List Bnd} {s t:Tm} (hB:vQ M c) (hf:∀x∈c,fits x.t) (hr:Rng c) (hs:s.small=true) (ht:t.small=true):TS c s t:=by
 obtain ⟨h1,h2⟩:=BX hB.asc hr hf;have ns:=mN hs;have nt:=mN ht;refine ⟨fun x hm=>?_,by omega,by omega,by omega,?_⟩
 ·have h3:=uJ x.t (hr x hm).2.2;have h4:=(hf x hm).1;have:=zw x.t;omega
 ·rw [cX,cX];omega
def pair2A (s t:Tm):AV:=.agg [.int .i64 s.kind,.int .i64 s.num,.str s.name,.sl .no (s.args.map Tm.av),.int .i64 t.kind,.int .i64 t.num,.str t.name,.sl .no (t.args.map Tm.av)]
theorem validB_iff {b:List Bnd} {s t:Tm}:bk b s t=true↔cL b=true∧s.right=true∧t.right=true:=by unfold bk;rw [Bool.and_eq_true,Bool.and_eq_true]
theorem told_zero {b:List Bnd} {s t:Tm} {c:List Bnd} {l:List Int} (h:Told b s t c l 0):bk b s t=true∧(∃M,Mgu (yb b s t) M∧vQ M c∧∀x∈c,fits x.t)∧Rng c:=by
 unfold Told at h;split at h
 ·rename_i hv;obtain ⟨d,ha,hr,h2⟩:=h;rw [if_pos rfl] at h2;obtain ⟨rfl,_⟩:=h2;refine ⟨hv,?_,hr⟩;rcases ha with ⟨_,_,h3⟩|⟨M,hM,⟨hB,hf,_⟩|⟨_,_,h3⟩⟩
  ·exact absurd h3 (by decide)
  ·exact ⟨M,hM,hB,hf⟩
  ·exact absurd h3 (by decide)
 ·exact absurd h.2.2 (by decide)
theorem told_ans {b:List Bnd} {s t:Tm} {c:List Bnd} {l:List Int} {e:Int} (hv:bk b s t=true) (h:Told b s t c l e):Ans (yb b s t) c e:=by
 unfold Told at h;rw [if_pos hv] at h;obtain ⟨d,ha,hr,h2⟩:=h
 by_cases he:e=0
 ·rw [if_pos he] at h2;obtain ⟨rfl,_⟩:=h2;exact ha
 ·rw [if_neg he] at h2;obtain ⟨rfl,_⟩:=h2;rcases ha with ⟨h4,h5,h3⟩|⟨M,hM,⟨hB,hf,h6⟩|⟨h4,h5,h3⟩⟩
  ·exact .inl ⟨h4,rfl,h3⟩
  ·exact absurd h6 he
  ·exact .inr ⟨M,hM,.inr ⟨h4,rfl,h3⟩⟩
end Go.CK
namespace Go.CK
open Go.AM Go.Proofs
end Go.CK
namespace Go.CK
open Go.AM Go.Proofs
theorem tells_law1 {b:List Bnd} {s t:Tm} (hv:bk b s t=true) (hN:Tm.ai (a8 b++[s])+Tm.ai (aH b++[t])≤300000000):∃out e,wH fN fF (a8 b++[s]) (aH b++[t])=some (out,e)∧Ans (yb b s t) out e∧Rng out:=by
 unfold bk at hv;simp only [Bool.and_eq_true] at hv;obtain ⟨hl,hr⟩:=AE hv.1;obtain ⟨out,e,h1,h2,h2'⟩:=HT hN;rw [if_pos (by simp [hl,hr,hv.2.1,hv.2.2]),if_pos (by simp [CA])] at h2
 exact ⟨out,e,h1,h2.congr fun σ=>Hv,h2'⟩
set_option maxRecDepth 100000 in
theorem tell_one {b:List Bnd} {s t:Tm} (hs:TS b s t):∃c l e,Told b s t c l e∧Fun Tryz.prog 14 [.sl .no (b.map Bnd.av),s.avw,t.avw] (lj c l e):=by
 have hbv:∀x∈b,x.t.vs.length≤100000:=fun x hx=>(hs.hb x hx).2;have hbl:=hs.hl
 cases hv:bk b s t with
 |false=>
  exact ⟨[],[],2,by unfold Told;rw [hv,if_neg Bool.false_ne_true];exact ⟨rfl,rfl,rfl⟩,Jk hbv hv⟩
 |true=>
  obtain ⟨d,e,h1,h3,h4⟩:=tells_law1 hv hs.hN;obtain ⟨g1,g2,g3⟩:=Jg h3 h4
  have hr:cL b=true:=by
   unfold bk at hv;rw [Bool.and_eq_true] at hv;exact hv.1
  have hfr:mD b d=c8 b d:=vm d [] b rfl (zl hr) g2 (fun x hx=>by cases hx)
  have q1:=tb hbv hv h1 hs.hN (by omega) (by omega)
  rw [hfr] at q1
  by_cases he:e=0
  ·rw [if_pos he] at q1;refine ⟨d,c8 b d,0,?_,q1⟩;unfold Told;rw [hv,if_pos rfl];exact ⟨d,by rw [he] at h3;exact h3,h4,by rw [if_pos rfl];exact ⟨rfl,rfl⟩⟩
  ·rw [if_neg he] at q1;refine ⟨[],[],e,?_,q1⟩;unfold Told;rw [hv,if_pos rfl];exact ⟨d,h3,h4,by rw [if_neg he];exact ⟨rfl,rfl⟩⟩
set_option maxHeartbeats 4000000 in
set_option maxRecDepth 100000 in
theorem BindsOrder1_ok (b:List Bnd) (s t u w:Tm):Fun Tryz.prog 5 [.sl .no (b.map Bnd.av),pair2A s t,pair2A u w] (.bool true):=by
 unfold pair2A;have fb:=H5 b;have sa:=vJ s;have sb:=vJ t;have sc:=vJ u;have sd:=vJ w
 cases hb:rJ b with
 |false=>
  rw [hb] at fb;refine Fun.of (op_constraintlaw10_BindsOrder (by simp) ?_) rfl rfl
  conv=>whnf
  conv=>whnf
  repeat' ((first|(refine gF ?_;first|refine ab.fn (fb) ?_|refine ab.fn (l6) ?_)|(refine gC ?_;first|refine cY ?_|refine cN ?_|refine .not ?_))<;>conv=>whnf)
  refine af.lay [] oko ?_
  conv=>whnf
  conv=>whnf
  repeat' (refine af.nrm ?_<;>conv=>whnf)
 |true=>
 rw [hb] at fb
 cases hs:s.small with
 |false=>
  rw [hs] at sa;refine Fun.of (op_constraintlaw10_BindsOrder (by simp) ?_) rfl rfl
  conv=>whnf
  conv=>whnf
  repeat' ((first|(refine gF ?_;first|refine ab.fn (fb) ?_|refine ab.fn (sa) ?_|refine ab.fn (l6) ?_)|(refine gC ?_;first|refine cY ?_|refine cN ?_|refine .not ?_)|(refine gN ?_;refine nS ?_))<;>conv=>whnf)
  refine af.lay [] oko ?_
  conv=>whnf
  conv=>whnf
  repeat' (refine af.nrm ?_<;>conv=>whnf)
 |true=>
 rw [hs] at sa
 cases ht:t.small with
 |false=>
  rw [ht] at sb;refine Fun.of (op_constraintlaw10_BindsOrder (by simp) ?_) rfl rfl
  conv=>whnf
  conv=>whnf
  repeat' ((first|(refine gF ?_;first|refine ab.fn (fb) ?_|refine ab.fn (sa) ?_|refine ab.fn (sb) ?_|refine ab.fn (l6) ?_)|(refine gC ?_;first|refine cY ?_|refine cN ?_|refine .not ?_)|(refine gN ?_;refine nS ?_))<;>conv=>whnf)
  refine af.lay [] oko ?_
  conv=>whnf
  conv=>whnf
  repeat' (refine af.nrm ?_<;>conv=>whnf)
 |true=>
 rw [ht] at sb
 cases hu:u.small with
 |false=>
  rw [hu] at sc;refine Fun.of (op_constraintlaw10_BindsOrder (by simp) ?_) rfl rfl
  conv=>whnf
  conv=>whnf
  repeat' ((first|(refine gF ?_;first|refine ab.fn (fb) ?_|refine ab.fn (sa) ?_|refine ab.fn (sb) ?_|refine ab.fn (sc) ?_|refine ab.fn (l6) ?_)|(refine gC ?_;first|refine cY ?_|refine cN ?_|refine .not ?_)|(refine gN ?_;refine nS ?_))<;>conv=>whnf)
  refine af.lay [] oko ?_
  conv=>whnf
  conv=>whnf
  repeat' (refine af.nrm ?_<;>conv=>whnf)
 |true=>
 rw [hu] at sc
 cases hw:w.small with
 |false=>
  rw [hw] at sd;refine Fun.of (op_constraintlaw10_BindsOrder (by simp) ?_) rfl rfl
  conv=>whnf
  conv=>whnf
  repeat' ((first|(refine gF ?_;first|refine ab.fn (fb) ?_|refine ab.fn (sa) ?_|refine ab.fn (sb) ?_|refine ab.fn (sc) ?_|refine ab.fn (sd) ?_|refine ab.fn (l6) ?_)|(refine gC ?_;first|refine cY ?_|refine cN ?_|refine .not ?_)|(refine gN ?_;refine nS ?_))<;>conv=>whnf)
  refine af.lay [] oko ?_
  conv=>whnf
  conv=>whnf
  repeat' (refine af.nrm ?_<;>conv=>whnf)
 |true=>
 rw [hw] at sd;obtain ⟨c,l,e,t1,k1⟩:=tell_one (TS.Kb hb hs ht);obtain ⟨d,m,f,t2,k2⟩:=tell_one (TS.Kb hb hu hw)
 by_cases he:e=0
 rotate_left
 ·refine Fun.of (op_constraintlaw10_BindsOrder (by simp) ?_) rfl rfl
  conv=>whnf
  conv=>whnf
  repeat' ((first|(refine gF ?_;first|refine ab.fn (fb) ?_|refine ab.fn (sa) ?_|refine ab.fn (sb) ?_|refine ab.fn (sc) ?_|refine ab.fn (sd) ?_|refine ab.fn (k1) ?_|refine ab.fn (k2) ?_|refine ab.fn (l6) ?_)|(refine gC ?_;first|refine cY ?_|refine .not ?_|(refine gD ?_;refine cJ ?_))|(refine gN ?_;refine nS ?_))<;>conv=>whnf)
  refine af.lay [] oko ?_
  conv=>whnf
  conv=>whnf
  repeat' (refine af.nrm ?_<;>conv=>whnf)
  all_goals rfl
 by_cases hf:f=0
 rotate_left
 ·obtain rfl:=he;refine Fun.of (op_constraintlaw10_BindsOrder (by simp) ?_) rfl rfl
  conv=>whnf
  conv=>whnf
  repeat' ((first|(refine gF ?_;first|refine ab.fn (fb) ?_|refine ab.fn (sa) ?_|refine ab.fn (sb) ?_|refine ab.fn (sc) ?_|refine ab.fn (sd) ?_|refine ab.fn (k1) ?_|refine ab.fn (k2) ?_|refine ab.fn (l6) ?_)|(refine gC ?_;first|refine cY ?_|refine .not ?_|(refine gD ?_;first|refine cI ?_|refine cJ ?_))|(refine gN ?_;refine nS ?_))<;>conv=>whnf)
  refine af.lay [] oko ?_
  conv=>whnf
  conv=>whnf
  repeat' (refine af.nrm ?_<;>conv=>whnf)
  all_goals rfl
 obtain rfl:=he;obtain rfl:=hf;obtain ⟨v1,⟨M,hM,hB,hF⟩,hR⟩:=told_zero t1;obtain ⟨v2,⟨M',hM',hB',hF'⟩,hR'⟩:=told_zero t2;obtain ⟨x,n,g,t3,k3⟩:=tell_one (TS.of_ans hB hF hR hu hw);obtain ⟨y,o,h,t4,k4⟩:=tell_one (TS.of_ans hB' hF' hR' hs ht);have w1:=validB_iff.1 v1;have w2:=validB_iff.1 v2;have v3:bk c u w=true:=validB_iff.2 ⟨right_out hM hB hF hR,w2.2⟩;have v4:bk d s t=true:=validB_iff.2 ⟨right_out hM' hB' hF' hR',w1.2⟩;obtain ⟨rfl,rfl⟩:=order_law hM hB hM' hB' (told_ans v3 t3) (told_ans v4 t4);have s1:=zM x x;rw [oP] at s1;refine Fun.of (op_constraintlaw10_BindsOrder (by simp) ?_) rfl rfl
 conv=>whnf
 conv=>whnf
 repeat' ((first|(refine gF ?_;first|refine ab.fn (fb) ?_|refine ab.fn (sa) ?_|refine ab.fn (sb) ?_|refine ab.fn (sc) ?_|refine ab.fn (sd) ?_|refine ab.fn (k1) ?_|refine ab.fn (k2) ?_|refine ab.fn (k3) ?_|refine ab.fn (k4) ?_|refine ab.fn (s1) ?_|refine ab.fn (l6) ?_)|(refine gC ?_;first|refine cY ?_|refine .not ?_|(refine gD ?_;refine cI ?_))|(refine gN ?_;refine nS ?_))<;>conv=>whnf)
 refine af.lay [] oko ?_
 conv=>whnf
 conv=>whnf
 repeat' (refine af.nrm ?_<;>conv=>whnf)
 all_goals rfl
end Go.CK
namespace Go.CK
open Go.AM Go.Proofs
theorem bindsOrder_law {b:List Bd} {s t u w:Tm}:Fun Tryz.prog 5 [slA Bd.av b,pair2A s t,pair2A u w] (.bool true):=by
 have h:=BindsOrder1_ok (b.map Bd.bnd) s t u w;rw [List.map_map] at h;exact h
end Go.CK
namespace Go.CK
open Go.RowKit Go.AM
def sF (M:Hp):List AV->List Value->Prop
 |[],[]=>True
 |x::xs,v::vs=>FV M x v∧sF M xs vs
 |_,_=>False
theorem sF.len {M:Hp}:∀{xs:List AV} {vs:List Value},sF M xs vs->vs.length=xs.length
 |[],[],_=>rfl
 |_::xs,_::vs,h=>by simp [sF.len h.2]
 |[],_::_,h=>h.elim
 |_::_,[],h=>h.elim
theorem sF.get {M:Hp}:∀{xs:List AV} {vs:List Value},sF M xs vs->∀j (h:j<xs.length) v,vs[j]? =some v->FV M xs[j] v
 |[],[],_,j,h,_,_=>by cases h
 |_::xs,_::vs,h,0,_,v,hv=>by
  simp only [List.getElem?_cons_zero,Option.some.injEq] at hv
  subst hv;exact h.1
 |_::xs,_::vs,h,j+1,hj,v,hv=>sF.get h.2 j (by simpa using hj) v (by simpa using hv)
 |[],_::_,h,_,_,_,_=>h.elim
 |_::_,[],h,_,_,_,_=>h.elim
theorem Fun.calls {P:Program} {f:FuncId} {vals:List AV} {b:Bool} (h:Fun P f vals (.bool b)) {w:World} {args:List Value} (ha:sF (Hp.of w) vals args):
  Calls P f args.toArray w fun e w'=>e=.returned (.bool b)∧Ext w w':=by
 refine (((h []).mono (Q':=fun r _=>r=.bool b) fun r bs hq=>hq.1).calls (Hp.le_refl _) ha.len ha.get).mono ?_;rintro e w' ⟨v,r,bs',M',σ,n,rfl,rfl,hv,hx,_⟩;exact ⟨by rw [hv.cB],hx⟩
end Go.CK
