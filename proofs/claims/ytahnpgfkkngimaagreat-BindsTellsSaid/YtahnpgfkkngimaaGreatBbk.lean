/-
  Texts of this aQ joined (wip/gen/bundle.py),those declarations only that are needed:BnD ArithM EvalM ArmA ArmB ArmC. By an AI agent.
-/
import Derived.Test.YtahnpgfkkngimaaGreatBbj
import Derived.Test.YtahnpgfkkngimaaGreatBaa
set_option linter.unusedSimpArgs false
set_option linter.unusedVariables false
namespace Go.CK
open Go.AM Go.Proofs
theorem zz (a b:Tm):Fun Tryz.prog 46 [a.avw,b.avw] (.bool (decide (a.cmp b=0))):=by
 refine Fun.of (yO (by simp) ?_) rfl rfl
 conv=>whnf
 conv=>whnf
 repeat' ((first|(refine gF ?_;refine ab.fn (Df a b) ?_)|refine af.nrm ?_)<;>conv=>whnf)
def fI (b:List Bnd) (s t:Tm) (e:Int):Int:=if bk b s t=true then (if (cR b s).cmp (cR b t)=0 then 1 else if e=13 then 2 else 0) else 0
structure TS (b:List Bnd) (s t:Tm):Prop where
 hb:∀x∈b,x.t.nodes≤1000000∧x.t.vs.length≤100000
 hs:s.nodes≤1000000
 ht:t.nodes≤1000000
 hl:b.length≤2000000
 hN:Tm.ai (a8 b++[s])+Tm.ai (aH b++[t])≤300000000
theorem nc (l:List Tm) (x:Tm):Tm.ai (x::l)=Tm.ai (l++[x]):=by
 induction l with
 |nil=>rfl
 |cons y l ih=>simp only [List.cons_append,Tm.ai] at ih⊢;omega
theorem TS.hN2 {b:List Bnd} {s t:Tm} (h:TS b s t):Tm.ai (s::a8 b)+Tm.ai (t::aH b)≤300000000:=by
 rw [nc,nc];exact h.hN
set_option maxHeartbeats 4000000 in
set_option maxRecDepth 100000 in
theorem nQ {b c:List Bnd} {s t:Tm} {e:Int} (hs:TS b s t) (h:bk b s t=true->wH fN fF (a8 b++[s]) (aH b++[t])=some (c,e)):Fun Tryz.prog 18 [.sl .no (b.map Bnd.av),s.avw,t.avw] (.int .i64 (fI b s t e)):=by
 have hva:=nT (s:=s) (t:=t) fun x hx=>(hs.hb x hx).2;have hbl:=hs.hl;unfold fI
 cases hv:bk b s t with
 |false=>
  rw [hv] at hva;rw [if_neg Bool.false_ne_true];refine Fun.of (er (by simp) ?_) rfl rfl
  conv=>whnf
  conv=>whnf
  repeat' ((first|(refine gF ?_;refine ab.fn (hva) ?_)|(refine gC ?_;first|refine cN ?_|refine .not ?_))<;>conv=>whnf)
  refine af.lay [] oko ?_
  conv=>whnf
  conv=>whnf
  repeat' (refine af.nrm ?_<;>conv=>whnf)
 |true=>
  rw [hv] at hva;rw [if_pos rfl];have hso:=wS (h hv) hs.hN (by omega)
  have ha:=vr b (by omega) s hs.hs
  have hb:=vr b (by omega) t hs.ht
  have hsm:=zz (cR b s) (cR b t)
  by_cases hc:(cR b s).cmp (cR b t)=0
  ·rw [decide_eq_true hc] at hsm;rw [if_pos hc];refine Fun.of (er (by simp) ?_) rfl rfl
   conv=>whnf
   conv=>whnf
   repeat' ((first|(refine gF ?_;refine ab.fn (hva) ?_)|(refine gG ?_;first|refine aM.fn (ha) ?_|refine aM.fn (hb) ?_|refine aM.fn (hsm) ?_)|(refine gC ?_;first|refine cY ?_|refine .not ?_))<;>conv=>whnf)
   refine af.lay [] oko ?_
   conv=>whnf
   conv=>whnf
   repeat' (refine af.nrm ?_<;>conv=>whnf)
  ·rw [decide_eq_false hc] at hsm;rw [if_neg hc]
   by_cases he:e=13
   ·rw [if_pos he];subst he;refine Fun.of (er (by simp) ?_) rfl rfl
    conv=>whnf
    conv=>whnf
    repeat' ((first|(refine gF ?_;first|refine ab.fn (hva) ?_|refine ab.fn (hso) ?_)|(refine gG ?_;first|refine aM.fn (ha) ?_|refine aM.fn (hb) ?_|refine aM.fn (hsm) ?_)|(refine gC ?_;first|refine cY ?_|refine cN ?_|refine .not ?_|(refine gD ?_;refine cI ?_)))<;>conv=>whnf)
    refine af.lay [] oko ?_
    conv=>whnf
    conv=>whnf
    repeat' (refine af.nrm ?_<;>conv=>whnf)
   ·rw [if_neg he];refine Fun.of (er (by simp) ?_) rfl rfl
    conv=>whnf
    conv=>whnf
    repeat' ((first|(refine gF ?_;first|refine ab.fn (hva) ?_|refine ab.fn (hso) ?_)|(refine gG ?_;first|refine aM.fn (ha) ?_|refine aM.fn (hb) ?_|refine aM.fn (hsm) ?_)|(refine gC ?_;first|refine cY ?_|refine cN ?_|refine .not ?_|(refine gD ?_;refine cJ ?_)))<;>conv=>whnf)
    refine af.lay [] oko ?_
    conv=>whnf
    conv=>whnf
    repeat' (refine af.nrm ?_<;>conv=>whnf)
set_option maxHeartbeats 4000000 in
set_option maxRecDepth 100000 in
theorem vM {b c:List Bnd} {s t:Tm} {e:Int} (hs:TS b s t) (h:bk b s t=true->BL (s::a8 b) (t::aH b)=some (c,e)):Fun Tryz.prog 19 [.sl .no (b.map Bnd.av),s.avw,t.avw] (.int .i64 (fI b s t e)):=by
 have h1:=hs.hs;have h2:=hs.ht;have hva:=oJ hs.hb (s:=s) (t:=t) (by omega) (by omega)
 have hbl:=hs.hl;unfold fI
 cases hv:bk b s t with
 |false=>
  rw [hv] at hva;rw [if_neg Bool.false_ne_true];refine Fun.of (bt (by simp) ?_) rfl rfl
  conv=>whnf
  conv=>whnf
  repeat' ((first|(refine gF ?_;refine ab.fn (hva) ?_)|(refine gC ?_;first|refine cN ?_|refine .not ?_))<;>conv=>whnf)
  refine af.lay [] oko ?_
  conv=>whnf
  conv=>whnf
  repeat' (refine af.nrm ?_<;>conv=>whnf)
 |true=>
  rw [hv] at hva;rw [if_pos rfl];have hso:=Di (h hv) hs.hN2 (by omega)
  have ha:=x5 b s hs.hs;have hb:=x5 b t hs.ht;have hsm:=zN (cR b s) (cR b t)
  by_cases hc:(cR b s).cmp (cR b t)=0
  ·rw [decide_eq_true hc] at hsm;rw [if_pos hc];refine Fun.of (bt (by simp) ?_) rfl rfl
   conv=>whnf
   conv=>whnf
   repeat' ((first|(refine gF ?_;refine ab.fn (hva) ?_)|(refine gG ?_;first|refine aM.fn (ha) ?_|refine aM.fn (hb) ?_|refine aM.fn (hsm) ?_)|(refine gC ?_;first|refine cY ?_|refine .not ?_))<;>conv=>whnf)
   refine af.lay [] oko ?_
   conv=>whnf
   conv=>whnf
   repeat' (refine af.nrm ?_<;>conv=>whnf)
  ·rw [decide_eq_false hc] at hsm;rw [if_neg hc]
   by_cases he:e=13
   ·rw [if_pos he];subst he;refine Fun.of (bt (by simp) ?_) rfl rfl
    conv=>whnf
    conv=>whnf
    repeat' ((first|(refine gF ?_;first|refine ab.fn (hva) ?_|refine ab.fn (hso) ?_)|(refine gG ?_;first|refine aM.fn (ha) ?_|refine aM.fn (hb) ?_|refine aM.fn (hsm) ?_)|(refine gC ?_;first|refine cY ?_|refine cN ?_|refine .not ?_|(refine gD ?_;refine cI ?_)))<;>conv=>whnf)
    refine af.lay [] oko ?_
    conv=>whnf
    conv=>whnf
    repeat' (refine af.nrm ?_<;>conv=>whnf)
   ·rw [if_neg he];refine Fun.of (bt (by simp) ?_) rfl rfl
    conv=>whnf
    conv=>whnf
    repeat' ((first|(refine gF ?_;first|refine ab.fn (hva) ?_|refine ab.fn (hso) ?_)|(refine gG ?_;first|refine aM.fn (ha) ?_|refine aM.fn (hb) ?_|refine aM.fn (hsm) ?_)|(refine gC ?_;first|refine cY ?_|refine cN ?_|refine .not ?_|(refine gD ?_;refine cJ ?_)))<;>conv=>whnf)
    refine af.lay [] oko ?_
    conv=>whnf
    conv=>whnf
    repeat' (refine af.nrm ?_<;>conv=>whnf)
set_option maxRecDepth 100000 in
theorem FC {b:List Bnd} {s t:Tm} (hs:TS b s t) (hv:bk b s t=false):Fun Tryz.prog 15 [.sl .no (b.map Bnd.av),s.avw,t.avw] (lj [] [] 2):=by
 have h1:=hs.hs;have h2:=hs.ht;have hva:=oJ hs.hb (s:=s) (t:=t) (by omega) (by omega)
 rw [hv] at hva;refine Fun.of (b9 (by simp) ?_) rfl rfl
 conv=>whnf
 conv=>whnf
 repeat' ((first|(refine gF ?_;refine ab.fn (hva) ?_)|(refine gC ?_;first|refine cN ?_|refine .not ?_))<;>conv=>whnf)
 refine af.lay [] oko ?_
 conv=>whnf
 conv=>whnf
 repeat' (refine af.nrm ?_<;>conv=>whnf)
 all_goals rfl
set_option maxHeartbeats 4000000 in
set_option maxRecDepth 100000 in
theorem FB {b c:List Bnd} {s t:Tm} {e:Int} (hs:TS b s t) (hv:bk b s t=true) (h:BL (s::a8 b) (t::aH b)=some (c,e)) (hc:c.length≤4000000000):Fun Tryz.prog 15 [.sl .no (b.map Bnd.av),s.avw,t.avw] (if e=0 then lj c (c8 b c) 0 else lj [] [] e):=by
 have h1:=hs.hs;have h2:=hs.ht;have hva:=oJ hs.hb (s:=s) (t:=t) (by omega) (by omega)
 have hbl:=hs.hl;rw [hv] at hva;have hso:=Di h hs.hN2 (by omega)
 have hfr:=Hl (b:=b) hc
 by_cases he:e=0
 ·rw [if_pos he];subst he;refine Fun.of (b9 (by simp) ?_) rfl rfl
  conv=>whnf
  conv=>whnf
  repeat' ((first|(refine gF ?_;first|refine ab.fn (hva) ?_|refine ab.fn (hso) ?_|refine ab.fn (hfr) ?_)|(refine gC ?_;first|refine cY ?_|refine .not ?_|(refine gD ?_;refine cI ?_)))<;>conv=>whnf)
  refine af.lay [] oko ?_
  conv=>whnf
  conv=>whnf
  repeat' (refine af.nrm ?_<;>conv=>whnf)
  all_goals rfl
 ·rw [if_neg he];refine Fun.of (b9 (by simp) ?_) rfl rfl
  conv=>whnf
  conv=>whnf
  repeat' ((first|(refine gF ?_;first|refine ab.fn (hva) ?_|refine ab.fn (hso) ?_)|(refine gC ?_;first|refine cY ?_|refine .not ?_|(refine gD ?_;refine cJ ?_)))<;>conv=>whnf)
  refine af.lay [] oko ?_
  conv=>whnf
  conv=>whnf
  repeat' (refine af.nrm ?_<;>conv=>whnf)
  all_goals rfl
def Told (b:List Bnd) (s t:Tm) (c:List Bnd) (l:List Int) (e:Int):Prop:=if bk b s t=true then∃d,Ans (yb b s t) d e∧Rng d∧(if e=0 then c=d∧l=c8 b d else c=[]∧l=[]) else c=[]∧l=[]∧e=2
theorem Jg {S:(Int->Tm)->Prop} {d:List Bnd} {e:Int} (h:Ans S d e) (hr:Rng d):d.length≤1048577∧(d.map (·.v)).Pairwise (·<·)∧∀x∈d,fits x.t:=by
 rcases h with ⟨_,rfl,_⟩|⟨M,hM,⟨hB,hf,_⟩|⟨_,rfl,_⟩⟩
 ·exact ⟨Nat.zero_le _,.nil,fun x hx=>by cases hx⟩
 ·exact ⟨(BX hB.asc hr hf).2,hB.asc,hf⟩
 ·exact ⟨Nat.zero_le _,.nil,fun x hx=>by cases hx⟩
theorem zl {b:List Bnd} (h:cL b=true):(b.map (·.v)).Pairwise (·<·):=by
 have key:∀{b:List Bnd} {p:Option Int},mF p b=true->(b.map (·.v)).Pairwise (·<·)∧∀q,p=some q->∀x∈b,q<x.v:=by
  intro b
  induction b with
  |nil=>intro p _;exact ⟨.nil,fun q _ x hx=>by cases hx⟩
  |cons y b ih=>
   intro p hp;rw [mF] at hp;simp only [Bool.and_eq_true] at hp;obtain ⟨h1,h2⟩:=ih hp.2.2.2;refine ⟨?_,fun q hq x hx=>?_⟩
   ·rw [List.map_cons,List.pairwise_cons];refine ⟨fun v hv=>?_,h1⟩;obtain ⟨x,hx,rfl⟩:=List.mem_map.1 hv;exact h2 _ rfl x hx
   ·subst hq;have h3:q<y.v:=of_decide_eq_true hp.2.1;rcases List.mem_cons.1 hx with rfl|hx
    ·exact h3
    ·have:=h2 _ rfl x hx;omega
 unfold cL at h;rw [Bool.and_eq_true] at h;exact (key h.1).1
set_option maxRecDepth 100000 in
theorem Er {b:List Bnd} {s t:Tm} (hs:TS b s t):∃c l e,Told b s t c l e∧Fun Tryz.prog 14 [.sl .no (b.map Bnd.av),s.avw,t.avw] (lj c l e)∧Fun Tryz.prog 15 [.sl .no (b.map Bnd.av),s.avw,t.avw] (lj c l e)∧Fun Tryz.prog 18 [.sl .no (b.map Bnd.av),s.avw,t.avw] (.int .i64 (fI b s t e))∧Fun Tryz.prog 19 [.sl .no (b.map Bnd.av),s.avw,t.avw] (.int .i64 (fI b s t e)):=by
 have hbv:∀x∈b,x.t.vs.length≤100000:=fun x hx=>(hs.hb x hx).2;have hbl:=hs.hl
 cases hv:bk b s t with
 |false=>
  exact ⟨[],[],2,by unfold Told;rw [hv,if_neg Bool.false_ne_true];exact ⟨rfl,rfl,rfl⟩,Jk hbv hv,FC hs hv,nQ (c:=[]) hs (fun e=>by rw [hv] at e;cases e),vM (c:=[]) hs (fun e=>by rw [hv] at e;cases e)⟩
 |true=>
  obtain ⟨d,e,h1,h2,h3,h4⟩:=Ep hv hs.hN;obtain ⟨g1,g2,g3⟩:=Jg h3 h4
  have hr:cL b=true:=by
   unfold bk at hv;rw [Bool.and_eq_true] at hv;exact hv.1
  have hfr:mD b d=c8 b d:=vm d [] b rfl (zl hr) g2 (fun x hx=>by cases hx)
  have q1:=tb hbv hv h1 hs.hN (by omega) (by omega)
  have q2:=FB hs hv h2 (by omega)
  rw [hfr] at q1;have q3:=nQ hs (fun _=>h1);have q4:=vM hs (fun _=>h2)
  by_cases he:e=0
  ·rw [if_pos he] at q1 q2;refine ⟨d,c8 b d,0,?_,q1,q2,by rw [he] at q3;exact q3,by rw [he] at q4;exact q4⟩
   unfold Told;rw [hv,if_pos rfl];exact ⟨d,by rw [he] at h3;exact h3,h4,by rw [if_pos rfl];exact ⟨rfl,rfl⟩⟩
  ·rw [if_neg he] at q1 q2;refine ⟨[],[],e,?_,q1,q2,q3,q4⟩;unfold Told;rw [hv,if_pos rfl];exact ⟨d,h3,h4,by rw [if_neg he];exact ⟨rfl,rfl⟩⟩
end Go.CK
namespace Go.CK
def Br:ByteArray:=⟨#[43]⟩
def Bp:ByteArray:=⟨#[45]⟩
def Bq:ByteArray:=⟨#[42]⟩
def zc:ByteArray:=⟨#[47]⟩
def cMod:ByteArray:=⟨#[37]⟩
def mz (s:ByteArray):Bool:=decide (s=Br∨s=Bp∨s=Bq∨s=zc∨s=cMod)
def inR (n:Int):Bool:=decide (-2147483648≤n∧n≤2147483648)
def quo (a b:Int):Int:=if a.tmod b≠0∧((a<0)≠(b<0)) then a.tdiv b-1 else a.tdiv b
theorem Gv (a b:Int) (hb:b≠0):quo a b=a.fdiv b:=by
 unfold quo;have hdvd:(b∣a)↔a.tmod b=0:=⟨fun h=>Int.tmod_eq_zero_of_dvd h,fun h=>Int.dvd_of_tmod_eq_zero h⟩;rw [Int.fdiv_eq_tdiv]
 by_cases h0:a.tmod b=0
 ·simp [h0,hdvd]
 ·rcases Int.lt_or_gt_of_ne hb with hb'|hb'
  ·have e1:b.sign=-1:=Int.sign_eq_neg_one_of_neg hb'
   by_cases ha:a<0
   ·simp [h0,hdvd,ha,hb',e1,show¬0≤a by omega,show¬0≤b by omega]
   ·simp [h0,hdvd,ha,hb',show 0≤a by omega,show¬0≤b by omega]
  ·have e1:b.sign=1:=Int.sign_eq_one_of_pos hb'
   by_cases ha:a<0
   ·simp [h0,hdvd,ha,e1,show¬b<0 by omega,show¬0≤a by omega,show 0≤b by omega]
   ·simp [h0,hdvd,ha,show¬b<0 by omega,show 0≤a by omega,show 0≤b by omega]
theorem uQ {a b:Int} (hb:b≠0) (h1:-2147483648≤a) (h2:a≤2147483648):-2147483648≤a.fdiv b∧a.fdiv b≤2147483648:=by
 rcases Int.lt_or_gt_of_ne hb with hb'|hb'
 ·rw [←Int.neg_fdiv_neg,Int.fdiv_eq_ediv_of_nonneg _ (by omega)]
  have h3:=Int.natAbs_ediv_le_natAbs (-a) (-b);omega
 ·rw [Int.fdiv_eq_ediv_of_nonneg _ (by omega)]
  have h3:=Int.natAbs_ediv_le_natAbs a b;omega
theorem BZ {a:Int} (b:Int) (h1:-2147483648≤a) (h2:a≤2147483648):-2147483648≤a.tdiv b∧a.tdiv b≤2147483648:=by
 have h3:=Int.natAbs_tdiv a b;have h4:=Nat.div_le_self a.natAbs b.natAbs;have h5:(a.tdiv b).natAbs≤a.natAbs:=by rw [h3];exact h4
 omega
theorem qY {a b:Int} (h1:-2147483648≤a) (h2:a≤2147483648) (h3:-2147483648≤b) (h4:b≤2147483648):-4611686018427387904≤a*b∧a*b≤4611686018427387904:=by
 have h5:(a*b).natAbs≤4611686018427387904:=by
  rw [Int.natAbs_mul];exact Nat.le_trans (Nat.mul_le_mul (show a.natAbs≤2147483648 by omega) (show b.natAbs≤2147483648 by omega)) (by decide)
 omega
def opv (s:ByteArray) (a b:Int):Int×Int:=
 if s=Br then (a+b,0) else if s=Bp then (a-b,0) else if s=Bq then (a*b,0) else if b=0 then (0,12)
 else if s=zc then (a.fdiv b,0) else (a-a.fdiv b*b,0)
def apply (s:ByteArray) (a b:Int):Int×Int:=
 if mz s=false then (0,7) else if (inR a&&inR b)=false then (0,5) else
 if (opv s a b).2≠0 then (0,(opv s a b).2) else if inR (opv s a b).1=false then (0,5) else ((opv s a b).1,0)
theorem qk {n:Int}:inR n=true↔-2147483648≤n∧n≤2147483648:=by simp [inR]
theorem Ck {s:ByteArray} {a b:Int} (ia:inR a=true) (ib:inR b=true):bW (opv s a b).1:=by
 have ha':=qk.1 ia;have hb':=qk.1 ib;have hm:=qY ha'.1 ha'.2 hb'.1 hb'.2;unfold opv bW;split
 ·dsimp only;omega
 split
 ·dsimp only;omega
 split
 ·dsimp only;omega
 split
 ·dsimp only;omega
 rename_i h4;have h5:=uQ h4 ha'.1 ha'.2;have h6:=qY h5.1 h5.2 hb'.1 hb'.2;split
 ·dsimp only;omega
 ·dsimp only;omega
end Go.CK
namespace Go.CK
def aR:Tm->Int×Int
 |.mk k n s [a,b]=>
  if k=1 then (0,17) else if k=0 then (if inR n=true then (n,0) else (0,5)) else if k≠2∨mz s=false then (0,11) else
  if (aR a).2≠0 then (0,(aR a).2) else if (aR b).2≠0 then (0,(aR b).2) else apply s (aR a).1 (aR b).1
 |.mk k n _ _=>if k=1 then (0,17) else if k=0 then (if inR n=true then (n,0) else (0,5)) else (0,11)
def mj (n:Int):Tm:=.mk 0 n ⟨#[]⟩ []
theorem A7 {k n:Int} {s:ByteArray} {l:List Tm} (h:l.length≠2):aR (.mk k n s l)=if k=1 then (0,17) else if k=0 then (if inR n=true then (n,0) else (0,5)) else (0,11):=by
 match l,h with
 |[],_=>simp [aR]
 |[a],_=>simp [aR]
 |a::b::c::r,_=>simp [aR]
theorem Ht {k n:Int} {s:ByteArray} {a b:Tm}:aR (.mk k n s [a,b])=if k=1 then (0,17) else if k=0 then (if inR n=true then (n,0) else (0,5)) else if k≠2∨mz s=false then (0,11) else
  if (aR a).2≠0 then (0,(aR a).2) else if (aR b).2≠0 then (0,(aR b).2) else apply s (aR a).1 (aR b).1:=by rw [aR]
theorem oK {α:Type} {l:List α} (h:l.length=2):∃a b,l=[a,b]:=by
 match l,h with
 |[a,b],_=>exact ⟨a,b,rfl⟩
theorem uV {k n:Int} {s:ByteArray} {l:List Tm} (h2:k≠2):aR (.mk k n s l)=if k=1 then (0,17) else if k=0 then (if inR n=true then (n,0) else (0,5)) else (0,11):=by
 by_cases h:l.length=2
 ·obtain ⟨a,b,rfl⟩:=oK h;rw [Ht,if_pos (show k≠2∨mz s=false from .inl h2)]
 ·exact A7 h
theorem Fb {n:Int} {s:ByteArray} {l:List Tm} (h:l.length≠2):aR (.mk 2 n s l)=(0,11):=by
 rw [A7 h];simp
theorem xP {n:Int} {s:ByteArray} {a b:Tm}:aR (.mk 2 n s [a,b])=if mz s=false then (0,11) else
  if (aR a).2≠0 then (0,(aR a).2) else if (aR b).2≠0 then (0,(aR b).2) else apply s (aR a).1 (aR b).1:=by
 rw [aR];simp
end Go.CK
namespace Go.CK
open Go.AM Go.Proofs
theorem Hd {n:Int} (h:¬(-2147483648≤n∧n≤2147483648)):inR n=false:=by unfold inR;exact decide_eq_false h
theorem I2 {n:Int} (h:-2147483648≤n∧n≤2147483648):inR n=true:=by unfold inR;exact decide_eq_true h
theorem Kg {a b:Int} (h:bW (a+b)):Fun Tryz.prog 159 [.int .i64 a,.int .i64 b] (.tup [.int .i64 (a+b),.int .i64 0]):=by
 unfold bW at h;refine Fun.of (wy (by simp) ?_) rfl rfl
 conv=>whnf
 conv=>whnf
 repeat' ((first|(refine gW ?_;refine wI ?_)|refine af.nrm ?_)<;>conv=>whnf)
theorem Kf {a b:Int} (h:bW (a-b)):Fun Tryz.prog 160 [.int .i64 a,.int .i64 b] (.tup [.int .i64 (a-b),.int .i64 0]):=by
 unfold bW at h;refine Fun.of (wx (by simp) ?_) rfl rfl
 conv=>whnf
 conv=>whnf
 repeat' ((first|(refine gW ?_;refine wI ?_)|refine af.nrm ?_)<;>conv=>whnf)
theorem Ke {a b:Int} (h:bW (a*b)):Fun Tryz.prog 161 [.int .i64 a,.int .i64 b] (.tup [.int .i64 (a*b),.int .i64 0]):=by
 unfold bW at h;refine Fun.of (wv (by simp) ?_) rfl rfl
 conv=>whnf
 conv=>whnf
 repeat' ((first|(refine gW ?_;refine wI ?_)|refine af.nrm ?_)<;>conv=>whnf)
set_option maxHeartbeats 1000000 in
theorem uG (l:List Int) (hl:l.length≤100):Fun Tryz.prog 89 [.sl .no (l.map (AV.int .i64))] (.bool (l.all inR)):=by
 refine Fun.of (qX (by simp) ?_) rfl rfl
 conv=>whnf
 conv=>whnf
 repeat' ((refine gL ?_;refine .map ?_)<;>conv=>whnf)
 refine aw.by (fb:=true) (fun s (q:Nat)=>s.zG [(7,.int .i64 q)]) (fun q=>q≤l.length∧l.all inR=(l.drop q).all inR) (fun q=>l.length-q) 0 ⟨Nat.zero_le _,by rw [List.drop_zero]⟩ ?_ ?_
 ·exact au
 ·rintro q ⟨hq,he⟩
  by_cases hlt:q<l.length
  ·obtain ⟨x,hx⟩:∃x,l[q]?=some x:=⟨_,List.getElem?_eq_getElem hlt⟩;have hx2:(l.map (AV.int .i64))[q]?=some (.int .i64 x):=by rw [List.getElem?_map,hx];rfl
   have hd:(l.drop q).all inR=(inR x&&(l.drop (q+1)).all inR):=by
    rw [List.drop_eq_getElem_cons hlt,(List.getElem?_eq_some_iff.1 hx).2,List.all_cons]
   rw [hd] at he
   conv=>whnf
   repeat' ((first|(refine gC ?_;first|refine cY ?_|(refine gD ?_;first|refine cI ?_|refine cJ ?_)|refine aq.lt (fun hc=>?_) (fun hc=>?_))|(refine gW ?_;refine wI ?_)|(refine gI ?_;(refine gM ?_;refine iE ?_))|refine af.nrm ?_)<;>conv=>whnf)
   ·rw [he,Hd (by omega)];rfl
   ·rw [he,Hd (by omega)];rfl
   ·refine ⟨q+1,⟨⟨hlt,by rw [he,I2 (by omega)];rfl⟩,by omega⟩,?_⟩
    exact au
  ·have hq2:q=l.length:=by omega
   subst hq2;rw [List.drop_length] at he
   conv=>whnf
   repeat' ((first|(refine gC ?_;(refine gD ?_;refine cJ ?_))|refine af.nrm ?_)<;>conv=>whnf)
   rw [he];rfl
theorem oa (a b:Int):Fun Tryz.prog 89 [.sl .no [.int .i64 a,.int .i64 b]] (.bool (inR a&&inR b)):=by
 have:=uG [a,b] (by simp)
 simp only [List.map_cons,List.map_nil,List.all_cons,List.all_nil,Bool.and_true] at this;exact this
theorem od (a:Int):Fun Tryz.prog 89 [.sl .no [.int .i64 a]] (.bool (inR a)):=by
 have:=uG [a] (by simp)
 simp only [List.map_cons,List.map_nil,List.all_cons,List.all_nil,Bool.and_true] at this;exact this
theorem r9 {a b:Int} (hb:b≠0) (h1:inR a=true) (h2:inR b=true):Fun Tryz.prog 163 [.int .i64 a,.int .i64 b] (.int .i64 (a.fdiv b)):=by
 rw [←Gv a b hb];have h3:=qk.1 h1;have h4:=BZ b h3.1 h3.2;refine Fun.of (pY (by simp) ?_) rfl rfl
 conv=>whnf
 conv=>whnf
 repeat' ((first|(refine gC ?_;first|refine cN ?_|refine .not ?_|(refine gD ?_;first|refine cI ?_|refine cJ ?_)|refine aq.dec (fun hc=>?_) (fun hc=>?_))|(refine gW ?_;refine wI ?_)|(refine gN ?_;refine nS ?_)|refine af.nrm ?_)<;>conv=>whnf)
 all_goals unfold quo
 ·rw [if_neg (fun e=>e.1 hc)]
 ·rename_i h0;rw [if_neg (fun e=>e.2 (propext (decide_eq_decide.1 hc)))]
 ·rename_i h0;rw [if_pos ⟨h0,fun e=>hc (decide_eq_decide.2 (iff_of_eq e))⟩]
end Go.CK
namespace Go.CK
open Go.AM Go.Proofs
theorem JB {s:ByteArray} (h:mz s=false):Fun Tryz.prog 128 [.str s] .nfn:=by
 have h2:=of_decide_eq_false h;have h3:¬s=⟨⟨[43]⟩⟩:=fun e=>h2 (.inl e);have h4:¬s=⟨⟨[45]⟩⟩:=fun e=>h2 (.inr (.inl e));have h5:¬s=⟨⟨[42]⟩⟩:=fun e=>h2 (.inr (.inr (.inl e)));have h6:¬s=⟨⟨[47]⟩⟩:=fun e=>h2 (.inr (.inr (.inr (.inl e))));have h7:¬s=⟨⟨[37]⟩⟩:=fun e=>h2 (.inr (.inr (.inr (.inr e))));refine Fun.of (cu (by simp) ?_) rfl rfl
 conv=>whnf
 conv=>whnf
 repeat' ((first|(refine gC ?_;(refine gD ?_;refine cJ ?_))|refine af.nrm ?_)<;>conv=>whnf)
theorem Cq:Fun Tryz.prog 128 [.str Br] (.fn (.func 159) [] []):=by
 refine Fun.of (cu (by simp) ?_) rfl rfl
 conv=>whnf
 conv=>whnf
 repeat' ((first|(refine gC ?_;(refine gD ?_;refine cId ?_))|refine af.nrm ?_)<;>conv=>whnf)
theorem Co:Fun Tryz.prog 128 [.str Bp] (.fn (.func 160) [] []):=by
 refine Fun.of (cu (by simp) ?_) rfl rfl
 conv=>whnf
 conv=>whnf
 repeat' ((first|(refine gC ?_;(refine gD ?_;first|refine cId ?_|refine cJd ?_))|refine af.nrm ?_)<;>conv=>whnf)
theorem Cp:Fun Tryz.prog 128 [.str Bq] (.fn (.func 161) [] []):=by
 refine Fun.of (cu (by simp) ?_) rfl rfl
 conv=>whnf
 conv=>whnf
 repeat' ((first|(refine gC ?_;(refine gD ?_;first|refine cId ?_|refine cJd ?_))|refine af.nrm ?_)<;>conv=>whnf)
theorem uZ (f:AV) (hf:f=.fn (.func 163) [] []∨f=.fn (.func 164) [] []):AM.Sem Tryz.prog 162 [f] [] fun r bs'=>r=.fn (.func 175) [] [.ptr 0 0]∧bs'=[.cells [f]]:=by
 rcases hf with rfl|rfl
 ·refine dh (by simp) ?_
  conv=>whnf
  conv=>whnf
  repeat' (refine af.nrm ?_<;>conv=>whnf)
  all_goals exact ⟨rfl,rfl⟩
 ·refine dh (by simp) ?_
  conv=>whnf
  conv=>whnf
  repeat' (refine af.nrm ?_<;>conv=>whnf)
  all_goals exact ⟨rfl,rfl⟩
theorem yQ:AM.Sem Tryz.prog 128 [.str zc] [] fun r bs'=>r=.fn (.func 175) [] [.ptr 0 0]∧bs'=[.cells [.fn (.func 163) [] []]]:=by
 refine cu (by simp) ?_
 conv=>whnf
 conv=>whnf
 repeat' ((first|(refine gF ?_;refine ab.to (uZ _ (.inl rfl)) ?_)|(refine gC ?_;(refine gD ?_;first|refine cId ?_|refine cJd ?_))|refine af.nrm ?_)<;>conv=>whnf)
 all_goals exact ⟨rfl,rfl⟩
theorem yP:AM.Sem Tryz.prog 128 [.str cMod] [] fun r bs'=>r=.fn (.func 175) [] [.ptr 0 0]∧bs'=[.cells [.fn (.func 164) [] []]]:=by
 refine cu (by simp) ?_
 conv=>whnf
 conv=>whnf
 repeat' ((first|(refine gF ?_;refine ab.to (uZ _ (.inr rfl)) ?_)|(refine gC ?_;(refine gD ?_;first|refine cId ?_|refine cJd ?_))|refine af.nrm ?_)<;>conv=>whnf)
 all_goals exact ⟨rfl,rfl⟩
theorem Kd {a b:Int} (hb:b≠0) (h1:inR a=true) (h2:inR b=true):Fun Tryz.prog 164 [.int .i64 a,.int .i64 b] (.int .i64 (a-a.fdiv b*b)):=by
 have h3:=qk.1 h1;have h4:=qk.1 h2;have h5:=uQ hb h3.1 h3.2;have h6:=qY h5.1 h5.2 h4.1 h4.2;refine Fun.of (wu (by simp) ?_) rfl rfl
 conv=>whnf
 conv=>whnf
 repeat' ((first|(refine gF ?_;refine ab.fn (r9 hb h1 h2) ?_)|(refine gW ?_;refine wI ?_)|refine af.nrm ?_)<;>conv=>whnf)
theorem D1 {a:Int} {f:AV} (hf:f=.fn (.func 163) [] []∨f=.fn (.func 164) [] []):AM.Sem Tryz.prog 175 [.int .i64 a,.int .i64 0,.ptr 0 0] [.cells [f]] fun r bs'=>r=.tup [.int .i64 0,.int .i64 12]∧bs'=[.cells [f]]:=by
 rcases hf with rfl|rfl
 ·refine cy (by simp) ?_
  conv=>whnf
  conv=>whnf
  repeat' ((first|(refine gC ?_;(refine gD ?_;refine cI ?_))|refine af.nrm ?_)<;>conv=>whnf)
  all_goals exact ⟨rfl,rfl⟩
 ·refine cy (by simp) ?_
  conv=>whnf
  conv=>whnf
  repeat' ((first|(refine gC ?_;(refine gD ?_;refine cI ?_))|refine af.nrm ?_)<;>conv=>whnf)
  all_goals exact ⟨rfl,rfl⟩
theorem D0 {a b:Int} (hb:b≠0) (h1:inR a=true) (h2:inR b=true):AM.Sem Tryz.prog 175 [.int .i64 a,.int .i64 b,.ptr 0 0] [.cells [.fn (.func 163) [] []]] fun r bs'=>r=.tup [.int .i64 (a.fdiv b),.int .i64 0]∧bs'=[.cells [.fn (.func 163) [] []]]:=by
 refine cy (by simp) ?_
 conv=>whnf
 conv=>whnf
 repeat' ((first|(refine gF ?_;refine ab.fn (r9 hb h1 h2) ?_)|(refine gC ?_;(refine gD ?_;refine cJ ?_))|(refine gH ?_;refine hB ?_)|refine af.nrm ?_)<;>conv=>whnf)
 all_goals exact ⟨rfl,rfl⟩
theorem D2 {a b:Int} (hb:b≠0) (h1:inR a=true) (h2:inR b=true):AM.Sem Tryz.prog 175 [.int .i64 a,.int .i64 b,.ptr 0 0] [.cells [.fn (.func 164) [] []]] fun r bs'=>r=.tup [.int .i64 (a-a.fdiv b*b),.int .i64 0]∧bs'=[.cells [.fn (.func 164) [] []]]:=by
 refine cy (by simp) ?_
 conv=>whnf
 conv=>whnf
 repeat' ((first|(refine gF ?_;refine ab.fn (Kd hb h1 h2) ?_)|(refine gC ?_;(refine gD ?_;refine cJ ?_))|(refine gH ?_;refine hB ?_)|refine af.nrm ?_)<;>conv=>whnf)
 all_goals exact ⟨rfl,rfl⟩
theorem xZ {s:ByteArray} {a b x:Int} (h:mz s=true) (h2:(inR a&&inR b)=true) (hv:opv s a b=(x,0)):apply s a b=if inR x=false then (0,5) else (x,0):=by
 unfold apply;rw [h,h2,hv,if_neg (by simp),if_neg (by simp),if_neg (by simp)]
theorem x4 {s:ByteArray} {a b:Int} (h:mz s=true) (h2:(inR a&&inR b)=true) (hv:opv s a b=(0,12)):apply s a b=(0,12):=by
 unfold apply;rw [h,h2,hv,if_neg (by simp),if_neg (by simp),if_pos (by simp)]
def ld (s:ByteArray) (a b:Int):AV:=.tup [.int .i64 (apply s a b).1,.int .i64 (apply s a b).2]
theorem k9 {s:ByteArray} {a b x e:Int} (h:apply s a b=(x,e)):ld s a b=.tup [.int .i64 x,.int .i64 e]:=by unfold ld;rw [h]
theorem k8 {s:ByteArray} {a b x:Int} (h:mz s=true) (h2:(inR a&&inR b)=true) (hv:opv s a b=(x,0)) (hx:inR x=true):ld s a b=.tup [.int .i64 x,.int .i64 0]:=k9 (by rw [xZ h h2 hv,hx];rfl)
theorem la {s:ByteArray} {a b x:Int} (h:mz s=true) (h2:(inR a&&inR b)=true) (hv:opv s a b=(x,0)) (hx:inR x=false):ld s a b=.tup [.int .i64 0,.int .i64 5]:=k9 (by rw [xZ h h2 hv,hx];rfl)
theorem IA {a b:Int} (hb:b≠0):opv zc a b=(a.fdiv b,0):=by
 unfold opv;rw [if_neg (by decide),if_neg (by decide),if_neg (by decide),if_neg hb,if_pos rfl]
theorem Iz {a b:Int} (hb:b≠0):opv cMod a b=(a-a.fdiv b*b,0):=by
 unfold opv;rw [if_neg (by decide),if_neg (by decide),if_neg (by decide),if_neg hb,if_neg (by decide)]
theorem IB (a b:Int):opv Br a b=(a+b,0):=by unfold opv;rw [if_pos rfl]
theorem Iw (a b:Int):opv Bp a b=(a-b,0):=by unfold opv;rw [if_neg (by decide),if_pos rfl]
theorem Iy (a b:Int):opv Bq a b=(a*b,0):=by unfold opv;rw [if_neg (by decide),if_neg (by decide),if_pos rfl]
theorem GD (a:Int):opv zc a 0=(0,12):=by
 unfold opv;rw [if_neg (by decide),if_neg (by decide),if_neg (by decide),if_pos rfl]
theorem GC (a:Int):opv cMod a 0=(0,12):=by
 unfold opv;rw [if_neg (by decide),if_neg (by decide),if_neg (by decide),if_pos rfl]
theorem pd {s:ByteArray} (h:mz s=true):s=Br∨s=Bp∨s=Bq∨s=zc∨s=cMod:=of_decide_eq_true h
theorem H9 {s:ByteArray} {a b:Int} (h:mz s=false):Fun Tryz.prog 91 [.str s,.int .i64 a,.int .i64 b] (ld s a b):=by
 have hv:apply s a b=(0,7):=by unfold apply;rw [if_pos h]
 rw [k9 hv];have hof:=JB h;refine Fun.of (ay (by simp) ?_) rfl rfl
 conv=>whnf
 conv=>whnf
 repeat' ((first|(refine gF ?_;refine ab.fn (hof) ?_)|(refine gC ?_;refine cY ?_)|refine af.nrm ?_)<;>conv=>whnf)
set_option maxRecDepth 100000 in
theorem FE {s:ByteArray} {a b:Int} (h:mz s=true) (h2:(inR a&&inR b)=false):Fun Tryz.prog 91 [.str s,.int .i64 a,.int .i64 b] (ld s a b):=by
 have hv:apply s a b=(0,5):=by unfold apply;rw [if_neg (by rw [h];decide),if_pos h2]
 rw [k9 hv];have hin:=oa a b;rw [h2] at hin;rcases pd h with rfl|rfl|rfl|rfl|rfl
 ·have hof:=Cq;refine Fun.of (ay (by simp) ?_) rfl rfl
  conv=>whnf
  conv=>whnf
  repeat' ((first|(refine gF ?_;first|refine ab.fn (hof) ?_|refine ab.fn (hin) ?_)|(refine gC ?_;first|refine cN ?_|refine .not ?_)|refine af.nrm ?_)<;>conv=>whnf)
 ·have hof:=Co;refine Fun.of (ay (by simp) ?_) rfl rfl
  conv=>whnf
  conv=>whnf
  repeat' ((first|(refine gF ?_;first|refine ab.fn (hof) ?_|refine ab.fn (hin) ?_)|(refine gC ?_;first|refine cN ?_|refine .not ?_)|refine af.nrm ?_)<;>conv=>whnf)
 ·have hof:=Cp;refine Fun.of (ay (by simp) ?_) rfl rfl
  conv=>whnf
  conv=>whnf
  repeat' ((first|(refine gF ?_;first|refine ab.fn (hof) ?_|refine ab.fn (hin) ?_)|(refine gC ?_;first|refine cN ?_|refine .not ?_)|refine af.nrm ?_)<;>conv=>whnf)
 ·refine Fun.of (ay (by simp) ?_) rfl rfl
  conv=>whnf
  conv=>whnf
  repeat' ((first|(refine gF ?_;first|refine ab.to (yQ) ?_|refine ab.fn (hin) ?_)|(refine gC ?_;first|refine cN ?_|refine .not ?_)|refine af.nrm ?_)<;>conv=>whnf)
 ·refine Fun.of (ay (by simp) ?_) rfl rfl
  conv=>whnf
  conv=>whnf
  repeat' ((first|(refine gF ?_;first|refine ab.to (yP) ?_|refine ab.fn (hin) ?_)|(refine gC ?_;first|refine cN ?_|refine .not ?_)|refine af.nrm ?_)<;>conv=>whnf)
set_option maxRecDepth 100000 in
theorem FI {a b:Int} (h2:(inR a&&inR b)=true):Fun Tryz.prog 91 [.str Br,.int .i64 a,.int .i64 b] (ld Br a b):=by
 have hin:=oa a b;rw [h2] at hin;have h3:=(Bool.and_eq_true _ _).mp h2;have hv:=IB a b;have hi:=Ck (s:=Br) h3.1 h3.2;rw [hv] at hi;have hof:=Cq;have hop:=Kg hi;have hr:=od (a+b)
 cases hx:inR (a+b) with
 |true=>
  rw [k8 rfl h2 hv hx];rw [hx] at hr;refine Fun.of (ay (by simp) ?_) rfl rfl
  conv=>whnf
  conv=>whnf
  repeat' ((first|(refine gF ?_;first|refine ab.fn (hof) ?_|refine ab.fn (hin) ?_|refine ab.fn (hop) ?_|refine ab.fn (hr) ?_)|(refine gC ?_;first|refine cY ?_|refine cN ?_|refine .not ?_|(refine gD ?_;refine cI ?_))|(refine gH ?_;refine hB ?_)|refine af.nrm ?_)<;>conv=>whnf)
 |false=>
  rw [la rfl h2 hv hx];rw [hx] at hr;refine Fun.of (ay (by simp) ?_) rfl rfl
  conv=>whnf
  conv=>whnf
  repeat' ((first|(refine gF ?_;first|refine ab.fn (hof) ?_|refine ab.fn (hin) ?_|refine ab.fn (hop) ?_|refine ab.fn (hr) ?_)|(refine gC ?_;first|refine cY ?_|refine cN ?_|refine .not ?_|(refine gD ?_;first|refine cI ?_|refine cJ ?_))|(refine gH ?_;refine hB ?_)|refine af.nrm ?_)<;>conv=>whnf)
set_option maxRecDepth 100000 in
theorem FD {a b:Int} (h2:(inR a&&inR b)=true):Fun Tryz.prog 91 [.str Bp,.int .i64 a,.int .i64 b] (ld Bp a b):=by
 have hin:=oa a b;rw [h2] at hin;have h3:=(Bool.and_eq_true _ _).mp h2;have hv:=Iw a b;have hi:=Ck (s:=Bp) h3.1 h3.2;rw [hv] at hi;have hof:=Co;have hop:=Kf hi;have hr:=od (a-b)
 cases hx:inR (a-b) with
 |true=>
  rw [k8 rfl h2 hv hx];rw [hx] at hr;refine Fun.of (ay (by simp) ?_) rfl rfl
  conv=>whnf
  conv=>whnf
  repeat' ((first|(refine gF ?_;first|refine ab.fn (hof) ?_|refine ab.fn (hin) ?_|refine ab.fn (hop) ?_|refine ab.fn (hr) ?_)|(refine gC ?_;first|refine cY ?_|refine cN ?_|refine .not ?_|(refine gD ?_;refine cI ?_))|(refine gH ?_;refine hB ?_)|refine af.nrm ?_)<;>conv=>whnf)
 |false=>
  rw [la rfl h2 hv hx];rw [hx] at hr;refine Fun.of (ay (by simp) ?_) rfl rfl
  conv=>whnf
  conv=>whnf
  repeat' ((first|(refine gF ?_;first|refine ab.fn (hof) ?_|refine ab.fn (hin) ?_|refine ab.fn (hop) ?_|refine ab.fn (hr) ?_)|(refine gC ?_;first|refine cY ?_|refine cN ?_|refine .not ?_|(refine gD ?_;first|refine cI ?_|refine cJ ?_))|(refine gH ?_;refine hB ?_)|refine af.nrm ?_)<;>conv=>whnf)
set_option maxRecDepth 100000 in
theorem FF {a b:Int} (h2:(inR a&&inR b)=true):Fun Tryz.prog 91 [.str Bq,.int .i64 a,.int .i64 b] (ld Bq a b):=by
 have hin:=oa a b;rw [h2] at hin;have h3:=(Bool.and_eq_true _ _).mp h2;have hv:=Iy a b;have hi:=Ck (s:=Bq) h3.1 h3.2;rw [hv] at hi;have hof:=Cp;have hop:=Ke hi;have hr:=od (a*b)
 cases hx:inR (a*b) with
 |true=>
  rw [k8 rfl h2 hv hx];rw [hx] at hr;refine Fun.of (ay (by simp) ?_) rfl rfl
  conv=>whnf
  conv=>whnf
  repeat' ((first|(refine gF ?_;first|refine ab.fn (hof) ?_|refine ab.fn (hin) ?_|refine ab.fn (hop) ?_|refine ab.fn (hr) ?_)|(refine gC ?_;first|refine cY ?_|refine cN ?_|refine .not ?_|(refine gD ?_;refine cI ?_))|(refine gH ?_;refine hB ?_)|refine af.nrm ?_)<;>conv=>whnf)
 |false=>
  rw [la rfl h2 hv hx];rw [hx] at hr;refine Fun.of (ay (by simp) ?_) rfl rfl
  conv=>whnf
  conv=>whnf
  repeat' ((first|(refine gF ?_;first|refine ab.fn (hof) ?_|refine ab.fn (hin) ?_|refine ab.fn (hop) ?_|refine ab.fn (hr) ?_)|(refine gC ?_;first|refine cY ?_|refine cN ?_|refine .not ?_|(refine gD ?_;first|refine cI ?_|refine cJ ?_))|(refine gH ?_;refine hB ?_)|refine af.nrm ?_)<;>conv=>whnf)
set_option maxRecDepth 100000 in
theorem FH {a b:Int} (h2:(inR a&&inR b)=true):Fun Tryz.prog 91 [.str zc,.int .i64 a,.int .i64 b] (ld zc a b):=by
 have hin:=oa a b;rw [h2] at hin;have h3:=(Bool.and_eq_true _ _).mp h2
 by_cases hb:b=0
 ·subst hb;rw [k9 (x4 rfl h2 (GD a))];refine Fun.of (ay (by simp) ?_) rfl rfl
  conv=>whnf
  conv=>whnf
  repeat' ((first|(refine gF ?_;first|refine ab.to (yQ) ?_|refine ab.fn (hin) ?_|refine ab.to (D1 (.inl rfl)) ?_)|(refine gC ?_;first|refine cY ?_|refine cN ?_|refine .not ?_|(refine gD ?_;refine cJ ?_))|(refine gH ?_;refine hB ?_))<;>conv=>whnf)
  refine af.lay [] oko ?_
  conv=>whnf
  conv=>whnf
  repeat' (refine af.nrm ?_<;>conv=>whnf)
 ·have hv:=IA (a:=a) hb;have hr:=od (a.fdiv b)
  cases hx:inR (a.fdiv b) with
  |true=>
   rw [k8 rfl h2 hv hx];rw [hx] at hr;refine Fun.of (ay (by simp) ?_) rfl rfl
   conv=>whnf
   conv=>whnf
   repeat' ((first|(refine gF ?_;first|refine ab.to (yQ) ?_|refine ab.fn (hin) ?_|refine ab.to (D0 hb h3.1 h3.2) ?_|refine ab.fn (hr) ?_)|(refine gC ?_;first|refine cY ?_|refine cN ?_|refine .not ?_|(refine gD ?_;refine cI ?_))|(refine gH ?_;refine hB ?_))<;>conv=>whnf)
   refine af.lay [] oko ?_
   conv=>whnf
   conv=>whnf
   repeat' (refine af.nrm ?_<;>conv=>whnf)
  |false=>
   rw [la rfl h2 hv hx];rw [hx] at hr;refine Fun.of (ay (by simp) ?_) rfl rfl
   conv=>whnf
   conv=>whnf
   repeat' ((first|(refine gF ?_;first|refine ab.to (yQ) ?_|refine ab.fn (hin) ?_|refine ab.to (D0 hb h3.1 h3.2) ?_|refine ab.fn (hr) ?_)|(refine gC ?_;first|refine cY ?_|refine cN ?_|refine .not ?_|(refine gD ?_;first|refine cI ?_|refine cJ ?_))|(refine gH ?_;refine hB ?_))<;>conv=>whnf)
   refine af.lay [] oko ?_
   conv=>whnf
   conv=>whnf
   repeat' (refine af.nrm ?_<;>conv=>whnf)
set_option maxRecDepth 100000 in
theorem FG {a b:Int} (h2:(inR a&&inR b)=true):Fun Tryz.prog 91 [.str cMod,.int .i64 a,.int .i64 b] (ld cMod a b):=by
 have hin:=oa a b;rw [h2] at hin;have h3:=(Bool.and_eq_true _ _).mp h2
 by_cases hb:b=0
 ·subst hb;rw [k9 (x4 rfl h2 (GC a))];refine Fun.of (ay (by simp) ?_) rfl rfl
  conv=>whnf
  conv=>whnf
  repeat' ((first|(refine gF ?_;first|refine ab.to (yP) ?_|refine ab.fn (hin) ?_|refine ab.to (D1 (.inr rfl)) ?_)|(refine gC ?_;first|refine cY ?_|refine cN ?_|refine .not ?_|(refine gD ?_;refine cJ ?_))|(refine gH ?_;refine hB ?_))<;>conv=>whnf)
  refine af.lay [] oko ?_
  conv=>whnf
  conv=>whnf
  repeat' (refine af.nrm ?_<;>conv=>whnf)
 ·have hv:=Iz (a:=a) hb;have hr:=od (a-a.fdiv b*b)
  cases hx:inR (a-a.fdiv b*b) with
  |true=>
   rw [k8 rfl h2 hv hx];rw [hx] at hr;refine Fun.of (ay (by simp) ?_) rfl rfl
   conv=>whnf
   conv=>whnf
   repeat' ((first|(refine gF ?_;first|refine ab.to (yP) ?_|refine ab.fn (hin) ?_|refine ab.to (D2 hb h3.1 h3.2) ?_|refine ab.fn (hr) ?_)|(refine gC ?_;first|refine cY ?_|refine cN ?_|refine .not ?_|(refine gD ?_;refine cI ?_))|(refine gH ?_;refine hB ?_))<;>conv=>whnf)
   refine af.lay [] oko ?_
   conv=>whnf
   conv=>whnf
   repeat' (refine af.nrm ?_<;>conv=>whnf)
  |false=>
   rw [la rfl h2 hv hx];rw [hx] at hr;refine Fun.of (ay (by simp) ?_) rfl rfl
   conv=>whnf
   conv=>whnf
   repeat' ((first|(refine gF ?_;first|refine ab.to (yP) ?_|refine ab.fn (hin) ?_|refine ab.to (D2 hb h3.1 h3.2) ?_|refine ab.fn (hr) ?_)|(refine gC ?_;first|refine cY ?_|refine cN ?_|refine .not ?_|(refine gD ?_;first|refine cI ?_|refine cJ ?_))|(refine gH ?_;refine hB ?_))<;>conv=>whnf)
   refine af.lay [] oko ?_
   conv=>whnf
   conv=>whnf
   repeat' (refine af.nrm ?_<;>conv=>whnf)
theorem H8 (s:ByteArray) (a b:Int):Fun Tryz.prog 91 [.str s,.int .i64 a,.int .i64 b] (ld s a b):=by
 cases h:mz s with
 |false=>exact H9 h
 |true=>
  cases h2:(inR a&&inR b) with
  |false=>exact FE h h2
  |true=>
   rcases pd h with rfl|rfl|rfl|rfl|rfl
   ·exact FI h2
   ·exact FD h2
   ·exact FF h2
   ·exact FH h2
   ·exact FG h2
theorem su (k n:Int) (s:ByteArray) (l:List AV) (f:AV) (hf:f=.fn (.func 163) [] []∨f=.fn (.func 164) [] []):AM.Sem Tryz.prog 162 [f] [.cells [.int .i64 k,.int .i64 n,.str s,.sl .no l]] fun r bs'=>r=.fn (.func 175) [] [.ptr 1 0]∧bs'=[.cells [.int .i64 k,.int .i64 n,.str s,.sl .no l],.cells [f]]:=by
 rcases hf with rfl|rfl
 ·refine dh (by simp) ?_
  conv=>whnf
  conv=>whnf
  repeat' (refine af.nrm ?_<;>conv=>whnf)
  all_goals exact ⟨rfl,rfl⟩
 ·refine dh (by simp) ?_
  conv=>whnf
  conv=>whnf
  repeat' (refine af.nrm ?_<;>conv=>whnf)
  all_goals exact ⟨rfl,rfl⟩
theorem IH (k n:Int) (s:ByteArray) (l:List AV):AM.Sem Tryz.prog 128 [.str zc] [.cells [.int .i64 k,.int .i64 n,.str s,.sl .no l]] fun r bs'=>r=.fn (.func 175) [] [.ptr 1 0]∧bs'=[.cells [.int .i64 k,.int .i64 n,.str s,.sl .no l],.cells [.fn (.func 163) [] []]]:=by
 refine cu (by simp) ?_
 conv=>whnf
 conv=>whnf
 repeat' ((first|(refine gF ?_;refine ab.to (su k n s l _ (.inl rfl)) ?_)|(refine gC ?_;(refine gD ?_;first|refine cId ?_|refine cJd ?_))|refine af.nrm ?_)<;>conv=>whnf)
 all_goals exact ⟨rfl,rfl⟩
theorem IG (k n:Int) (s:ByteArray) (l:List AV):AM.Sem Tryz.prog 128 [.str cMod] [.cells [.int .i64 k,.int .i64 n,.str s,.sl .no l]] fun r bs'=>r=.fn (.func 175) [] [.ptr 1 0]∧bs'=[.cells [.int .i64 k,.int .i64 n,.str s,.sl .no l],.cells [.fn (.func 164) [] []]]:=by
 refine cu (by simp) ?_
 conv=>whnf
 conv=>whnf
 repeat' ((first|(refine gF ?_;refine ab.to (su k n s l _ (.inr rfl)) ?_)|(refine gC ?_;(refine gD ?_;first|refine cId ?_|refine cJd ?_))|refine af.nrm ?_)<;>conv=>whnf)
 all_goals exact ⟨rfl,rfl⟩
def Cn (t:Tm):Bool:=decide (t.kind=2)&&(decide (t.args.length=2)&&mz t.name)
set_option maxRecDepth 100000 in
theorem Ae (t:Tm):Fun Tryz.prog 90 [t.avw] (.bool (Cn t)):=by
 unfold Cn
 by_cases h1:t.kind=2
 ·rw [decide_eq_true h1,Bool.true_and]
  by_cases h2:t.args.length=2
  ·rw [decide_eq_true h2,Bool.true_and]
   cases h:mz t.name with
   |false=>
    have hof:=JB h;refine Fun.of (a6 (by simp) ?_) rfl rfl
    conv=>whnf
    conv=>whnf
    repeat' ((first|(refine gF ?_;refine ab.fn (hof) ?_)|(refine gC ?_;(refine gD ?_;refine cI ?_))|(refine gL ?_;refine .map ?_)|refine af.nrm ?_)<;>conv=>whnf)
   |true=>
    rcases pd h with e|e|e|e|e
    ·have hof:=Cq;rw [←e] at hof;refine Fun.of (a6 (by simp) ?_) rfl rfl
     conv=>whnf
     conv=>whnf
     repeat' ((first|(refine gF ?_;refine ab.fn (hof) ?_)|(refine gC ?_;(refine gD ?_;refine cI ?_))|(refine gL ?_;refine .map ?_)|refine af.nrm ?_)<;>conv=>whnf)
    ·have hof:=Co;rw [←e] at hof;refine Fun.of (a6 (by simp) ?_) rfl rfl
     conv=>whnf
     conv=>whnf
     repeat' ((first|(refine gF ?_;refine ab.fn (hof) ?_)|(refine gC ?_;(refine gD ?_;refine cI ?_))|(refine gL ?_;refine .map ?_)|refine af.nrm ?_)<;>conv=>whnf)
    ·have hof:=Cp;rw [←e] at hof;refine Fun.of (a6 (by simp) ?_) rfl rfl
     conv=>whnf
     conv=>whnf
     repeat' ((first|(refine gF ?_;refine ab.fn (hof) ?_)|(refine gC ?_;(refine gD ?_;refine cI ?_))|(refine gL ?_;refine .map ?_)|refine af.nrm ?_)<;>conv=>whnf)
    ·have hof:=IH t.kind t.num t.name (t.args.map Tm.av);rw [←e] at hof;refine Fun.of (a6 (by simp) ?_) rfl rfl
     conv=>whnf
     conv=>whnf
     repeat' ((first|(refine gF ?_;refine ab.to (hof) ?_)|(refine gC ?_;(refine gD ?_;refine cI ?_))|(refine gL ?_;refine .map ?_))<;>conv=>whnf)
     refine af.lay [] oko ?_
     conv=>whnf
     conv=>whnf
     repeat' (refine af.nrm ?_<;>conv=>whnf)
    ·have hof:=IG t.kind t.num t.name (t.args.map Tm.av);rw [←e] at hof;refine Fun.of (a6 (by simp) ?_) rfl rfl
     conv=>whnf
     conv=>whnf
     repeat' ((first|(refine gF ?_;refine ab.to (hof) ?_)|(refine gC ?_;(refine gD ?_;refine cI ?_))|(refine gL ?_;refine .map ?_))<;>conv=>whnf)
     refine af.lay [] oko ?_
     conv=>whnf
     conv=>whnf
     repeat' (refine af.nrm ?_<;>conv=>whnf)
  ·rw [decide_eq_false h2,Bool.false_and];have h3:¬((t.args.length:Int)=2):=by omega
   refine Fun.of (a6 (by simp) ?_) rfl rfl
   conv=>whnf
   conv=>whnf
   repeat' ((first|(refine gC ?_;(refine gD ?_;first|refine cI ?_|refine cJ ?_))|(refine gL ?_;refine .map ?_)|refine af.nrm ?_)<;>conv=>whnf)
 ·rw [decide_eq_false h1,Bool.false_and];refine Fun.of (a6 (by simp) ?_) rfl rfl
  conv=>whnf
  conv=>whnf
  repeat' ((first|(refine gC ?_;first|refine cN ?_|(refine gD ?_;refine cJ ?_))|refine af.nrm ?_)<;>conv=>whnf)
end Go.CK
namespace Go.CK
open Go.AM Go.Proofs
def A8 (t:Tm):AV:=.tup [.int .i64 (aR t).1,.int .i64 (aR t).2]
theorem lV {t:Tm} {x e:Int} (h:aR t=(x,e)):A8 t=.tup [.int .i64 x,.int .i64 e]:=by unfold A8;rw [h]
theorem E9 {t:Tm} (h:t.kind=1):aR t=(0,17):=by
 obtain ⟨k,n,s,l⟩:=t;have h:k=1:=h;rw [uV (by omega),if_pos h]
theorem Fa {t:Tm} (h:t.kind=0):aR t=if inR t.num=true then (t.num,0) else (0,5):=by
 obtain ⟨k,n,s,l⟩:=t;have h:k=0:=h;rw [uV (by omega),if_neg (by omega),if_pos h];rfl
theorem Hs {t:Tm} (h0:¬t.kind=0) (h1:¬t.kind=1) (ho:Cn t=false):aR t=(0,11):=by
 obtain ⟨k,n,s,l⟩:=t;have h0:¬k=0:=h0;have h1:¬k=1:=h1;have ho:(decide (k=2)&&(decide (l.length=2)&&mz s))=false:=ho
 by_cases hk:k=2
 ·subst hk
  by_cases hl:l.length=2
  ·obtain ⟨a,b,rfl⟩:=oK hl;rw [xP];rw [decide_eq_true rfl,decide_eq_true hl,Bool.true_and,Bool.true_and] at ho;rw [if_pos ho]
  ·rw [Fb hl]
 ·rw [uV hk,if_neg h1,if_neg h0]
theorem Hr {t a b:Tm} (h0:¬t.kind=0) (h1:¬t.kind=1) (ho:Cn t=true) (hl:t.args=[a,b]):aR t=if (aR a).2≠0 then (0,(aR a).2) else if (aR b).2≠0 then (0,(aR b).2) else apply t.name (aR a).1 (aR b).1:=by
 obtain ⟨k,n,s,l⟩:=t;have hl:l=[a,b]:=hl;subst hl;have ho:(decide (k=2)&&(decide ([a,b].length=2)&&mz s))=true:=ho;rw [Bool.and_eq_true,Bool.and_eq_true] at ho;have hk:=of_decide_eq_true ho.1;subst hk;rw [xP,if_neg (by rw [ho.2.2];decide)];rfl
theorem GH {t:Tm} (h:Cn t=true):∃a b,t.args=[a,b]:=by
 unfold Cn at h;rw [Bool.and_eq_true,Bool.and_eq_true] at h;exact oK (of_decide_eq_true h.2.1)
def Kx (t:Tm) (q x y:Int):St:=⟨[(1,.ptr 0 0),(4,.ptr 1 0),(32,.int .i64 q)],[.cells [.int .i64 t.kind,.int .i64 t.num,.str t.name,.sl .no (t.args.map Tm.av)],.cells [.int .i64 x,.int .i64 y]],0⟩
set_option maxHeartbeats 1000000 in
set_option maxRecDepth 100000 in
theorem Jq (t:Tm):Fun Tryz.prog 49 [t.avw] (A8 t):=by
 induction t using Tm.bD with
 |h k n s l ih=>
 generalize ha:Tm.mk k n s l=t;have ih:∀x∈t.args,Fun Tryz.prog 49 [x.avw] (A8 x):=by subst ha;exact ih
 clear ha
 by_cases h1:t.kind=1
 ·rw [lV (E9 h1)];refine Fun.of (dy (by simp) ?_) rfl rfl
  conv=>whnf
  conv=>whnf
  repeat' ((first|(refine gC ?_;(refine gD ?_;refine cI ?_))|refine af.nrm ?_)<;>conv=>whnf)
 by_cases h0:t.kind=0
 ·have hr:=od t.num;have he:=Fa h0
  cases hi:inR t.num with
  |true=>
   rw [hi] at hr he;rw [lV he];refine Fun.of (dy (by simp) ?_) rfl rfl
   conv=>whnf
   conv=>whnf
   repeat' ((first|(refine gF ?_;refine ab.fn (hr) ?_)|(refine gC ?_;first|refine cY ?_|(refine gD ?_;first|refine cI ?_|refine cJ ?_))|refine af.nrm ?_)<;>conv=>whnf)
  |false=>
   rw [hi] at hr he;rw [lV he];refine Fun.of (dy (by simp) ?_) rfl rfl
   conv=>whnf
   conv=>whnf
   repeat' ((first|(refine gF ?_;refine ab.fn (hr) ?_)|(refine gC ?_;first|refine cN ?_|(refine gD ?_;first|refine cI ?_|refine cJ ?_))|refine af.nrm ?_)<;>conv=>whnf)
 have hop:=Ae t
 cases ho:Cn t with
 |false=>
  rw [ho] at hop;rw [lV (Hs h0 h1 ho)];refine Fun.of (dy (by simp) ?_) rfl rfl
  conv=>whnf
  conv=>whnf
  repeat' ((first|(refine gF ?_;refine ab.fn (hop) ?_)|(refine gC ?_;first|refine cN ?_|refine .not ?_|(refine gD ?_;refine cJ ?_))|refine af.nrm ?_)<;>conv=>whnf)
 |true=>
  rw [ho] at hop;obtain ⟨a,b,hl⟩:=GH ho;have he:=Hr h0 h1 ho hl;have ea:=ih a (by rw [hl];simp)
  have eb:=ih b (by rw [hl];simp)
  have hap:=H8 t.name (aR a).1 (aR b).1;have g0:t.args[0]?=some a:=by rw [hl];rfl
  have g1:t.args[1]?=some b:=by rw [hl];rfl
  have hln:t.args.length=2:=by rw [hl];rfl
  unfold A8 at ea eb;unfold ld at hap;refine Fun.of (dy (by simp) ?_) rfl rfl
  conv=>whnf
  repeat' ((first|(refine gF ?_;refine ab.fn (hop) ?_)|(refine gC ?_;first|refine cY ?_|refine cN ?_|refine .not ?_|(refine gD ?_;refine cJ ?_)))<;>conv=>whnf)
  refine aw.by (fb:=true) (fun _ (q:Nat)=>match q with|0=>Kx t 0 0 0|1=>Kx t 1 (aR a).1 0|_=>Kx t 2 (aR a).1 (aR b).1) (fun q=>q≤2∧(1≤q->(aR a).2=0)∧(2≤q->(aR b).2=0)) (fun q=>2-q) 0 ⟨by omega,by omega,by omega⟩ ?_ ?_
  ·exact au
  ·rintro q ⟨q1,q2,q3⟩
   match q,q1,q2,q3 with
   |0,_,_,_=>
    by_cases hz:(aR a).2=0
    ·conv=>whnf
     repeat' ((first|(refine gF ?_;refine ab.fn (ea) ?_)|(refine gC ?_;first|refine .not ?_|(refine gD ?_;refine cI ?_))|(refine gW ?_;refine wI ?_)|(refine gN ?_;refine nS ?_)|(refine gI ?_;(refine gT ?_;refine iA ?_)))<;>conv=>whnf)
     refine ⟨1,⟨⟨by omega,fun _=>hz,by omega⟩,by omega⟩,?_⟩
     exact au
    ·rw [if_pos hz] at he;rw [lV he]
     conv=>whnf
     repeat' ((first|(refine gF ?_;refine ab.fn (ea) ?_)|(refine gC ?_;first|refine .not ?_|(refine gD ?_;first|refine cI ?_|refine cJ ?_))|(refine gI ?_;(refine gT ?_;refine iA ?_))|refine af.nrm ?_)<;>conv=>whnf)
   |1,_,h2,_=>
    rw [if_neg (fun e=>e (h2 (by omega)))] at he
    by_cases hz:(aR b).2=0
    ·conv=>whnf
     repeat' ((first|(refine gF ?_;refine ab.fn (eb) ?_)|(refine gC ?_;first|refine .not ?_|(refine gD ?_;refine cI ?_))|(refine gW ?_;refine wI ?_)|(refine gN ?_;refine nS ?_)|(refine gI ?_;(refine gT ?_;refine iA ?_)))<;>conv=>whnf)
     refine ⟨2,⟨⟨by omega,fun _=>h2 (by omega),fun _=>hz⟩,by omega⟩,?_⟩
     exact au
    ·rw [if_pos hz] at he;rw [lV he]
     conv=>whnf
     repeat' ((first|(refine gF ?_;refine ab.fn (eb) ?_)|(refine gC ?_;first|refine .not ?_|(refine gD ?_;first|refine cI ?_|refine cJ ?_))|(refine gI ?_;(refine gT ?_;refine iA ?_))|refine af.nrm ?_)<;>conv=>whnf)
   |2,_,h2,h3=>
    rw [if_neg (fun e=>e (h2 (by omega))),if_neg (fun e=>e (h3 (by omega)))] at he
    unfold A8;rw [he]
    conv=>whnf
    repeat' ((first|(refine gF ?_;refine ab.fn (hap) ?_)|(refine gC ?_;(refine gD ?_;refine cJ ?_))|(refine gN ?_;refine nS ?_)|refine af.nrm ?_)<;>conv=>whnf)
end Go.CK
