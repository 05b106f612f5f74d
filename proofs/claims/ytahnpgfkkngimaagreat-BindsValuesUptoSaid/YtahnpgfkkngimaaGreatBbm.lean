/-
  Texts of this aQ joined (wip/gen/bundle.py),those declarations only that are needed:ArmC BnE BnF BnG BnH BnI FunC Read RdBnd RdBn2. By an AI agent.
-/
import Derived.Test.YtahnpgfkkngimaaGreatBbl
import Derived.Test.YtahnpgfkkngimaaGreatRows
import Derived.ProofKit
import Derived.OpenShut
import Derived.ShutString
import Derived.ChangeOld
import Derived.JoinedCond
import Derived.Deep.Slices
import Derived.Lib.SmallJoins
set_option linter.unusedSimpArgs false
set_option linter.unusedVariables false
set_option maxRecDepth 100000
namespace Go.CK
open Go.AM Go.Proofs
def A8(t:Tm):AV:=.tup [.int .i64 (aR t).1,.int .i64 (aR t).2]
theorem lV{t:Tm}{x e:Int}(h:aR t=(x,e)):A8 t=.tup [.int .i64 x,.int .i64 e]:=by unfold A8;rw[h]
theorem E9{t:Tm}(h:t.kind=1):aR t=(0,17):=by
 obtain⟨k,n,s,l⟩:=t;have h:k=1:=h;rw[uV (by omega),if_pos h]
theorem Fa{t:Tm}(h:t.kind=0):aR t=if inR t.num=true then (t.num,0) else (0,5):=by
 obtain⟨k,n,s,l⟩:=t;have h:k=0:=h;rw[uV (by omega),if_neg (by omega),if_pos h];rfl
theorem Hs{t:Tm}(h0:¬t.kind=0)(h1:¬t.kind=1)(ho:Cn t=false):aR t=(0,11):=by
 obtain⟨k,n,s,l⟩:=t;have h0:¬k=0:=h0;have h1:¬k=1:=h1;have ho:(decide (k=2)&&(decide (l.length=2)&&mz s))=false:=ho
 by_cases hk:k=2
 .subst hk
  by_cases hl:l.length=2
  .obtain ⟨a,b,rfl⟩:=oK hl;rw[xP];rw[decide_eq_true rfl,decide_eq_true hl,Za,Za] at ho;rw[if_pos ho]
  .rw [Fb hl]
 .rw [uV hk,if_neg h1,if_neg h0]
theorem Hr{t a b:Tm}(h0:¬t.kind=0)(h1:¬t.kind=1)(ho:Cn t=true)(hl:t.args=[a,b]):aR t=if (aR a).2≠0 then (0,(aR a).2) else if (aR b).2≠0 then (0,(aR b).2) else apply t.name (aR a).1 (aR b).1:=by
 obtain⟨k,n,s,l⟩:=t;have hl:l=[a,b]:=hl;subst hl;have ho:(decide (k=2)&&(decide ([a,b].length=2)&&mz s))=true:=ho;rw[ZD,ZD] at ho;have hk:=of_decide_eq_true ho.1;subst hk;rw[xP,if_neg (by rw[ho.2.2];decide)];rfl
theorem GH{t:Tm}(h:Cn t=true):∃a b,t.args=[a,b]:=by
 unfold Cn at h;rw[ZD,ZD] at h;exact oK (of_decide_eq_true h.2.1)
def Kx(t:Tm)(q x y:Int):St:=⟨[(1,.ptr 0 0),(4,.ptr 1 0),(32,.int .i64 q)],[.cells [.int .i64 t.kind,.int .i64 t.num,.str t.name,.sl .no (t.args.map Tm.av)],.cells [.int .i64 x,.int .i64 y]],0⟩
set_option maxHeartbeats 1000000 in
theorem Jq(t:Tm):Fun Tryz.prog 49 [t.avw] (A8 t):=by
 induction t using Tm.bD with
 |h k n s l ih=>
 generalize ha:Tm.mk k n s l=t;have ih:∀x∈t.args,Fun Tryz.prog 49 [x.avw] (A8 x):=by subst ha;exact ih
 clear ha
 by_cases h1:t.kind=1
 .rw [lV (E9 h1)];refine Fun.of (dy (by simp) ?_) rfl rfl
  conv=>whnf
  repeat' (first|refine gC (gD (cI ?_))|refine af.nrm ?_)<;>conv=>whnf
 by_cases h0:t.kind=0
 .have hr:=od t.num;have he:=Fa h0
  cases hi:inR t.num with
  |true=>
   rw[hi] at hr he;rw[lV he];refine Fun.of (dy (by simp) ?_) rfl rfl
   conv=>whnf
   repeat' (first|refine gF (ab.fn (hr) ?_)|(refine gC ?_;first|refine cY ?_|(refine gD ?_;first|refine cI ?_|refine cJ ?_))|refine af.nrm ?_)<;>conv=>whnf
  |false=>
   rw[hi] at hr he;rw[lV he];refine Fun.of (dy (by simp) ?_) rfl rfl
   conv=>whnf
   repeat' (first|refine gF (ab.fn (hr) ?_)|(refine gC ?_;first|refine cN ?_|(refine gD ?_;first|refine cI ?_|refine cJ ?_))|refine af.nrm ?_)<;>conv=>whnf
 have hop:=Ae t
 cases ho:Cn t with
 |false=>
  rw[ho] at hop;rw[lV (Hs h0 h1 ho)];refine Fun.of (dy (by simp) ?_) rfl rfl
  conv=>whnf
  repeat' (first|refine gF (ab.fn (hop) ?_)|(refine gC ?_;first|refine cN ?_|refine .not ?_|refine gD (cJ ?_))|refine af.nrm ?_)<;>conv=>whnf
 |true=>
  rw[ho] at hop;obtain⟨a,b,hl⟩:=GH ho;have he:=Hr h0 h1 ho hl;have ea:=ih a (by rw[hl];simp)
  have eb:=ih b (by rw[hl];simp)
  have hap:=H8 t.name (aR a).1 (aR b).1;have g0:t.args[0]? =some a:=by rw[hl];rfl
  have g1:t.args[1]? =some b:=by rw[hl];rfl
  have hln:t.args.length=2:=by rw[hl];rfl
  unfold A8 at ea eb;unfold ld at hap;refine Fun.of (dy (by simp) ?_) rfl rfl
  conv=>whnf
  repeat' (first|refine gF (ab.fn (hop) ?_)|(refine gC ?_;first|refine cY ?_|refine cN ?_|refine .not ?_|refine gD (cJ ?_)))<;>conv=>whnf
  refine aw.by (fb:=true) (λ_ (q:Nat)=>match q with|0=>Kx t 0 0 0|1=>Kx t 1 (aR a).1 0|_=>Kx t 2 (aR a).1 (aR b).1) (λq=>q<=2/\(1<=q->(aR a).2=0)/\(2<=q->(aR b).2=0)) (λq=>2-q) 0 ⟨by omega,by omega,by omega⟩ ?_ ?_
  .exact au
  .rintro q ⟨q1,q2,q3⟩
   match q,q1,q2,q3 with
   |0,_,_,_=>
    by_cases hz:(aR a).2=0
    .conv=>whnf
     repeat' (first|refine gF (ab.fn (ea) ?_)|(refine gC ?_;first|refine .not ?_|refine gD (cI ?_))|refine gW (wI ?_)|refine gN (nS ?_)|refine gI (gT (iA ?_)))<;>conv=>whnf
     refine⟨1,⟨⟨by omega,λ_=>hz,by omega⟩,by omega⟩,?_⟩
     exact au
    .rw [if_pos hz] at he;rw[lV he]
     conv=>whnf
     repeat' (first|refine gF (ab.fn (ea) ?_)|(refine gC ?_;first|refine .not ?_|(refine gD ?_;first|refine cI ?_|refine cJ ?_))|refine gI (gT (iA ?_))|refine af.nrm ?_)<;>conv=>whnf
   |1,_,h2,_=>
    rw[if_neg (λe=>e (h2 (by omega)))] at he
    by_cases hz:(aR b).2=0
    .conv=>whnf
     repeat' (first|refine gF (ab.fn (eb) ?_)|(refine gC ?_;first|refine .not ?_|refine gD (cI ?_))|refine gW (wI ?_)|refine gN (nS ?_)|refine gI (gT (iA ?_)))<;>conv=>whnf
     refine⟨2,⟨⟨by omega,λ_=>h2 (by omega),λ_=>hz⟩,by omega⟩,?_⟩
     exact au
    .rw [if_pos hz] at he;rw[lV he]
     conv=>whnf
     repeat' (first|refine gF (ab.fn (eb) ?_)|(refine gC ?_;first|refine .not ?_|(refine gD ?_;first|refine cI ?_|refine cJ ?_))|refine gI (gT (iA ?_))|refine af.nrm ?_)<;>conv=>whnf
   |2,_,h2,h3=>
    rw[if_neg (λe=>e (h2 (by omega))),if_neg (λe=>e (h3 (by omega)))] at he
    unfold A8;rw[he]
    conv=>whnf
    repeat' (first|refine gF (ab.fn (hap) ?_)|refine gC (gD (cJ ?_))|refine gN (nS ?_)|refine af.nrm ?_)<;>conv=>whnf
set_option maxHeartbeats 1000000 in
theorem LJ(s:ByteArray)(a b:Int):Fun Tryz.prog 94 [.str s,.int .i64 a,.int .i64 b] (ld s a b):=by
 have hop:=Ly s;have ia:=Lw a;have ib:=Lw b
 cases h:mz s with
 |false=>
  have hv:apply s a b=(0,7):=by unfold apply;rw[if_pos h]
  rw[k9 hv];rw[h] at hop;refine Fun.of (Li (by simp) ?_) rfl rfl
  conv=>whnf
  repeat' (first|refine gF (ab.fn (hop) ?_)|(refine gC ?_;first|refine cN ?_|refine .not ?_)|refine af.nrm ?_)<;>conv=>whnf
 |true=>
  rw[h] at hop
  cases ha:inR a with
  |false=>
   have hv:apply s a b=(0,5):=by unfold apply;rw[if_neg (by rw[h];decide),if_pos (by rw[ha];rfl)]
   rw[k9 hv];rw[ha] at ia;refine Fun.of (Li (by simp) ?_) rfl rfl
   conv=>whnf
   repeat' (first|(refine gF ?_;first|refine ab.fn (hop) ?_|refine ab.fn (ia) ?_)|(refine gC ?_;first|refine cY ?_|refine cN ?_|refine .not ?_)|refine af.nrm ?_)<;>conv=>whnf
  |true=>
   rw[ha] at ia
   cases hb:inR b with
   |false=>
    have hv:apply s a b=(0,5):=by unfold apply;rw[if_neg (by rw[h];decide),if_pos (by rw[ha,hb];rfl)]
    rw[k9 hv];rw[hb] at ib;refine Fun.of (Li (by simp) ?_) rfl rfl
    conv=>whnf
    repeat' (first|(refine gF ?_;first|refine ab.fn (hop) ?_|refine ab.fn (ia) ?_|refine ab.fn (ib) ?_)|(refine gC ?_;first|refine cY ?_|refine cN ?_|refine .not ?_)|refine af.nrm ?_)<;>conv=>whnf
   |true=>
    rw[hb] at ib;have h2:(inR a&&inR b)=true:=by rw[ha,hb];rfl
    rcases pd h with rfl|rfl|rfl|rfl|rfl
    .have hv:=IB a b;have hi:=Ck (s:=Br) ha hb;rw[hv] at hi;have hi:bW (a+b):=hi;unfold bW at hi;have hr:=Lw (a+b)
     cases hx:inR (a+b) with
     |true=>
      rw[k8 rfl h2 hv hx];rw[hx] at hr;refine Fun.of (Li (by simp) ?_) rfl rfl
      conv=>whnf
      repeat' (first|(refine gF ?_;first|refine ab.fn (hop) ?_|refine ab.fn (ia) ?_|refine ab.fn (ib) ?_|refine ab.fn (hr) ?_)|(refine gC ?_;first|refine cY ?_|refine .not ?_|refine gD (cId ?_))|refine gW (wI ?_)|refine af.nrm ?_)<;>conv=>whnf
     |false=>
      rw[la rfl h2 hv hx];rw[hx] at hr;refine Fun.of (Li (by simp) ?_) rfl rfl
      conv=>whnf
      repeat' (first|(refine gF ?_;first|refine ab.fn (hop) ?_|refine ab.fn (ia) ?_|refine ab.fn (ib) ?_|refine ab.fn (hr) ?_)|(refine gC ?_;first|refine cY ?_|refine cN ?_|refine .not ?_|refine gD (cId ?_))|refine gW (wI ?_)|refine af.nrm ?_)<;>conv=>whnf
    .have hv:=Iw a b;have hi:=Ck (s:=Bp) ha hb;rw[hv] at hi;have hi:bW (a-b):=hi;unfold bW at hi;have hr:=Lw (a-b)
     cases hx:inR (a-b) with
     |true=>
      rw[k8 rfl h2 hv hx];rw[hx] at hr;refine Fun.of (Li (by simp) ?_) rfl rfl
      conv=>whnf
      repeat' (first|(refine gF ?_;first|refine ab.fn (hop) ?_|refine ab.fn (ia) ?_|refine ab.fn (ib) ?_|refine ab.fn (hr) ?_)|(refine gC ?_;first|refine cY ?_|refine .not ?_|(refine gD ?_;first|refine cId ?_|refine cJd ?_))|refine gW (wI ?_)|refine af.nrm ?_)<;>conv=>whnf
     |false=>
      rw[la rfl h2 hv hx];rw[hx] at hr;refine Fun.of (Li (by simp) ?_) rfl rfl
      conv=>whnf
      repeat' (first|(refine gF ?_;first|refine ab.fn (hop) ?_|refine ab.fn (ia) ?_|refine ab.fn (ib) ?_|refine ab.fn (hr) ?_)|(refine gC ?_;first|refine cY ?_|refine cN ?_|refine .not ?_|(refine gD ?_;first|refine cId ?_|refine cJd ?_))|refine gW (wI ?_)|refine af.nrm ?_)<;>conv=>whnf
    .have hv:=Iy a b;have hi:=Ck (s:=Bq) ha hb;rw[hv] at hi;have hi:bW (a*b):=hi;unfold bW at hi;have hr:=Lw (a*b)
     cases hx:inR (a*b) with
     |true=>
      rw[k8 rfl h2 hv hx];rw[hx] at hr;refine Fun.of (Li (by simp) ?_) rfl rfl
      conv=>whnf
      repeat' (first|(refine gF ?_;first|refine ab.fn (hop) ?_|refine ab.fn (ia) ?_|refine ab.fn (ib) ?_|refine ab.fn (hr) ?_)|(refine gC ?_;first|refine cY ?_|refine .not ?_|(refine gD ?_;first|refine cId ?_|refine cJd ?_))|refine gW (wI ?_)|refine af.nrm ?_)<;>conv=>whnf
     |false=>
      rw[la rfl h2 hv hx];rw[hx] at hr;refine Fun.of (Li (by simp) ?_) rfl rfl
      conv=>whnf
      repeat' (first|(refine gF ?_;first|refine ab.fn (hop) ?_|refine ab.fn (ia) ?_|refine ab.fn (ib) ?_|refine ab.fn (hr) ?_)|(refine gC ?_;first|refine cY ?_|refine cN ?_|refine .not ?_|(refine gD ?_;first|refine cId ?_|refine cJd ?_))|refine gW (wI ?_)|refine af.nrm ?_)<;>conv=>whnf
    .by_cases hb0:b=0
     .subst hb0;rw[k9 (x4 rfl h2 (GD a))];refine Fun.of (Li (by simp) ?_) rfl rfl
      conv=>whnf
      repeat' (first|(refine gF ?_;first|refine ab.fn (hop) ?_|refine ab.fn (ia) ?_|refine ab.fn (ib) ?_)|(refine gC ?_;first|refine cY ?_|refine .not ?_|(refine gD ?_;first|refine cI ?_|refine cJd ?_))|refine af.nrm ?_)<;>conv=>whnf
     .have hv:=IA (a:=a) hb0;have hfl:=LC hb0 ha hb;have hr:=Lw (a.fdiv b)
      cases hx:inR (a.fdiv b) with
      |true=>
       rw[k8 rfl h2 hv hx];rw[hx] at hr;refine Fun.of (Li (by simp) ?_) rfl rfl
       conv=>whnf
       repeat' (first|(refine gF ?_;first|refine ab.fn (hop) ?_|refine ab.fn (ia) ?_|refine ab.fn (ib) ?_|refine ab.fn (hfl) ?_|refine ab.fn (hr) ?_)|(refine gC ?_;first|refine cY ?_|refine .not ?_|(refine gD ?_;first|refine cJ ?_|refine cJd ?_))|refine af.nrm ?_)<;>conv=>whnf
      |false=>
       rw[la rfl h2 hv hx];rw[hx] at hr;refine Fun.of (Li (by simp) ?_) rfl rfl
       conv=>whnf
       repeat' (first|(refine gF ?_;first|refine ab.fn (hop) ?_|refine ab.fn (ia) ?_|refine ab.fn (ib) ?_|refine ab.fn (hfl) ?_|refine ab.fn (hr) ?_)|(refine gC ?_;first|refine cY ?_|refine cN ?_|refine .not ?_|(refine gD ?_;first|refine cJ ?_|refine cJd ?_))|refine af.nrm ?_)<;>conv=>whnf
    .by_cases hb0:b=0
     .subst hb0;rw[k9 (x4 rfl h2 (GC a))];refine Fun.of (Li (by simp) ?_) rfl rfl
      conv=>whnf
      repeat' (first|(refine gF ?_;first|refine ab.fn (hop) ?_|refine ab.fn (ia) ?_|refine ab.fn (ib) ?_)|(refine gC ?_;first|refine cY ?_|refine .not ?_|(refine gD ?_;first|refine cI ?_|refine cJd ?_))|refine af.nrm ?_)<;>conv=>whnf
     .have hv:=Iz (a:=a) hb0;have hfl:=LC hb0 ha hb;have g1:=qk.1 ha;have g2:=qk.1 hb;have h5:=uQ hb0 g1.1 g1.2;have h6:=qY h5.1 h5.2 g2.1 g2.2;have hr:=Lw (a-a.fdiv b*b)
      cases hx:inR (a-a.fdiv b*b) with
      |true=>
       rw[k8 rfl h2 hv hx];rw[hx] at hr;refine Fun.of (Li (by simp) ?_) rfl rfl
       conv=>whnf
       repeat' (first|(refine gF ?_;first|refine ab.fn (hop) ?_|refine ab.fn (ia) ?_|refine ab.fn (ib) ?_|refine ab.fn (hfl) ?_|refine ab.fn (hr) ?_)|(refine gC ?_;first|refine cY ?_|refine .not ?_|(refine gD ?_;first|refine cJ ?_|refine cId ?_|refine cJd ?_))|refine gW (wI ?_)|refine af.nrm ?_)<;>conv=>whnf
      |false=>
       rw[la rfl h2 hv hx];rw[hx] at hr;refine Fun.of (Li (by simp) ?_) rfl rfl
       conv=>whnf
       repeat' (first|(refine gF ?_;first|refine ab.fn (hop) ?_|refine ab.fn (ia) ?_|refine ab.fn (ib) ?_|refine ab.fn (hfl) ?_|refine ab.fn (hr) ?_)|(refine gC ?_;first|refine cY ?_|refine cN ?_|refine .not ?_|(refine gD ?_;first|refine cJ ?_|refine cId ?_|refine cJd ?_))|refine gW (wI ?_)|refine af.nrm ?_)<;>conv=>whnf
theorem LH{t:Tm}(h1:t.kind=2)(h2:t.args.length=2):Cn t=mz t.name:=by unfold Cn;rw[decide_eq_true h1,decide_eq_true h2,Za,Za]
theorem LI{t:Tm}(h:¬(t.kind=2/\t.args.length=2)):Cn t=false:=by
 unfold Cn
 by_cases h1:t.kind=2
 .rw [decide_eq_false (λe=>h ⟨h1,e⟩),Zu,Bool.and_false]
 .rw [decide_eq_false h1,Zu]
set_option maxHeartbeats 1000000 in
theorem LM(t:Tm):Fun Tryz.prog 51 [t.avw] (A8 t):=by
 induction t using Tm.bD with
 |h k n s l ih=>
 generalize ha:Tm.mk k n s l=t;have ih:∀x∈t.args,Fun Tryz.prog 51 [x.avw] (A8 x):=by subst ha;exact ih
 clear ha
 by_cases h1:t.kind=1
 .rw [lV (E9 h1)];refine Fun.of (Lj (by simp) ?_) rfl rfl
  conv=>whnf
  repeat' (first|(refine gC ?_;(refine gD ?_;first|refine cI ?_|refine cJ ?_))|refine af.nrm ?_)<;>conv=>whnf
 by_cases h0:t.kind=0
 .have hr:=Lw t.num;have he:=Fa h0
  cases hi:inR t.num with
  |true=>
   rw[hi] at hr he;rw[lV he];refine Fun.of (Lj (by simp) ?_) rfl rfl
   conv=>whnf
   repeat' (first|refine gF (ab.fn (hr) ?_)|(refine gC ?_;first|refine cY ?_|refine .not ?_|refine gD (cI ?_))|refine af.nrm ?_)<;>conv=>whnf
  |false=>
   rw[hi] at hr he;rw[lV he];refine Fun.of (Lj (by simp) ?_) rfl rfl
   conv=>whnf
   repeat' (first|refine gF (ab.fn (hr) ?_)|(refine gC ?_;first|refine cN ?_|refine .not ?_|refine gD (cI ?_))|refine af.nrm ?_)<;>conv=>whnf
 have hop:=Ly t.name
 by_cases h2:t.kind=2
 rotate_left
 .rw [lV (Hs h0 h1 (LI λe=>h2 e.1))];refine Fun.of (Lj (by simp) ?_) rfl rfl
  conv=>whnf
  repeat' (first|(refine gC ?_;first|refine cY ?_|refine .not ?_|refine gD (cJ ?_))|refine af.nrm ?_)<;>conv=>whnf
 by_cases hl2:t.args.length=2
 rotate_left
 .rw [lV (Hs h0 h1 (LI λe=>hl2 e.2))];have hl3:¬((t.args.length:Int)=2):=by omega
  cases hq:mz t.name with
  |false=>
   rw[hq] at hop;refine Fun.of (Lj (by simp) ?_) rfl rfl
   conv=>whnf
   repeat' (first|refine gF (ab.fn (hop) ?_)|(refine gC ?_;first|refine cY ?_|refine cN ?_|refine .not ?_|(refine gD ?_;first|refine cI ?_|refine cJ ?_))|refine af.nrm ?_)<;>conv=>whnf
  |true=>
   rw[hq] at hop;refine Fun.of (Lj (by simp) ?_) rfl rfl
   conv=>whnf
   repeat' (first|refine gF (ab.fn (hop) ?_)|(refine gC ?_;first|refine cY ?_|refine .not ?_|(refine gD ?_;first|refine cI ?_|refine cJ ?_))|refine gL (.map ?_)|refine af.nrm ?_)<;>conv=>whnf
 cases ho:mz t.name with
 |false=>
  rw[ho] at hop;rw[lV (Hs h0 h1 ((LH h2 hl2).trans ho))];refine Fun.of (Lj (by simp) ?_) rfl rfl
  conv=>whnf
  repeat' (first|refine gF (ab.fn (hop) ?_)|(refine gC ?_;first|refine cY ?_|refine cN ?_|refine .not ?_|(refine gD ?_;first|refine cI ?_|refine cJ ?_))|refine af.nrm ?_)<;>conv=>whnf
 |true=>
  rw[ho] at hop;have ho2:=(LH h2 hl2).trans ho;obtain⟨a,b,hl⟩:=GH ho2;have he:=Hr h0 h1 ho2 hl;have ea:=ih a (by rw[hl];simp)
  have eb:=ih b (by rw[hl];simp)
  have hap:=LJ t.name (aR a).1 (aR b).1;have g0:t.args[0]? =some a:=by rw[hl];rfl
  have g1:t.args[1]? =some b:=by rw[hl];rfl
  unfold A8 at ea eb;unfold ld at hap
  by_cases hz:(aR a).2=0
  .rw [if_neg (λe=>e hz)] at he
   by_cases hy:(aR b).2=0
   .rw [if_neg (λe=>e hy)] at he;unfold A8;rw[he];refine Fun.of (Lj (by simp) ?_) rfl rfl
    conv=>whnf
    repeat' (first|(refine gF ?_;first|refine ab.fn (hop) ?_|refine ab.fn (ea) ?_|refine ab.fn (eb) ?_|refine ab.fn (hap) ?_)|(refine gC ?_;first|refine cY ?_|refine .not ?_|(refine gD ?_;first|refine cI ?_|refine cJ ?_))|refine gL (.map ?_)|refine gI (gT (iA ?_))|refine af.nrm ?_)<;>conv=>whnf
   .rw [if_pos hy] at he;rw[lV he];refine Fun.of (Lj (by simp) ?_) rfl rfl
    conv=>whnf
    repeat' (first|(refine gF ?_;first|refine ab.fn (hop) ?_|refine ab.fn (ea) ?_|refine ab.fn (eb) ?_)|(refine gC ?_;first|refine cY ?_|refine .not ?_|(refine gD ?_;first|refine cI ?_|refine cJ ?_))|refine gL (.map ?_)|refine gI (gT (iA ?_))|refine af.nrm ?_)<;>conv=>whnf
  .rw [if_pos hz] at he;rw[lV he];refine Fun.of (Lj (by simp) ?_) rfl rfl
   conv=>whnf
   repeat' (first|(refine gF ?_;first|refine ab.fn (hop) ?_|refine ab.fn (ea) ?_)|(refine gC ?_;first|refine cY ?_|refine .not ?_|(refine gD ?_;first|refine cI ?_|refine cJ ?_))|refine gL (.map ?_)|refine gI (gT (iA ?_))|refine af.nrm ?_)<;>conv=>whnf
end Go.CK
namespace Go.CK
open Go.AM Go.Proofs
theorem BY(n:Int):Fun Tryz.prog 50 [.int .i64 n] (mj n).avw:=by
 refine Fun.of (Ai (by simp) ?_) rfl rfl
 conv=>whnf
 repeat' refine af.nrm ?_<;>conv=>whnf
 exact rfl
theorem FW(n:Int):Fun Tryz.prog 39 [.int .i64 n] (az n).avw:=by
 refine Fun.of (mZ (by simp) ?_) rfl rfl
 conv=>whnf
 repeat' refine af.nrm ?_<;>conv=>whnf
 exact rfl
theorem zt(l:List Int):Fun Tryz.prog 17 [.sl .no (l.map c7),.sl .no (l.map c7)] (.bool true):=by
 refine Fun.of (Sem.assume λhg0 _=>?_) rfl rfl;have hg:=(bH (hg0 (.sl .no (l.map c7)) (by simp) rfl)).1
 refine kL (by simp) ?_
 conv=>whnf
 repeat' (first|(refine gC ?_;first|refine .not ?_|refine gD (cI ?_))|refine gL (.map ?_))<;>conv=>whnf
 refine aw.count (fb:=true) (l.length) (λst_ j=>st_.zG [(13,.int .i64 j)]) (λ_=>True) trivial ?_ (λj hj _=>?_) (λ_=>?_)
 .exact au
 .obtain ⟨x,hx⟩:∃x,l[j]? =some x:=⟨_,ZA (by omega)⟩
  have hx2:(l.map c7)[j]? =some (.int .i64 x):=by rw[YD,hx];rfl
  conv=>whnf
  repeat' (first|(refine gC ?_;first|refine .not ?_|refine gD (cI ?_))|refine gW (wI ?_)|refine gI (gM (iE ?_)))<;>conv=>whnf
  refine⟨trivial,?_⟩;exact au
 .conv=>whnf
  repeat' (first|refine gC (gD (cJ ?_))|refine af.nrm ?_)<;>conv=>whnf
theorem xn(t:Tm):1<=t.nodes:=by obtain⟨k,n,s,l⟩:=t;simp only[Tm.nodes];omega
theorem TS.is{b:List Bnd}{s t:Tm}(h:TS b s t)(n:Int):TS b s (mj n):=by
 have e:(mj n).nodes=1:=by simp[mj,Tm.nodes,Tm.ai]
 have h1:=xn t;have h2:=h.hN;have h3:∀x,Tm.ai (aH b++[x])=x.nodes+Tm.ai (aH b):=λx=>by rw[<-nc,Tm.ai]
 rw[h3] at h2;exact⟨h.hb,h.hs,by omega,h.hl,by rw[h3];omega⟩
theorem LK{b:List Bnd}{s t:Tm}(hs:TS b s t):∃c l e,Told b s t c l e/\Fun Tryz.prog 14 [.sl .no (b.map Bnd.av),s.avw,t.avw] (lj c l e)/\Fun Tryz.prog 15 [.sl .no (b.map Bnd.av),s.avw,t.avw] (lj c l e):=by
 have hbv:∀x∈b,x.t.vs.length<=100000:=λx hx=>(hs.hb x hx).2;have hbl:=hs.hl
 cases hv:bk b s t with
 |false=>
  exact⟨[],[],2,by unfold Told;rw[hv,if_neg YY];exact⟨rfl,rfl,rfl⟩,Jk hbv hv,FC hs hv⟩
 |true=>
  obtain⟨d,e,h1,h2,h3,h4⟩:=Ep hv hs.hN;obtain⟨g1,g2,g3⟩:=Jg h3 h4
  have hr:cL b=true:=by
   unfold bk at hv;rw[ZD] at hv;exact hv.1
  have hfr:mD b d=c8 b d:=vm d [] b rfl (zl hr) g2 (λx hx=>by cases hx)
  have q1:=tb hbv hv h1 hs.hN (by omega) (by omega)
  have q2:=FB hs hv h2 (by omega)
  rw[hfr] at q1
  by_cases he:e=0
  .rw [if_pos he] at q1 q2;refine⟨d,c8 b d,0,?_,q1,q2⟩;unfold Told;rw[hv,if_pos rfl];exact⟨d,by rw[he] at h3;exact h3,h4,by rw[if_pos rfl];exact⟨rfl,rfl⟩⟩
  .rw [if_neg he] at q1 q2;refine⟨[],[],e,?_,q1,q2⟩;unfold Told;rw[hv,if_pos rfl];exact⟨d,h3,h4,by rw[if_neg he];exact⟨rfl,rfl⟩⟩
set_option maxHeartbeats 4000000 in
theorem LD{b:List Bnd}{s t:Tm}(hs:TS b s t):∃c l e,Fun Tryz.prog 20 [.sl .no (b.map Bnd.av),s.avw,t.avw] (lj c l e)/\Fun Tryz.prog 21 [.sl .no (b.map Bnd.av),s.avw,t.avw] (lj c l e):=by
 have hbl:=hs.hl;have h1:=hs.hs;have h2:=hs.ht;have hva:=nT (s:=s) (t:=t) λx hx=>(hs.hb x hx).2;have hva2:=oJ hs.hb (s:=s) (t:=t) (by omega) (by omega)
 cases hv:bk b s t with
 |false=>
  rw[hv] at hva hva2;refine⟨[],[],2,?_,?_⟩
  .refine Fun.of (sM (by simp) ?_) rfl rfl
   conv=>whnf
   repeat' (first|refine gF (ab.fn (hva) ?_)|(refine gC ?_;first|refine cN ?_|refine .not ?_))<;>conv=>whnf
   refine af.lay [] oko ?_
   conv=>whnf
   repeat' refine af.nrm ?_<;>conv=>whnf
   all_goals rfl
  .refine Fun.of (Ll (by simp) ?_) rfl rfl
   conv=>whnf
   repeat' (first|refine gF (ab.fn (hva2) ?_)|(refine gC ?_;first|refine cN ?_|refine .not ?_))<;>conv=>whnf
   refine af.lay [] oko ?_
   conv=>whnf
   repeat' refine af.nrm ?_<;>conv=>whnf
   all_goals rfl
 |true=>
  rw[hv] at hva hva2;have hap:=vr b (by omega) t
  have hap2:=x5 b t;have hev:=Jq (cR b t);have hev2:=LM (cR b t)
  by_cases he:(aR (cR b t)).2=0
  .obtain ⟨c,l,e,_,k1,k2⟩:=LK (hs.is (aR (cR b t)).1);have hti:=BY (aR (cR b t)).1;unfold A8 at hev hev2;refine⟨c,l,e,?_,?_⟩
   .refine Fun.of (sM (by simp) ?_) rfl rfl
    conv=>whnf
    repeat' (first|(refine gF ?_;first|refine ab.fn (hva) ?_|refine ab.fn (hap) ?_|refine ab.fn (hev) ?_)|(refine gG ?_;first|refine aM.fn (hti) ?_|refine aM.fn (k1) ?_)|(refine gC ?_;first|refine cY ?_|refine .not ?_|refine gD (cI ?_)))<;>conv=>whnf
    refine af.lay [] oko ?_
    conv=>whnf
    repeat' refine af.nrm ?_<;>conv=>whnf
    all_goals rfl
   .refine Fun.of (Ll (by simp) ?_) rfl rfl
    conv=>whnf
    repeat' (first|(refine gF ?_;first|refine ab.fn (hva2) ?_|refine ab.fn (hap2) ?_|refine ab.fn (hev2) ?_|refine ab.fn (k2) ?_)|(refine gC ?_;first|refine cY ?_|refine .not ?_|refine gD (cI ?_)))<;>conv=>whnf
    refine af.lay [] oko ?_
    conv=>whnf
    repeat' refine af.nrm ?_<;>conv=>whnf
    all_goals rfl
  .unfold A8 at hev hev2;refine⟨[],[],(aR (cR b t)).2,?_,?_⟩
   .refine Fun.of (sM (by simp) ?_) rfl rfl
    conv=>whnf
    repeat' (first|(refine gF ?_;first|refine ab.fn (hva) ?_|refine ab.fn (hap) ?_|refine ab.fn (hev) ?_)|(refine gC ?_;first|refine cY ?_|refine .not ?_|refine gD (cJ ?_)))<;>conv=>whnf
    refine af.lay [] oko ?_
    conv=>whnf
    repeat' refine af.nrm ?_<;>conv=>whnf
    all_goals rfl
   .refine Fun.of (Ll (by simp) ?_) rfl rfl
    conv=>whnf
    repeat' (first|(refine gF ?_;first|refine ab.fn (hva2) ?_|refine ab.fn (hap2) ?_|refine ab.fn (hev2) ?_)|(refine gC ?_;first|refine cY ?_|refine .not ?_|refine gD (cJ ?_)))<;>conv=>whnf
    refine af.lay [] oko ?_
    conv=>whnf
    repeat' refine af.nrm ?_<;>conv=>whnf
    all_goals rfl
def g1T:Tm:=.mk 2 0 ⟨⟨[102]⟩⟩ [az 1]
def plT:Tm:=.mk 2 0 ⟨⟨[43]⟩⟩ [az 0,mj 1]
theorem bx1:allI fN fF [az 2,az 2] [g1T,az 0]=some ([⟨0,g1T⟩,⟨2,g1T⟩],0):=by kernel_rfl
theorem bx2:allI fN fF [az 0,az 1] [mj 2,mj 3]=some ([⟨0,mj 2⟩,⟨1,mj 3⟩],0):=by kernel_rfl
theorem bx3:allI fN fF [az 1] [g1T]=some ([],13):=by kernel_rfl
theorem bx4:allI fN fF [az 2,az 2] [g1T,g1T]=some ([⟨2,g1T⟩],0):=by kernel_rfl
theorem bx5:allI fN fF [az 2,az 2] [g1T,az 1]=some ([],13):=by kernel_rfl
theorem bv1:bk [⟨2,g1T⟩] (az 2) (az 0)=true:=by kernel_rfl
theorem bv2:bk [⟨0,mj 2⟩] (az 1) plT=true:=by kernel_rfl
theorem bv3:bk [] (az 1) g1T=true:=by kernel_rfl
theorem bv6:bk [⟨0,mj 2⟩] (az 1) (mj 3)=true:=by kernel_rfl
theorem bq1:fI [⟨2,g1T⟩] (az 2) g1T 0=1:=by kernel_rfl
theorem bq2:fI [⟨2,g1T⟩] (az 2) (az 1) 13=2:=by kernel_rfl
theorem bq3:fI [⟨2,g1T⟩] (az 2) (az 0) 0=0:=by kernel_rfl
theorem be1:aR (cR [⟨0,mj 2⟩] plT)=(3,0):=by kernel_rfl
theorem bb1:mD [⟨2,g1T⟩] [⟨0,g1T⟩,⟨2,g1T⟩]=[0]:=by kernel_rfl
theorem bb2:mD [⟨0,mj 2⟩] [⟨0,mj 2⟩,⟨1,mj 3⟩]=[1]:=by kernel_rfl
theorem Hu:A8 (cR [⟨0,mj 2⟩] plT)=.tup [.int .i64 3,.int .i64 0]:=lV be1
def b1L:List Bnd:=[⟨2,g1T⟩]
def b2L:List Bnd:=[⟨0,mj 2⟩]
theorem bs1:∀x∈b1L,x.t.vs.length<=100000:=by
 intro x hx;obtain rfl:=Zp.1 hx;decide
theorem bs2:∀x∈b2L,x.t.vs.length<=100000:=by
 intro x hx;obtain rfl:=Zp.1 hx;decide
theorem bs0:∀x∈([]:List Bnd),x.t.vs.length<=100000:=λx hx=>by cases hx
theorem ts1{t:Tm}(h:t.nodes<=10):TS b1L (az 2) t:=by
 refine⟨λx hx=>?_,by decide,by omega,by decide,?_⟩
 .obtain rfl:=Zp.1 hx;exact⟨by decide,by decide⟩
 .have e:∀x,Tm.ai (aH b1L++[x])=x.nodes+Tm.ai (aH b1L):=λx=>by rw[<-nc,Tm.ai]
  rw[e];have e1:Tm.ai (a8 b1L++[az 2])=2:=by decide
  have e2:Tm.ai (aH b1L)=2:=by decide
  omega
set_option maxHeartbeats 4000000 in
theorem Es:Fun Tryz.prog 20 [.sl .no (b2L.map Bnd.av),(az 1).avw,plT.avw] (lj [⟨0,mj 2⟩,⟨1,mj 3⟩] [1] 0):=by
 have hva:=nT (s:=az 1) (t:=plT) bs2;rw[show bk b2L (az 1) plT=true from bv2] at hva;have hap:=vr b2L (by decide) plT
 have hev:=Jq (cR b2L plT);rw[show A8 (cR b2L plT)=.tup [.int .i64 3,.int .i64 0] from Hu] at hev;have hti:=BY 3;have hte:=tb (b:=b2L) (s:=az 1) (t:=mj 3) bs2 bv6 ((rT _ _ _ _).trans bx2) (by decide) (by decide) (by decide)
 rw[if_pos rfl,show mD b2L _=[1] from bb2] at hte;refine Fun.of (sM (by simp) ?_) rfl rfl
 conv=>whnf
 repeat' (first|(refine gF ?_;first|refine ab.fn (hva) ?_|refine ab.fn (hap) ?_|refine ab.fn (hev) ?_)|(refine gG ?_;first|refine aM.fn (hti) ?_|refine aM.fn (hte) ?_)|(refine gC ?_;first|refine cY ?_|refine .not ?_|refine gD (cI ?_)))<;>conv=>whnf
 refine af.lay [] oko ?_
 conv=>whnf
 repeat' refine af.nrm ?_<;>conv=>whnf
 all_goals rfl
set_option maxHeartbeats 4000000 in
theorem l6:Fun Tryz.prog 13 [] (.bool true):=by
 have k1:=tb (b:=b1L) (s:=az 2) (t:=az 0) bs1 bv1 ((rT _ _ _ _).trans bx1) (by decide) (by decide) (by decide)
 rw[if_pos rfl,show mD b1L _=[0] from bb1] at k1;have k2:=Es;have k3:=tb (b:=[]) (s:=az 1) (t:=g1T) bs0 bv3 ((rT _ _ _ _).trans bx3) (by decide) (by decide) (by decide)
 rw[if_neg (by decide)] at k3
 have k4:=nQ (b:=b1L) (s:=az 2) (t:=g1T) (ts1 (by decide)) (λ_=>(rT _ _ _ _).trans bx4)
 have k5:=nQ (b:=b1L) (s:=az 2) (t:=az 1) (ts1 (by decide)) (λ_=>(rT _ _ _ _).trans bx5)
 have k6:=nQ (b:=b1L) (s:=az 2) (t:=az 0) (ts1 (by decide)) (λ_=>(rT _ _ _ _).trans bx1)
 rw[show fI b1L _ _ _=1 from bq1] at k4;rw[show fI b1L _ _ _=2 from bq2] at k5;rw[show fI b1L _ _ _=0 from bq3] at k6;have s1:=zM [⟨0,g1T⟩,⟨2,g1T⟩] [⟨0,g1T⟩,⟨2,g1T⟩];rw[oP] at s1;have i1:=zt [0];have i2:=zt [1];refine Fun.of (jQ (by simp) ?_) rfl rfl
 conv=>whnf
 repeat' (first|(refine gF ?_;first|refine ab.fn (FW _) ?_|refine ab.fn (k1) ?_|refine ab.fn (k2) ?_)|(refine gG ?_;first|refine aM.fn (FW _) ?_|refine aM.fn (k3) ?_|refine aM.fn (k4) ?_|refine aM.fn (k5) ?_|refine aM.fn (k6) ?_|refine aM.fn (s1) ?_|refine aM.fn (i1) ?_|refine aM.fn (i2) ?_)|(refine gC ?_;first|refine cY ?_|(refine gD ?_;first|refine cI ?_|refine cId ?_))|refine gL (.map ?_)|refine gI (iJ ?_))<;>conv=>whnf
 refine af.lay [] oko ?_
 conv=>whnf
 repeat' refine af.nrm ?_<;>conv=>whnf
 all_goals rfl
end Go.CK
namespace Go.CK
open Go.AM Go.Proofs
def rJ(l:List Bnd):Bool:=decide (l.length<=30)&&l.all λx=>x.t.small
theorem H5(l:List Bnd):Fun Tryz.prog 11 [.sl .no (l.map Bnd.av)] (.bool (rJ l)):=by
 refine Fun.of (Sem.assume λhg0 _=>?_) rfl rfl;have hg:=(bH (hg0 (.sl .no (l.map Bnd.av)) (by simp) rfl)).1
 by_cases hl:l.length<=30
 rotate_left
 .unfold rJ;rw[decide_eq_false hl,Zu];have hl2:¬((l.length:Int)<=30):=by omega
  refine ep (by simp) ?_
  conv=>whnf
  repeat' (first|refine gC (gD (cI ?_))|refine gL (.map ?_)|refine af.nrm ?_)<;>conv=>whnf
 unfold rJ;rw[decide_eq_true hl,Za];refine ep (by simp) ?_
 conv=>whnf
 repeat' (first|refine gC (gD (cJ ?_))|refine gL (.map ?_))<;>conv=>whnf
 refine aw.by (fb:=true) (λ_ (j:Nat)=>⟨[(0,.sl .no (l.map Bnd.av)),(8,.int .i64 (l.length:Int)),(9,.int .i64 (j:Int))],[],0⟩) (λj=>j<=l.length/\(l.drop j).all (λx=>x.t.small)=l.all λx=>x.t.small) (λj=>l.length-j) 0 ⟨ZJ _,rfl⟩ ?_ ?_
 .exact au
 .rintro j ⟨q1,q2⟩
  by_cases hj:j<l.length
  .obtain ⟨x,hx⟩:∃x,l[j]? =some x:=⟨_,ZA hj⟩;rw[ZH hj,(ZB.1 hx).2,Yp] at q2;have hs:=vJ x.t
   cases hc:x.t.small with
   |true=>
    rw[hc] at hs;rw[hc,Za] at q2
    conv=>whnf
    repeat' (first|refine gF (ab.fn (hs) ?_)|(refine gC ?_;first|refine cY ?_|refine .not ?_|refine gD (cI ?_))|refine gW (wI ?_)|refine gI (gM (iE ?_)))<;>conv=>whnf
    refine⟨j+1,⟨⟨hj,q2⟩,by omega⟩,?_⟩
    exact au
   |false=>
    rw[hc] at hs;rw[hc,Zu] at q2;rw[<-q2]
    conv=>whnf
    repeat' (first|refine gF (ab.fn (hs) ?_)|(refine gC ?_;first|refine cN ?_|refine .not ?_|refine gD (cI ?_))|refine gI (gM (iE ?_))|refine af.nrm ?_)<;>conv=>whnf
  .obtain rfl:j=l.length:=by omega
   rw[Zj,XE] at q2;rw[<-q2]
   conv=>whnf
   repeat' (first|refine gC (gD (cJ ?_))|refine af.nrm ?_)<;>conv=>whnf
theorem AF(b:List Bnd):Tm.ai (a8 b)<=1*b.length:=by
 have h:=kO (n:=1) (l:=a8 b) λt ht=>by
  obtain⟨x,hx,rfl⟩:=Zk.1 ht;simp[az,Tm.nodes,Tm.ai]
 have e:(a8 b).length=b.length:=ZF ..;rw[e] at h;exact h
theorem TS.Kb{b:List Bnd}{s t:Tm}(hb:rJ b=true)(hs:s.small=true)(ht:t.small=true):TS b s t:=by
 unfold rJ at hb;rw[ZD] at hb;have hl:b.length<=30:=of_decide_eq_true hb.1;have hx:∀x∈b,x.t.nodes<=1000:=λx hx=>mN (ZS.1 hb.2 x hx);have ns:=mN hs;have nt:=mN ht;have h1:=AF b
 have h2:Tm.ai (aH b)<=1000*(aH b).length:=kO λt ht=>by
  obtain⟨x,hm,rfl⟩:=Zk.1 ht;exact hx x hm
 have e2:(aH b).length=b.length:=ZF ..;rw[e2] at h2;refine⟨λx hm=>?_,by omega,by omega,by omega,?_⟩
 .have:=hx x hm;have:=zw x.t;omega
 .rw [cX,cX];omega
set_option maxHeartbeats 4000000 in
theorem LA(b:List Bnd)(s t:Tm):Fun Tryz.prog 4 [.sl .no (b.map Bnd.av),s.avw,t.avw] (.bool true):=by
 have fb:=H5 b;have sa:=vJ s;have sb:=vJ t
 cases hb:rJ b with
 |false=>
  rw[hb] at fb;refine Fun.of (Lk (by simp) ?_) rfl rfl
  conv=>whnf
  repeat' (first|(refine gF ?_;first|refine ab.fn (fb) ?_|refine ab.fn (l6) ?_)|(refine gC ?_;first|refine cY ?_|refine cN ?_|refine .not ?_))<;>conv=>whnf
  refine af.lay [] oko ?_
  conv=>whnf
  repeat' refine af.nrm ?_<;>conv=>whnf
 |true=>
 rw[hb] at fb
 cases hs:s.small with
 |false=>
  rw[hs] at sa;refine Fun.of (Lk (by simp) ?_) rfl rfl
  conv=>whnf
  repeat' (first|(refine gF ?_;first|refine ab.fn (fb) ?_|refine ab.fn (sa) ?_|refine ab.fn (l6) ?_)|(refine gC ?_;first|refine cY ?_|refine cN ?_|refine .not ?_))<;>conv=>whnf
  refine af.lay [] oko ?_
  conv=>whnf
  repeat' refine af.nrm ?_<;>conv=>whnf
 |true=>
 rw[hs] at sa
 cases ht:t.small with
 |false=>
  rw[ht] at sb;refine Fun.of (Lk (by simp) ?_) rfl rfl
  conv=>whnf
  repeat' (first|(refine gF ?_;first|refine ab.fn (fb) ?_|refine ab.fn (sa) ?_|refine ab.fn (sb) ?_|refine ab.fn (l6) ?_)|(refine gC ?_;first|refine cY ?_|refine cN ?_|refine .not ?_))<;>conv=>whnf
  refine af.lay [] oko ?_
  conv=>whnf
  repeat' refine af.nrm ?_<;>conv=>whnf
 |true=>
 rw[ht] at sb;obtain⟨c,l,e,k1,k2⟩:=LD (TS.Kb hb hs ht);have s1:=zM c c;rw[oP] at s1;have i1:=zt l;refine Fun.of (Lk (by simp) ?_) rfl rfl
 conv=>whnf
 repeat' (first|(refine gF ?_;first|refine ab.fn (fb) ?_|refine ab.fn (sa) ?_|refine ab.fn (sb) ?_|refine ab.fn (k1) ?_|refine ab.fn (k2) ?_|refine ab.fn (s1) ?_|refine ab.fn (i1) ?_|refine ab.fn (l6) ?_)|(refine gC ?_;first|refine cY ?_|refine .not ?_|refine gD (cI ?_)))<;>conv=>whnf
 refine af.lay [] oko ?_
 conv=>whnf
 repeat' refine af.nrm ?_<;>conv=>whnf
 all_goals rfl
end Go.CK
namespace Go.CK
open Go.AM Go.Proofs
theorem Lz{b:List Bd}{s t:Tm}:Fun Tryz.prog 4 [slA Bd.av b,s.av,t.av] (.bool true):=by
 have h:=LA (b.map Bd.bnd) s t;rw[List.map_map] at h;rw[Tm.nK,Tm.nK];exact h
end Go.CK
namespace Go.CK
open Go.AM Go.Proofs
end Go.CK
namespace Go.CK
open Go.AM Go.Proofs
end Go.CK
namespace Go.CK
open Go.RowKit Go.AM
def sF(M:Hp):List AV->List Value->Prop
 |[],[]=>True
 |x::xs,v::vs=>FV M x v/\sF M xs vs
 |_,_=>False
theorem sF.len{M:Hp}:∀{xs:List AV} {vs:List Value},sF M xs vs->vs.length=xs.length
 |[],[],_=>rfl
 |_::xs,_::vs,h=>by simp[sF.len h.2]
 |[],_::_,h=>h.elim
 |_::_,[],h=>h.elim
theorem sF.get{M:Hp}:∀{xs:List AV} {vs:List Value},sF M xs vs->∀j (h:j<xs.length) v,vs[j]? =some v->FV M xs[j] v
 |[],[],_,j,h,_,_=>by cases h
 |_::xs,_::vs,h,0,_,v,hv=>by
  simp only[Yq,ZN] at hv
  subst hv;exact h.1
 |_::xs,_::vs,h,j+1,hj,v,hv=>sF.get h.2 j (by simpa using hj) v (by simpa using hv)
 |[],_::_,h,_,_,_,_=>h.elim
 |_::_,[],h,_,_,_,_=>h.elim
theorem Fun.calls{P:Program}{f:FuncId}{vals:List AV}{b:Bool}(h:Fun P f vals (.bool b)){w:World}{args:List Value}(ha:sF (Hp.of w) vals args):
  Calls P f args.toArray w λe w'=>e=.returned (.bool b)/\Ext w w':=by
 refine(((h []).mono (Q':=λr _=>r=.bool b) λr bs hq=>hq.1).calls (Hp.le_refl _) ha.len ha.get).mono ?_;rintro e w' ⟨v,r,bs',M',σ,n,rfl,rfl,hv,hx,_⟩;exact⟨by rw[hv.cB],hx⟩
end Go.CK
namespace Go.CK
open Go.RowKit Go.Proofs Go.ChangeShapes Go.WideShapes Go.ChangeAt
open Go.Proofs.YtahnpgfkkngimaaGreat.Rows (uptoBulk uptoBulkAll uptoSmall)
theorem Bs{H:Type}(d:DataW H):1<=uptoBulk d:=by
 cases d with
 |lit l=>cases l<;>simp[uptoBulk]
 |nil=>simp[uptoBulk]
 |ptr d=>simp[uptoBulk]
 |slice elems spare=>simp[uptoBulk]
 |agg parts=>simp[uptoBulk]
 |iface t d=>simp[uptoBulk]
 |map entries=>simp[uptoBulk]
 |held h=>simp[uptoBulk]
theorem om{H:Type}{d:DataW H}{l:List (DataW H)}(h:d∈l):uptoBulk d<=uptoBulkAll l:=by
 induction l with
 |nil=>cases h
 |cons x r ih=>
  simp only[uptoBulkAll]
  cases ZI.1 h with
  |inl e=>subst e;omega
  |inr e=>have:=ih e;omega
theorem HI{H:Type}(l:List (DataW H)):l.length<=uptoBulkAll l:=by
 induction l with
 |nil=>simp[uptoBulkAll]
 |cons x r ih=>have:=Bs x;simp only[uptoBulkAll,ZX];omega
theorem C3{H:Type}{l:List (DataW H)}(hk:uptoSmall H l=true):uptoBulkAll l<=1048576:=of_decide_eq_true hk
section
variable{H:Type}{enc:TypeId×Value->H}{P:Program}{W:World}{spare:Nat->Bool}{held:Bool}
theorem Ju{α:Type}{T e:TypeId}{sz N:Nat}(hu:P.underlying T=some (.slice e))(hsz:P.cellsOf e=sz)(hp:0<sz)(R:List Value->α->Prop)(hN:N<=1048576)
  (ih:∀(cs:List Value) (d:DataW H) (ps:List MemPlace) (fuel:Nat),DataW.trod enc P W 0 spare held fuel e cs=some (d,ps)->uptoBulk d<N->∃x,R cs x)
  {fuel:Nat} {cs:List Value} {d:DataW H} {ps:List MemPlace} (h:DataW.trod enc P W 0 spare held fuel T cs=some (d,ps)) (hb:uptoBulk d<=N):
  ∃(a:Option Addr) (l:List α) (cap:Nat),cs=[.slice a l.length cap]/\l.length<=cap/\Sl (Hp.of W) sz R a l/\l.length<=N:=by
 subst hsz;rcases Deep.open_slice hu h with ⟨rfl,_⟩|⟨a,len,cap,m,n,D,Pl,rfl,_,hlc,_,hm,hx,hel⟩
 .exact ⟨none,[],0,rfl,by simp,Sl.nil,by simp⟩
 .simp only[Prod.mk.injEq] at hx;obtain⟨rfl,_⟩:=hx;have hlm:len<=m:=by rw[hm];split<;>omega
  simp only[uptoBulk] at hb;have hlen:=HI ((List.range len).map D);rw[ZF,Yu] at hlen
  have hD:∀i,i<len->∃x cs',W.cells? 0 (a.add (i*P.cellsOf e)) (P.cellsOf e)=some cs'/\R cs' x:=λi hi=>by
   obtain⟨cs',h1,h2⟩:=hel i (by omega)
   have hbi:uptoBulk (D i)<=uptoBulkAll ((List.range len).map D):=om (Zk.2 ⟨i,by simpa using hi,rfl⟩)
   obtain⟨x,hx⟩:=ih cs' (D i) (Pl i) n h2 (by omega)
   exact⟨x,cs',h1,hx⟩
  refine⟨some a,List.ofFn (λi:Fin len=>(hD i.1 i.2).choose),cap,by simp,by simpa using hlc,⟨by simp[lim];omega,λi hi=>?_⟩,by simp;omega⟩
  rw[List.length_ofFn] at hi
  have hspot:a.spot=none:=by
   obtain⟨cs',h1,_⟩:=hel 0 (by omega)
   obtain⟨_,h2,h3⟩:=World.cells?_some h1;have h4:=h3 0 hp;rw[ZA (by omega)] at h4
   simp only[Nat.zero_mul] at h4;have h5:(a.add 0).add 0=a:=by simp[Addr.add]
   rw[h5] at h4
   cases hs:a.spot with
   |none=>rfl
   |some k=>
    simp only[World.cell?,hs] at h4;split at h4<;>simp at h4
  obtain⟨cs',h1,h2⟩:=(hD i hi).choose_spec;obtain⟨_,h3,h4⟩:=World.cells?_some h1;have ha:a=⟨a.block,a.off,none⟩:=by cases a;simp only at hspot;subst hspot;rfl
  refine⟨a.block,a.off,cs',by rw[<-ha],h3,λj x hj=>?_,by simpa using h2⟩
  have hj2:j<P.cellsOf e:=by rw[<-h3];exact(ZB.1 hj).1
  have h5:=h4 j hj2;rw[Deep.add_add] at h5
  have h6:a.add (i*P.cellsOf e+j)=⟨a.block,a.off+i*P.cellsOf e+j,none⟩:=by
   unfold Addr.add;split
   .rename_i h0;rw[ha];simp;omega
   .simp
  rw[h6,hj] at h5;exact h5
end
theorem Bm:Tryz.prog.cellsOf 3=1:=by kernel_rfl
theorem HG:Tryz.prog.cellsOf 9=1:=by kernel_rfl
theorem HF:Tryz.prog.cellsOf 24=1:=by kernel_rfl
theorem y9:Tryz.prog.cellsOf 26=4:=by kernel_rfl
section
variable{H:Type}{enc:TypeId×Value->H}{W:World}{spare:Nat->Bool}{held:Bool}
theorem CL{fuel:Nat}{cs:List Value}{d:DataW H}{ps:List MemPlace}(h:DataW.trod enc Tryz.prog W 0 spare held fuel 3 cs=some (d,ps)):∃n,cs=[.int .i64 n]/\bW n:=by
 obtain⟨n,h1,_,h3⟩:=DataW.trod_int Tryz.underlying3 h;exact⟨n,h1,bW.K2 h3⟩
theorem JP{N fuel:Nat}{cs:List Value}{d:DataW H}{ps:List MemPlace}(h:DataW.trod enc Tryz.prog W 0 spare held fuel 9 cs=some (d,ps))(hb:uptoBulk d<=N):∃s:ByteArray,cs=[.string s]/\s.size<=N:=by
 obtain⟨s,h1,h2,_⟩:=DataW.trod_string Tryz.underlying9 h;simp only[Prod.mk.injEq] at h2;obtain⟨rfl,_⟩:=h2;have e:s.data.toList.length=s.size:=by rw[YH];rfl
 simp only[uptoBulk] at hb;exact⟨s,h1,by omega⟩
theorem F1:∀(N:Nat),N<=1048576->∀(cs:List Value) (d:DataW H) (ps:List MemPlace) (fuel:Nat),DataW.trod enc Tryz.prog W 0 spare held fuel 26 cs=some (d,ps)->uptoBulk d<=N->∃t,RTm (Hp.of W) cs t:=by
 intro N
 induction N using Nat.strongRecOn with
 |_ N ih=>
 intro hN cs d ps fuel h hb;obtain⟨y0,y1,y2,y3,n,hx,hl,h0,h1,h2,h3⟩:=Joins.trod_struct4 Tryz.underlying26 h;simp only[Prod.mk.injEq] at hx;obtain⟨rfl,_⟩:=hx;rw[y9] at hl
 match cs,hl with
 |[c0,c1,c2,c3],_=>
  simp only[Bm,HG,HF,Xe,List.drop_succ_cons,XO,YJ] at h0 h1 h2 h3;simp only[uptoBulk,uptoBulkAll] at hb;have:=Bs y3.1;obtain⟨k,e0,ik⟩:=CL h0;obtain⟨m,e1,im⟩:=CL h1;obtain⟨s,e2,is⟩:=JP (N:=N) h2 (by omega)
  obtain⟨a,l,cap,e3,hlc,hsl,_⟩:=Ju (N:=N-1) Tryz.underlying24 y9 (by omega) (RTm (Hp.of W)) (by omega) (λcs d ps fuel h hb=>ih (N-1) (by omega) (by omega) cs d ps fuel h (by omega)) h3 (by omega)
  simp only[XH,and_true] at e0 e1 e2 e3;subst e0;subst e1;subst e2;subst e3;exact⟨.mk k m s l,RTm.intro ik im (by unfold lim;omega) hlc hsl⟩
end
end Go.CK
namespace Go.CK
open Go.RowKit Go.Proofs Go.ChangeShapes Go.WideShapes Go.ChangeAt
open Go.Proofs.YtahnpgfkkngimaaGreat.Rows (uptoBulk uptoBulkAll uptoSmall)
section
variable{H:Type}{enc:TypeId×Value->H}{W:World}{spare:Nat->Bool}{held:Bool}
theorem Bl:Tryz.prog.cellsOf 56=5:=by kernel_rfl
theorem Ld(N:Nat)(hN:N<=1048576)(cs:List Value)(d:DataW H)(ps:List MemPlace)(fuel:Nat)(h:DataW.trod enc Tryz.prog W 0 spare held fuel 56 cs=some (d,ps))(hb:uptoBulk d<=N):∃x,RBd (Hp.of W) cs x:=by
 obtain⟨y0,y1,n,hx,hl,h0,h1⟩:=trod_struct2 Tryz.underlying56 h;simp only[Prod.mk.injEq] at hx;obtain⟨rfl,_⟩:=hx;rw[Bl] at hl
 match cs,hl with
 |[c0,c1,c2,c3,c4],_=>
  simp only[Bm,y9,Xe,List.drop_succ_cons,XO,YJ] at h0 h1;simp only[uptoBulk,uptoBulkAll] at hb;obtain⟨v0,e0,i0⟩:=CL h0;obtain⟨v1,e1⟩:=F1 N hN _ _ _ _ h1 (by omega)
  simp only[XH,and_true] at e0;subst e0;exact⟨⟨v0,v1⟩,_,rfl,i0,e1⟩
theorem Kn(N:Nat)(hN:N<=1048576)(cs:List Value)(d:DataW H)(ps:List MemPlace)(fuel:Nat)(h:DataW.trod enc Tryz.prog W 0 spare held fuel 23 cs=some (d,ps))(hb:uptoBulk d<=N):∃x,RSl 5 RBd (Hp.of W) cs x:=by
 obtain⟨a,l,k,e,h1,h2,_⟩:=Ju (N:=N) Tryz.underlying23 Bl (by omega) (RBd (Hp.of W)) hN (λcs d ps fuel h hb=>Ld N hN cs d ps fuel h (by omega)) h hb
 exact⟨l,a,k,e,h1,h2⟩
end
end Go.CK
namespace Go.CK
open Go.RowKit Go.Proofs Go.ChangeShapes Go.WideShapes Go.ChangeAt Go.AM
open Go.Proofs.YtahnpgfkkngimaaGreat.Rows (uptoBulk uptoBulkAll uptoSmall)
section
variable{H:Type}{enc:TypeId×Value->H}{W:World}{spare:Nat->Bool}{held:Bool}
end
end Go.CK
