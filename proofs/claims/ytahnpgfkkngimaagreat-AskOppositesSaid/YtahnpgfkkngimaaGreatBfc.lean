/-
  Texts of this aQ joined (wip/gen/bundle.py),those declarations only that are needed:AskE AskF AskG AskH AskI AskJ AskK AskL AskM AskN FunC. By an AI agent.
-/
import Derived.Test.YtahnpgfkkngimaaGreatBfb
set_option linter.unusedSimpArgs false
set_option linter.unusedVariables false
set_option maxRecDepth 100000
namespace Go.CK
open Go.AM Go.Proofs
def Oz(op:Int)(a b:Tm)(u:Bool):Int:=
 if op=11 then (if a.kind=1 then 0 else NO (decide (a.kind=0)))
 else if op=12 then (if a.gnd=true then 1 else 0)
 else if op=5\/op=6 then (if a.cmp b=0 then NO (decide (op=5)) else if u=true then 0 else NO (decide (op=6)))
 else N3 op a b
def arg(g:Gl)(i:Nat):Tm:=g.args.getD i (.mk 0 0 ⟨⟨[]⟩⟩ [])
def NF(g:Gl)(u:Bool):Int:=if g.test=true then Oz g.op (arg g 0) (arg g 1) u else NO (decide (g.op=1)&&g.right)
def MQ(g:Gl):Int:=NF g (uni (arg g 0) (arg g 1))
theorem NV{g:Gl}(h:g.test=true):(5<=g.op/\g.op<=12)/\(g.args.length:Int)=arG g.op:=by
 unfold Gl.test at h;rw[ZD,decide_eq_true_eq] at h;refine⟨h.1,?_⟩;have h2:=h.2;unfold Gl.right at h2;rw[if_neg (by omega)] at h2
 simp only[ZD,decide_eq_true_eq] at h2;exact h2.2.2.1
theorem MK{g:Gl}{i:Nat}(h:i<g.args.length):g.args[i]? =some (arg g i):=by
 unfold arg;rw[List.getD_eq_getElem?_getD,ZA h];rfl
theorem MS(g:Gl)(i:Nat):(arg g i).nodes<=Tm.ai g.args+1:=by
 by_cases h:i<g.args.length
 .have:=kP (ZE (MK h));omega
 .unfold arg;rw[List.getD_eq_getElem?_getD,ZR (by omega)]
  simp[Tm.nodes,Tm.ai]
theorem Nk(g:Gl)(u:Bool)(hl:g.args.length<=4000000000)(hu0:Fun Tryz.prog 60 [(arg g 0).avw,(arg g 1).avw] (.bool u)):Fun Tryz.prog 24 [g.av] (.int .i64 (NF g u)):=by
 have hte:=Ni g (by omega)
 have hrg:=M9 g (by omega)
 unfold NF
 cases ht:g.test with
 |false=>
  rw[ht] at hte;rw[if_neg YY]
  by_cases h1:g.op=1
  .rw [decide_eq_true h1,Za];refine Fun.of (LO (by simp) ?_) rfl rfl
   conv=>whnf
   repeat' (first|(refine gF ?_;first|refine ab.fn (hte) ?_|refine ab.fn (hrg) ?_|refine ab.fn (LP _) ?_)|(refine gC ?_;first|refine cN ?_|refine .not ?_|refine gD (cI ?_))|refine af.nrm ?_)<;>conv=>whnf
   all_goals rfl
  .rw [decide_eq_false h1,Zu];refine Fun.of (LO (by simp) ?_) rfl rfl
   conv=>whnf
   repeat' (first|(refine gF ?_;first|refine ab.fn (hte) ?_|refine ab.fn (LP _) ?_)|(refine gC ?_;first|refine cN ?_|refine .not ?_|refine gD (cJ ?_))|refine af.nrm ?_)<;>conv=>whnf
   all_goals rfl
 |true=>
 rw[ht] at hte;rw[if_pos rfl];obtain⟨hop,hlen⟩:=NV ht;unfold arG at hlen;rw[if_neg (by omega)] at hlen
 unfold Oz;have hg0:0<g.args.length:=by split at hlen<;>omega
 have a0:=MK hg0;have ga:=Nb (arg g 0)
 by_cases h11:g.op=11
 .rw [if_pos h11]
  by_cases hk:(arg g 0).kind=1
  .rw [if_pos hk];refine Fun.of (LO (by simp) ?_) rfl rfl
   conv=>whnf
   repeat' (first|refine gF (ab.fn (hte) ?_)|(refine gC ?_;first|refine cY ?_|refine .not ?_|refine gD (cI ?_))|refine gI (gT (iA ?_))|refine af.nrm ?_)<;>conv=>whnf
   all_goals rfl
  .rw [if_neg hk];refine Fun.of (LO (by simp) ?_) rfl rfl
   conv=>whnf
   repeat' (first|(refine gF ?_;first|refine ab.fn (hte) ?_|refine ab.fn (LP _) ?_)|(refine gC ?_;first|refine cY ?_|refine .not ?_|(refine gD ?_;first|refine cI ?_|refine cJ ?_))|refine gI (gT (iA ?_))|refine af.nrm ?_)<;>conv=>whnf
   all_goals rfl
 rw[if_neg h11]
 by_cases h12:g.op=12
 .rw [if_pos h12]
  cases hgn:(arg g 0).gnd with
  |true=>
   rw[show decide ((arg g 0).vs=[])=(arg g 0).gnd from rfl,hgn] at ga;rw[if_pos rfl];refine Fun.of (LO (by simp) ?_) rfl rfl
   conv=>whnf
   repeat' (first|(refine gF ?_;first|refine ab.fn (hte) ?_|refine ab.fn (ga) ?_)|(refine gC ?_;first|refine cY ?_|refine .not ?_|(refine gD ?_;first|refine cI ?_|refine cJ ?_))|refine gI (gT (iA ?_))|refine af.nrm ?_)<;>conv=>whnf
   all_goals rfl
  |false=>
   rw[show decide ((arg g 0).vs=[])=(arg g 0).gnd from rfl,hgn] at ga;rw[if_neg YY];refine Fun.of (LO (by simp) ?_) rfl rfl
   conv=>whnf
   repeat' (first|(refine gF ?_;first|refine ab.fn (hte) ?_|refine ab.fn (ga) ?_)|(refine gC ?_;first|refine cY ?_|refine cN ?_|refine .not ?_|(refine gD ?_;first|refine cI ?_|refine cJ ?_))|refine gI (gT (iA ?_))|refine af.nrm ?_)<;>conv=>whnf
   all_goals rfl
 rw[if_neg h12];rw[if_neg (by omega)] at hlen
 have hg1:1<g.args.length:=by omega
 have a1:=MK hg1;have hsa:=zz (arg g 0) (arg g 1);have hun:=hu0;have hco:=N2 g.op (arg g 0) (arg g 1)
 by_cases h56:g.op=5\/g.op=6
 rotate_left
 .rw [if_neg h56];refine Fun.of (LO (by simp) ?_) rfl rfl
  conv=>whnf
  repeat' (first|refine gF (ab.fn (hte) ?_)|refine gG (aM.fn (hco) ?_)|(refine gC ?_;first|refine cY ?_|refine .not ?_|refine gD (cJ ?_))|refine gI (gT (iA ?_))|refine af.nrm ?_)<;>conv=>whnf
  all_goals rfl
 rw[if_pos h56]
 by_cases hc:(arg g 0).cmp (arg g 1)=0
 .rw [if_pos hc];rw[decide_eq_true hc] at hsa;rcases h56 with h5|h5
  .rw [decide_eq_true h5];refine Fun.of (LO (by simp) ?_) rfl rfl
   conv=>whnf
   repeat' (first|(refine gF ?_;first|refine ab.fn (hte) ?_|refine ab.fn (LP _) ?_)|refine gG (aM.fn (hsa) ?_)|(refine gC ?_;first|refine cY ?_|refine .not ?_|(refine gD ?_;first|refine cI ?_|refine cJ ?_))|refine gI (gT (iA ?_))|refine af.nrm ?_)<;>conv=>whnf
   all_goals (rw[h5];rfl)
  .rw [decide_eq_false (show¬g.op=5 by omega)]
   refine Fun.of (LO (by simp) ?_) rfl rfl
   conv=>whnf
   repeat' (first|(refine gF ?_;first|refine ab.fn (hte) ?_|refine ab.fn (LP _) ?_)|refine gG (aM.fn (hsa) ?_)|(refine gC ?_;first|refine cY ?_|refine .not ?_|(refine gD ?_;first|refine cI ?_|refine cJ ?_))|refine gI (gT (iA ?_))|refine af.nrm ?_)<;>conv=>whnf
   all_goals (rw[h5];rfl)
 rw[if_neg hc];rw[decide_eq_false hc] at hsa
 cases hu:u with
 |true=>
  rw[hu] at hun;rw[if_pos rfl];refine Fun.of (LO (by simp) ?_) rfl rfl
  conv=>whnf
  repeat' (first|refine gF (ab.fn (hte) ?_)|(refine gG ?_;first|refine aM.fn (hsa) ?_|refine aM.fn (hun) ?_)|(refine gC ?_;first|refine cY ?_|refine cN ?_|refine .not ?_|(refine gD ?_;first|refine cI ?_|refine cJ ?_)|refine aq.dec (λhc=>?_) (λhc=>?_))|refine gI (gT (iA ?_))|refine af.nrm ?_)<;>conv=>whnf
  all_goals rfl
 |false=>
  rw[hu] at hun;rw[if_neg YY];rcases h56 with h5|h5
  .rw [decide_eq_false (show¬g.op=6 by omega)]
   refine Fun.of (LO (by simp) ?_) rfl rfl
   conv=>whnf
   repeat' (first|(refine gF ?_;first|refine ab.fn (hte) ?_|refine ab.fn (LP _) ?_)|(refine gG ?_;first|refine aM.fn (hsa) ?_|refine aM.fn (hun) ?_)|(refine gC ?_;first|refine cY ?_|refine cN ?_|refine .not ?_|(refine gD ?_;first|refine cI ?_|refine cJ ?_))|refine gI (gT (iA ?_))|refine af.nrm ?_)<;>conv=>whnf
   all_goals (rw[h5];rfl)
  .rw [decide_eq_true h5];refine Fun.of (LO (by simp) ?_) rfl rfl
   conv=>whnf
   repeat' (first|(refine gF ?_;first|refine ab.fn (hte) ?_|refine ab.fn (LP _) ?_)|(refine gG ?_;first|refine aM.fn (hsa) ?_|refine aM.fn (hun) ?_)|(refine gC ?_;first|refine cY ?_|refine cN ?_|refine .not ?_|(refine gD ?_;first|refine cI ?_|refine cJ ?_))|refine gI (gT (iA ?_))|refine af.nrm ?_)<;>conv=>whnf
   all_goals (rw[h5];rfl)
theorem M8(g:Gl)(hN:Tm.ai g.args<=10000)(hl:g.args.length<=4000000000):Fun Tryz.prog 24 [g.av] (.int .i64 (MQ g)):=by
 have n0:=MS g 0;have n1:=MS g 1;exact Nk g _ hl (Oy (a:=arg g 0) (b:=arg g 1) (by omega)).1
end Go.CK
set_option maxRecDepth 100000
namespace Go.CK
open Go.AM Go.Proofs
theorem Qk{x y:Int}:orI x y=0↔x=0/\y=0:=by
 unfold orI;split<;>omega
theorem Qf:∀(l m:List Tm),(∀x∈l,∀y:Tm,x.cmp y=0->y.cmp x=0)->Tm.nD l m=0->Tm.nD m l=0
 |[],[],_,_=>rfl
 |[],y::m,_,h=>by
  rw[Tm.nD,KB] at h
  simp only[ZX] at h;omega
 |x::l,[],_,h=>by rw[Tm.nD] at h;cases h
 |x::l,y::m,hx,h=>by
  rw[Tm.nD,Qk] at h|-;exact⟨hx x (by simp) y h.1,Qf l m (λz hz=>hx z (by simp[hz])) h.2⟩
theorem Qh(a:Tm):∀b:Tm,a.cmp b=0->b.cmp a=0:=by
 induction a using Tm.bD with
 |h k n s l ih=>
 intro b h;rw[Tm.cmp_eq] at h|-;rw[Qk,KB] at h;obtain⟨h1,h2⟩:=h;rw[Qk,KB];refine⟨h1.symm,?_⟩;rw[<-h1];split at h2
 .rename_i hc;rw[if_pos hc];rw[KB] at h2|-;exact h2.symm
 .rename_i hc;rw[if_neg hc];split at h2
  .rename_i hd;rw[if_pos hd];simp only[Qk,KB,PY] at h2|-;exact⟨h2.1.symm,h2.2.1.symm,Qf l b.args ih h2.2.2⟩
  .rename_i hd;rw[if_neg hd];simp only[Qk,KB,PY] at h2|-;exact⟨h2.1.symm,h2.2.1.symm,h2.2.2.symm⟩
def inK(b:List Bnd)(known:List Gl)(h:Gl):Bool:=h.test&&known.any λk=>(Nh b k).same h
def inG(b:List Bnd)(known:List Gl)(g:Gl)(r:Int):Int:=if inK b known (Nh b g)=true then 1 else r
theorem OS{b:List Bnd}{known:List Gl}{g:Gl}{r:Int}(hb:b.length<=4000000000)(hl:g.args.length<=4000000000)(hgN:Tm.ai g.args<=1000000)(hkN:∀x∈known,Tm.ai x.args<=1000000)(hT:Fun Tryz.prog 24 [(Nh b g).av] (.int .i64 r)):Fun Tryz.prog 32 [.sl .no (b.map Bnd.av),.sl .no (known.map Gl.av),g.av] (.int .i64 (inG b known g r)):=by
 refine Fun.of (Sem.assume λhg0 _=>?_) rfl rfl;have hg:=(bH (hg0 (.sl .no (known.map Gl.av)) (by simp) rfl)).1
 have ha:=M6 b g hgN hb;have ht:=Ni (Nh b g) (by show (g.args.map _).length<=_;rw[ZF];omega)
 unfold inG inK;generalize hh:Nh b g=h at ha ht hT
 cases htt:h.test with
 |false=>
  rw[htt] at ht;rw[Zu,if_neg YY];refine NH (by simp) ?_
  conv=>whnf
  repeat' (first|(refine gF ?_;first|refine ab.fn (ha) ?_|refine ab.fn (ht) ?_|refine ab.fn (hT) ?_)|refine gC (cN ?_)|refine af.nrm ?_)<;>conv=>whnf
  all_goals rfl
 |true=>
 rw[htt] at ht;rw[Za];refine NH (by simp) ?_
 conv=>whnf
 repeat' (first|(refine gF ?_;first|refine ab.fn (ha) ?_|refine ab.fn (ht) ?_)|refine gC (cY ?_)|refine gL (.map ?_))<;>conv=>whnf
 refine aw.by (fb:=true) (λ_ (j:Nat)=>⟨[(0,.sl .no (b.map Bnd.av)),(5,.ptr 0 0),(14,.sl .no (known.map Gl.av)),(15,.int .i64 (known.length:Int)),(16,.int .i64 (j:Int))],[.cells [.int .i64 h.op,.str h.name,.sl .no (h.args.map Tm.av)]],0⟩) (λj=>j<=known.length/\((known.drop j).any λk=>(Nh b k).same h)=known.any λk=>(Nh b k).same h) (λj=>known.length-j) 0 ⟨ZJ _,rfl⟩ ?_ ?_
 .exact au
 .rintro j ⟨q1,q2⟩
  by_cases hj:j<known.length
  .obtain ⟨x,hx⟩:∃x,known[j]? =some x:=⟨_,ZA hj⟩;rw[ZH hj,(ZB.1 hx).2,List.any_cons] at q2;have hs:=MM (Nh b x) h;have hax:=M6 b x (hkN x (ZE hx)) hb
   cases hc:(Nh b x).same h with
   |true=>
    rw[hc] at hs;rw[hc,Bool.true_or] at q2;rw[<-q2,if_pos rfl]
    conv=>whnf
    repeat' (first|(refine gG ?_;first|refine aM.fn (hax) ?_|refine aM.fn (hs) ?_)|(refine gC ?_;first|refine cY ?_|refine gD (cI ?_))|refine gI (gM (iE ?_))|refine af.nrm ?_)<;>conv=>whnf
    all_goals rfl
   |false=>
    rw[hc] at hs;rw[hc,Bool.false_or] at q2
    conv=>whnf
    repeat' (first|(refine gG ?_;first|refine aM.fn (hax) ?_|refine aM.fn (hs) ?_)|(refine gC ?_;first|refine cN ?_|refine gD (cI ?_))|refine gW (wI ?_)|refine gI (gM (iE ?_)))<;>conv=>whnf
    refine⟨j+1,⟨⟨hj,q2⟩,by omega⟩,?_⟩
    refine ah.lay [some 0] oko ?_
    conv=>whnf
    exact au
  .obtain rfl:j=known.length:=by omega
   rw[Zj,List.any_nil] at q2;rw[<-q2,if_neg YY]
   conv=>whnf
   repeat' (first|refine gF (ab.fn (hT) ?_)|refine gC (gD (cJ ?_))|refine af.nrm ?_)<;>conv=>whnf
   all_goals rfl
end Go.CK
set_option maxRecDepth 100000
namespace Go.CK
open Go.AM Go.Proofs
end Go.CK
set_option maxRecDepth 100000
namespace Go.CK
open Go.AM Go.Proofs
def ruB(x y:Int)(c:Bool):Bool:=match c with
 |false=>decide (x=7/\y=8\/x=7/\y=10\/x=9/\y=8)
 |true=>decide (x=7/\y=10\/x=9/\y=8\/x=9/\y=9\/x=10/\y=10\/x=5/\y=5\/x=6/\y=6)
theorem Nn{cs:List AV}{ks:List FK}:∀{l:List (List AV×AV)} {b:Bool},(∀e∈l,e.2=.bool true/\∃q,mC ks cs e.1=some q)->(b=true↔∃e∈l,mC ks cs e.1=some true)->MN ks cs l=some (match b with|true=>some (.bool true)|false=>none)
 |[],b,_,hb=>by
  cases b with
  |true=>obtain⟨e,he,_⟩:=hb.1 rfl;cases he
  |false=>rfl
 |(k,x)::l,b,h,hb=>by
  obtain⟨h1,q,h2⟩:=h _ (ZV ..);dsimp only at h1 h2;simp only[MN,h2]
  cases q with
  |true=>
   have:b=true:=hb.2 ⟨_,ZV ..,h2⟩
   rw[this,h1]
  |false=>
   refine Nn (λe he=>h e (ZQ _ he)) (hb.trans ⟨?_,?_⟩)
   .rintro ⟨e,he,h3⟩;rcases ZI.1 he with rfl|he
    .rw [h2] at h3;cases h3
    .exact ⟨e,he,h3⟩
   .rintro ⟨e,he,h3⟩;exact⟨e,ZQ _ he,h3⟩
theorem OR(x y a b:Int)(c d:Bool):mC [.i,.i,.b] (kk x y c) (kk a b d)=some (decide (x=a)&&(decide (y=b)&&(decide (c=d)&&true))):=rfl
theorem OL{k:List AV}(h:k∈RKs):∃a b c,k=kk a b c:=by
 simp only[RKs,ZI,Xg,or_false] at h;rcases h with rfl|rfl|rfl|rfl|rfl|rfl|rfl|rfl|rfl<;>exact⟨_,_,_,rfl⟩
theorem N9{l:List (List AV×AV)}(h:NQ l)(x y:Int)(c:Bool):MN [.i,.i,.b] (kk x y c) l=some (match ruB x y c with|true=>some (.bool true)|false=>none):=by
 refine Nn (λe he=>⟨(h.1 e he).1,?_⟩) ?_
 .obtain ⟨a,b,d,hk⟩:=OL (h.1 e he).2;rw[hk];exact⟨_,OR ..⟩
 .have h1:(∃e∈l,mC [.i,.i,.b] (kk x y c) e.1=some true)↔∃k∈RKs,mC [.i,.i,.b] (kk x y c) k=some true:=by
   constructor
   .rintro ⟨e,he,h3⟩;exact⟨e.1,(h.1 e he).2,h3⟩
   .rintro ⟨k,hk,h3⟩;obtain⟨e,he,rfl⟩:=h.2 k hk;exact⟨e,he,h3⟩
  rw[h1];simp only[RKs,ZI,Xg,or_false,exists_eq_or_imp,OR,exists_eq_left,ZN,Bool.and_true,ZD,decide_eq_true_eq];cases c<;>simp[ruB]
theorem No{l:List (List AV×AV)}(h:NQ l):Oq l:=λe he=>by
 obtain⟨h1,h2⟩:=h.1 e he;obtain⟨a,b,d,hk⟩:=OL h2;rw[h1,hk];exact⟨rfl,rfl⟩
theorem SgN.rules{s:St}{m k:AV}{K:AV->Prop}{l:List (List AV×AV)}(h:NQ l)(b:Nat)(x y:Int)(c:Bool)(hm:m=.mpt b)(hk:k=.agg (kk x y c))(hb:s.bs[b]? =some (.loop (mLB (skE 0 l) l.length)))(hK:K (.bool (ruB x y c))):SgN [.i,.i,.b] false (.bool false) s m k K:=by
 have hf:=N9 h x y c
 cases hr:ruB x y c with
 |true=>
  rw[hr] at hf hK
  exact⟨b,kk x y c,l,_,some (.bool true),hm,hk,hb,rfl,⟨rfl,rfl⟩,No h,hf,λy hy=>by cases hy;exact hK,λe=>by cases e⟩
 |false=>
  rw[hr] at hf hK;exact⟨b,kk x y c,l,_,none,hm,hk,hb,rfl,⟨rfl,rfl⟩,No h,hf,(λy hy=>by cases hy),λ_=>hK⟩
def OY(a g:Gl):Bool:=decide ((arg a 0).cmp (arg g 0)=0)&&decide ((arg a 1).cmp (arg g 1)=0)
def O2(a g:Gl):Bool:=decide ((arg a 0).cmp (arg g 1)=0)&&decide ((arg a 1).cmp (arg g 0)=0)
def OO(a g:Gl):Bool:=
 if a.test=true/\g.test=true then
  if a.same g=true then true
  else if a.args.length=2/\g.args.length=2 then OY a g&&ruB a.op g.op false||O2 a g&&ruB a.op g.op true
  else false
 else false
set_option maxHeartbeats 2000000 in
theorem NA(a g:Gl)(hla:a.args.length<=4000000000)(hlg:g.args.length<=4000000000):Fun Tryz.prog 26 [a.av,g.av] (.bool (OO a g)):=by
 have ta:=Ni a (by omega)
 have tg:=Ni g (by omega)
 have sg:=MM a g;unfold OO
 cases hta:a.test with
 |false=>
  rw[hta] at ta;rw[if_neg (by simp)]
  refine Fun.of (LS (by simp) ?_) rfl rfl
  conv=>whnf
  repeat' (first|refine gF (ab.fn (ta) ?_)|(refine gC ?_;first|refine cY ?_|refine cN ?_|refine .not ?_)|refine af.nrm ?_)<;>conv=>whnf
 |true=>
 rw[hta] at ta
 cases htg:g.test with
 |false=>
  rw[htg] at tg;rw[if_neg (by simp)]
  refine Fun.of (LS (by simp) ?_) rfl rfl
  conv=>whnf
  repeat' (first|(refine gF ?_;first|refine ab.fn (ta) ?_|refine ab.fn (tg) ?_)|(refine gC ?_;first|refine cY ?_|refine cN ?_|refine .not ?_)|refine af.nrm ?_)<;>conv=>whnf
 |true=>
 rw[htg] at tg;rw[if_pos ⟨rfl,rfl⟩]
 cases hsg:a.same g with
 |true=>
  rw[hsg] at sg;rw[if_pos rfl];refine Fun.of (LS (by simp) ?_) rfl rfl
  conv=>whnf
  repeat' (first|(refine gF ?_;first|refine ab.fn (ta) ?_|refine ab.fn (tg) ?_|refine ab.fn (sg) ?_)|(refine gC ?_;first|refine cY ?_|refine .not ?_)|refine af.nrm ?_)<;>conv=>whnf
 |false=>
 rw[hsg] at sg;rw[if_neg YY]
 by_cases h2:a.args.length=2
 rotate_left
 .rw [if_neg (λe=>h2 e.1)];refine Fun.of (LS (by simp) ?_) rfl rfl
  conv=>whnf
  repeat' (first|(refine gF ?_;first|refine ab.fn (ta) ?_|refine ab.fn (tg) ?_|refine ab.fn (sg) ?_)|(refine gC ?_;first|refine cY ?_|refine cN ?_|refine .not ?_|refine gD (cJ ?_))|refine gL (.map ?_)|refine af.nrm ?_)<;>conv=>whnf
 by_cases h3:g.args.length=2
 rotate_left
 .rw [if_neg (λe=>h3 e.2)];refine Fun.of (LS (by simp) ?_) rfl rfl
  conv=>whnf
  repeat' (first|(refine gF ?_;first|refine ab.fn (ta) ?_|refine ab.fn (tg) ?_|refine ab.fn (sg) ?_)|(refine gC ?_;first|refine cY ?_|refine cN ?_|refine .not ?_|(refine gD ?_;first|refine cI ?_|refine cJ ?_))|refine gL (.map ?_)|refine af.nrm ?_)<;>conv=>whnf
 rw[if_pos ⟨h2,h3⟩];have a0:=MK (g:=a) (i:=0) (by omega)
 have a1:=MK (g:=a) (i:=1) (by omega)
 have g0:=MK (g:=g) (i:=0) (by omega)
 have g1:=MK (g:=g) (i:=1) (by omega)
 have s00:=zz (arg a 0) (arg g 0);have s11:=zz (arg a 1) (arg g 1);have s01:=zz (arg a 0) (arg g 1);have s10:=zz (arg a 1) (arg g 0);unfold OY O2;generalize decide ((arg a 0).cmp (arg g 0)=0)=b00 at s00;generalize decide ((arg a 1).cmp (arg g 1)=0)=b11 at s11;generalize decide ((arg a 0).cmp (arg g 1)=0)=b01 at s01;generalize decide ((arg a 1).cmp (arg g 0)=0)=b10 at s10;refine Fun.of (LS (by simp) ?_) rfl rfl
 conv=>whnf
 repeat' (first|(refine gF ?_;first|refine ab.fn (ta) ?_|refine ab.fn (tg) ?_|refine ab.fn (sg) ?_)|(refine gC ?_;first|refine cY ?_|refine cN ?_|refine .not ?_|refine gD (cI ?_))|refine gL (.map ?_))<;>conv=>whnf
 refine ab.raw (OB _) ?_;rintro r bs' ⟨l,hl,rfl,rfl⟩;cases b00<;>cases b11<;>cases b01<;>cases b10
 all_goals
  conv=>whnf
  repeat' (first|(refine gG ?_;first|refine aM.fn (s00) ?_|refine aM.fn (s11) ?_|refine aM.fn (s01) ?_|refine aM.fn (s10) ?_)|(refine gC ?_;first|refine cY ?_|refine cN ?_)|refine gI (gT (iA ?_)))<;>conv=>whnf
 all_goals try refine SgN.rules hl 2 a.op g.op _ rfl rfl rfl ?_
 all_goals
  conv=>whnf
  repeat' (refine gC ?_;first|refine cY ?_|refine cN ?_|(refine gD ?_;first|refine cI ?_|refine cJ ?_)|refine aq.dec (λhc=>?_) (λhc=>?_))<;>conv=>whnf
 all_goals try refine SgN.rules hl 2 a.op g.op _ rfl rfl rfl ?_
 all_goals
  conv=>whnf
  repeat' (first|(refine gC ?_;first|refine cY ?_|refine gD (cJ ?_))|refine af.nrm ?_)<;>conv=>whnf
 all_goals (simp_all[ruB]<;>omega)
end Go.CK
set_option maxRecDepth 100000
namespace Go.CK
open Go.AM Go.Proofs
def g2(op:Int)(x y:Tm):Gl:=⟨op,⟨⟨[]⟩⟩,[x,y]⟩
end Go.CK
set_option maxRecDepth 100000
namespace Go.CK
open Go.AM Go.Proofs
def MT(n:Int):Tm:=.mk 0 n ⟨⟨[]⟩⟩ []
theorem Ol(n:Int):Fun Tryz.prog 53 [.int .i64 n] (az n).avw:=by
 refine Fun.of (MG (by simp) ?_) rfl rfl
 conv=>whnf
 repeat' refine af.nrm ?_<;>conv=>whnf
 all_goals rfl
theorem NS(n:Int):Fun Tryz.prog 54 [.int .i64 n] (MT n).avw:=by
 refine Fun.of (MH (by simp) ?_) rfl rfl
 conv=>whnf
 repeat' refine af.nrm ?_<;>conv=>whnf
 all_goals rfl
theorem Om(s:ByteArray)(l:List Tm)(hl:l.length<=1000):Fun Tryz.prog 55 [.str s,.sl .no (l.map Tm.av)] (Tm.mk 2 0 s l).avw:=by
 refine Fun.of (MJ (by simp) ?_) rfl rfl
 conv=>whnf
 repeat' (first|refine gN (nS ?_)|refine af.nrm ?_)<;>conv=>whnf
 all_goals first|rfl|(simp [lim,glim];omega)
theorem L4(op:Int)(x y:Tm):Fun Tryz.prog 34 [.int .i64 op,x.avw,y.avw] (g2 op x y).av:=by
 refine Fun.of (MA (by simp) ?_) rfl rfl
 conv=>whnf
 repeat' refine af.nrm ?_<;>conv=>whnf
 all_goals (simp[g2,Gl.av,Tm.nK,Tm.avw])
theorem xu1:allI 10 100 [az 0] [.mk 2 0 ⟨⟨[102]⟩⟩ [az 0]]=some ([],13):=by kernel_rfl
theorem xu2:allI 10 100 [az 0] [.mk 2 0 ⟨⟨[97]⟩⟩ []]=some ([⟨0,.mk 2 0 ⟨⟨[97]⟩⟩ []⟩],0):=by kernel_rfl
theorem xe1:MQ (g2 7 (MT 3) (MT 5))=1:=by
 unfold MQ;generalize uni _ _=u;cases u<;>kernel_rfl
theorem xe2:MQ (g2 6 (az 0) (az 0))=2:=by
 unfold MQ;generalize uni _ _=u;cases u<;>kernel_rfl
theorem xe3:NF (g2 5 (az 0) (.mk 2 0 ⟨⟨[102]⟩⟩ [az 0])) false=2:=by kernel_rfl
theorem xe4:NF (g2 5 (az 0) (.mk 2 0 ⟨⟨[97]⟩⟩ [])) true=0:=by kernel_rfl
def xeb:List Bnd:=[⟨1,MT 5⟩]
def xek:List Gl:=[g2 7 (az 0) (az 1)]
theorem xe5:inG xeb xek (g2 7 (az 0) (MT 5)) (MQ (Nh xeb (g2 7 (az 0) (MT 5))))=1:=by
 unfold MQ;generalize uni _ _=u;cases u<;>kernel_rfl
theorem xe6:inG xeb xek (g2 7 (az 0) (MT 6)) (MQ (Nh xeb (g2 7 (az 0) (MT 6))))=0:=by
 unfold MQ;generalize uni _ _=u;cases u<;>kernel_rfl
theorem xe7:OO (g2 7 (az 0) (az 1)) (g2 8 (az 0) (az 1))=true:=by kernel_rfl
theorem xe8:OO (g2 7 (az 0) (az 1)) (g2 8 (az 1) (az 0))=false:=by kernel_rfl
set_option maxHeartbeats 4000000 in
theorem Nz:Fun Tryz.prog 23 [] (.bool true):=by
 have v0:=Ol 0;have v1:=Ol 1;have i5:=NS 5;have i3:=NS 3;have i6:=NS 6;have ff:=Om ⟨⟨[102]⟩⟩ [az 0] (by decide)
 have fa:=Om ⟨⟨[97]⟩⟩ [] (by decide)
 have k1:=L4 7 (az 0) (az 1);have k2:=L4 7 (MT 3) (MT 5);have k3:=L4 6 (az 0) (az 0);have k4:=L4 5 (az 0) (.mk 2 0 ⟨⟨[102]⟩⟩ [az 0]);have k5:=L4 5 (az 0) (.mk 2 0 ⟨⟨[97]⟩⟩ []);have k6:=L4 7 (az 0) (MT 5);have k7:=L4 7 (az 0) (MT 6);have k8:=L4 8 (az 0) (az 1);have k9:=L4 8 (az 1) (az 0);have t1:=M8 (g2 7 (MT 3) (MT 5)) (by decide) (by decide)
 rw[xe1] at t1;have t2:=M8 (g2 6 (az 0) (az 0)) (by decide) (by decide)
 rw[xe2] at t2;have u3:=ML ((rT _ _ _ _).trans xu1) (by decide)
 have t3:=Nk (g2 5 (az 0) (.mk 2 0 ⟨⟨[102]⟩⟩ [az 0])) false (by decide) u3
 rw[xe3] at t3;have u4:=ML ((rT _ _ _ _).trans xu2) (by decide)
 have t4:=Nk (g2 5 (az 0) (.mk 2 0 ⟨⟨[97]⟩⟩ [])) true (by decide) u4
 rw[xe4] at t4;have n1:=OS (b:=xeb) (known:=xek) (g:=g2 7 (az 0) (MT 5)) (by decide) (by decide) (by decide) (by decide) (M8 _ (by decide) (by decide))
 rw[xe5] at n1;have n2:=OS (b:=xeb) (known:=xek) (g:=g2 7 (az 0) (MT 6)) (by decide) (by decide) (by decide) (by decide) (M8 _ (by decide) (by decide))
 rw[xe6] at n2;have f1:=NA (g2 7 (az 0) (az 1)) (g2 8 (az 0) (az 1)) (by decide) (by decide)
 rw[xe7] at f1;have f2:=NA (g2 7 (az 0) (az 1)) (g2 8 (az 1) (az 0)) (by decide) (by decide)
 rw[xe8] at f2;refine Fun.of (L6 (by simp) ?_) rfl rfl
 conv=>whnf
 repeat' (first|(refine gF ?_;first|refine ab.fn (v0) ?_|refine ab.fn (v1) ?_|refine ab.fn (i5) ?_|refine ab.fn (k1) ?_)|(refine gG ?_;first|refine aM.fn (i3) ?_|refine aM.fn (i6) ?_|refine aM.fn (ff) ?_|refine aM.fn (fa) ?_|refine aM.fn (k2) ?_|refine aM.fn (k3) ?_|refine aM.fn (k4) ?_|refine aM.fn (k5) ?_|refine aM.fn (k6) ?_|refine aM.fn (k7) ?_|refine aM.fn (k8) ?_|refine aM.fn (k9) ?_|refine aM.fn (t1) ?_|refine aM.fn (t2) ?_|refine aM.fn (t3) ?_|refine aM.fn (t4) ?_|refine aM.fn (n1) ?_|refine aM.fn (n2) ?_|refine aM.fn (f1) ?_|refine aM.fn (f2) ?_)|(refine gC ?_;first|refine cY ?_|refine gD (cI ?_))|refine gI (iJ ?_)|refine af.nrm ?_)<;>conv=>whnf
 all_goals rfl
end Go.CK
set_option maxRecDepth 100000
namespace Go.CK
open Go.AM Go.Proofs
theorem PE{g:Gl}(h:g.test=true):g.right=true:=by
 unfold Gl.test at h;rw[ZD] at h;exact h.2
theorem PC{g:Gl}(h:g.right=true)(h0:¬g.op=0):(0<g.op/\g.op<=12)/\g.name=⟨⟨[]⟩⟩/\(g.args.length:Int)=arG g.op/\vLB 200 20 g.args=true:=by
 unfold Gl.right at h;rw[if_neg h0] at h;simp only[ZD,decide_eq_true_eq] at h;exact h
theorem PL{l:List Tm}(h:vLB 200 20 l=true):∀x∈l,x.right=true:=by
 rw[<-OV] at h;unfold raB at h;rw[ZD,ZS] at h;exact h.1
theorem Pf{g:Gl}(h:g.test=true):(5<=g.op/\g.op<=12)/\g.name=⟨⟨[]⟩⟩/\(g.args.length:Int)=arG g.op/\vLB 200 20 g.args=true:=by
 have h1:=NV h;have h2:=PC (PE h) (by omega)
 exact⟨h1.1,h2.2⟩
theorem Pj{g:Gl}(h:g.test=true){i:Nat}(hi:i<g.args.length):(arg g i).right=true:=PL (Pf h).2.2.2 _ (ZE (MK hi))
theorem Pu{op:Int}(h:7<=op/\op<=10)(a b:Tm)(u:Bool):Oz op a b u=N3 op a b:=by
 unfold Oz;rw[if_neg (by omega),if_neg (by omega),if_neg (by omega)]
theorem Pp{g:Gl}(h:g.test=true):MQ g=Oz g.op (arg g 0) (arg g 1) (uni (arg g 0) (arg g 1)):=by
 unfold MQ NF;rw[if_pos h]
theorem PH{a b:Tm}(ha:a.right=true)(hb:b.right=true)(hN:a.nodes+b.nodes<=100000000):uni a b=true↔∃σ,app σ a=app σ b:=by
 obtain⟨m,e,h1,h2⟩:=PU (a:=[a]) (b:=[b]) (by simp only[Tm.ai];omega)
 have hu:uni a b=L7 e:=by unfold uni;rw[h1]
 rw[hu];rcases PN h2 ha hb with ⟨hn,_,h0⟩|⟨M,hM,⟨_,_,h0⟩|⟨_,_,h0⟩⟩
 .rw [h0];exact⟨(λe=>by cases e),λ⟨σ,hσ⟩=>absurd (PA.2 hσ) (hn σ)⟩
 .rw [h0];exact⟨λ_=>⟨M,PA.1 hM.sol⟩,λ_=>rfl⟩
 .rw [h0];exact⟨λ_=>⟨M,PA.1 hM.sol⟩,λ_=>rfl⟩
theorem Qm{a b:Tm}(ha:a.right=true)(hb:b.right=true)(hN:a.nodes+b.nodes<=100000000):uni a b=uni b a:=by
 rw[Bool.eq_iff_iff,PH ha hb hN,PH hb ha (by omega)]
 exact⟨λ⟨σ,h⟩=>⟨σ,h.symm⟩,λ⟨σ,h⟩=>⟨σ,h.symm⟩⟩
end Go.CK
set_option maxRecDepth 100000
namespace Go.CK
open Go.AM Go.Proofs
theorem PS{l:List Tm}{most:Int}(b1:-1<=most)(b2:most<=100000):Fun Tryz.prog 33 [slA Tm.av l,.int .i64 most] (.bool (decide (LR l most 64<0))):=by
 have hw:=Ow (l:=l) (left:=most) (deep:=64) (by omega) (by omega) (by omega) (by omega)
 refine Fun.of (Pe (by simp) ?_) rfl rfl
 conv=>whnf
 repeat' (first|refine gF (ab.fn (hw) ?_)|refine af.nrm ?_)<;>conv=>whnf
 all_goals rfl
end Go.CK
set_option maxRecDepth 100000
namespace Go.CK
open Go.AM Go.Proofs
theorem QF{a b:Tm}(h:(g2 5 a b).right=true){q:Int}(hq:5<=q/\q<=10):(g2 q a b).test=true:=by
 obtain⟨_,_,_,h4⟩:=PC h (by show¬(5:Int)=0;decide)
 have h4:vLB 200 20 [a,b]=true:=h4;have hq0:¬(g2 q a b).op=0:=by show¬q=0;omega
 unfold Gl.test Gl.right;rw[if_neg hq0];show (decide (5<=q/\q<=12)&&(decide (0<q/\q<=12)&&(decide (⟨⟨[]⟩⟩=(⟨⟨[]⟩⟩:ByteArray))&&(decide ((([a,b].length:Nat):Int)=arG q)&&vLB 200 20 [a,b]))))=true;have ha:arG q=2:=by unfold arG;rw[if_neg (by omega),if_neg (by omega)]
 rw[decide_eq_true (show 5<=q/\q<=12 by omega),decide_eq_true (show 0<q/\q<=12 by omega),decide_eq_true rfl,ha,h4]
 rfl
theorem QR{a b:Tm}(h:(g2 5 a b).right=true):(g2 5 b a).right=true:=by
 obtain⟨_,_,_,h4⟩:=PC h (by show¬(5:Int)=0;decide)
 have h4:vLB 200 20 [a,b]=true:=h4
 have h5:vLB 200 20 [b,a]=true:=by
  rw[<-OV] at h4|-;unfold raB at h4|-;rw[show Tm.szs [b,a]=Tm.szs [a,b] by simp only[Tm.szs];omega]
  simp only[Yp,XE,Bool.and_true,ZD] at h4|-;exact⟨⟨h4.1.2,h4.1.1⟩,h4.2⟩
 unfold Gl.right;rw[if_neg (show¬(g2 5 b a).op=0 by show¬(5:Int)=0;decide)]
 show (_&&(_&&(_&&vLB 200 20 [b,a])))=true;rw[h5];rfl
theorem QJ{a b:Tm}(h:(g2 5 a b).right=true){q:Int}(hq:5<=q/\q<=10):MQ (g2 q a b)=Oz q a b (uni a b):=Pp (QF h hq)
theorem QK{a b:Tm}(ha:a.right=true)(hb:b.right=true)(ka:a.kind=0)(kb:b.kind=0):MU a b=(a.num,b.num,1):=by
 have fa:=cU ha;have fb:=cU hb;rw[uL ka,decide_eq_true_eq] at fa;rw[uL kb,decide_eq_true_eq] at fb;have ia:inR a.num=true:=decide_eq_true ⟨fa.1,fa.2.1⟩;have ib:inR b.num=true:=decide_eq_true ⟨fb.1,fb.2.1⟩;have ea:aR a=(a.num,0):=QD ka ia;have eb:aR b=(b.num,0):=QD kb ib
 have ga:a.gnd=true:=by
  unfold Tm.gnd;rw[decide_eq_true_eq,Tm.FO (by omega),Tm.use,if_neg (by omega)];rfl
 have gb:b.gnd=true:=by
  unfold Tm.gnd;rw[decide_eq_true_eq,Tm.FO (by omega),Tm.use,if_neg (by omega)];rfl
 unfold MU;rw[if_pos ⟨Oj (.inl ka),Oj (.inl kb)⟩,if_pos ⟨ga,gb⟩,ea,eb];rfl
set_option maxHeartbeats 4000000 in
theorem QE(a b:Tm):Fun Tryz.prog 9 [a.avw,b.avw] (.bool true):=by
 have hgr:=PS (l:=[a,b]) (most:=200) (by decide) (by decide)
 simp only[slA,ZP,Yd,Tm.nK] at hgr
 by_cases hw:LR [a,b] 200 64<0
 .rw [decide_eq_true hw] at hgr;refine Fun.of (Qt (by simp) ?_) rfl rfl
  conv=>whnf
  repeat' (first|(refine gF ?_;first|refine ab.fn (hgr) ?_|refine ab.fn (Nz) ?_)|refine gC (cY ?_)|refine af.nrm ?_)<;>conv=>whnf
 rw[decide_eq_false hw] at hgr;have hn:=NT (l:=[a,b]) (left:=200) (deep:=64) (by omega)
 simp only[Tm.ai] at hn;have k5:=L4 5 a b
 have hnn:∀q x y,(x=a/\y=b\/x=b/\y=a)->Tm.ai (g2 q x y).args<=1000:=λq x y h=>by
  show Tm.ai [x,y]<=1000;simp only[Tm.ai];rcases h with ⟨rfl,rfl⟩|⟨rfl,rfl⟩<;>omega
 have hrg:=MP (g2 5 a b) (by have:=hnn 5 a b (.inl ⟨rfl,rfl⟩);omega) (by show 2<=4000000000;decide)
 cases hr:(g2 5 a b).right with
 |false=>
  rw[hr] at hrg;refine Fun.of (Qt (by simp) ?_) rfl rfl
  conv=>whnf
  repeat' (first|(refine gF ?_;first|refine ab.fn (hgr) ?_|refine ab.fn (k5) ?_|refine ab.fn (hrg) ?_|refine ab.fn (Nz) ?_)|(refine gC ?_;first|refine cN ?_|refine .not ?_)|refine af.nrm ?_)<;>conv=>whnf
 |true=>
 rw[hr] at hrg;have hr2:=QR hr
 have pT:∀q,5<=q/\q<=10->Fun Tryz.prog 24 [(g2 q a b).av] (.int .i64 (Oz q a b (uni a b))):=λq hq=>by
  have:=M8 (g2 q a b) (by have:=hnn q a b (.inl ⟨rfl,rfl⟩);omega) (by show 2<=4000000000;decide)
  rwa [QJ hr hq] at this
 have pS:∀q,5<=q/\q<=10->Fun Tryz.prog 24 [(g2 q b a).av] (.int .i64 (Oz q b a (uni b a))):=λq hq=>by
  have:=M8 (g2 q b a) (by have:=hnn q b a (.inr ⟨rfl,rfl⟩);omega) (by show 2<=4000000000;decide)
  rwa [QJ hr2 hq] at this
 have ra:a.right=true:=Pj (g:=g2 5 a b) (QF hr (q:=5) (by decide)) (i:=0) (by show 0<2;decide)
 have rb:b.right=true:=Pj (g:=g2 5 a b) (QF hr (q:=5) (by decide)) (i:=1) (by show 1<2;decide)
 have hus:uni b a=uni a b:=Qm rb ra (by omega)
 have hcs:b.cmp a=0↔a.cmp b=0:=⟨Qh _ _,Qh _ _⟩;have t5:=pT 5 (by decide)
 have t6:=pT 6 (by decide)
 have s5:=pS 5 (by decide)
 have s6:=pS 6 (by decide)
 have t7:=pT 7 (by decide)
 have t8:=pS 8 (by decide)
 have t9:=pT 9 (by decide)
 have t10:=pT 10 (by decide)
 rw[hus] at s5 s6 t8;rw[Pu (by decide)] at t7 t8 t9 t10
 have k6:=L4 6 a b;have l5:=L4 5 b a;have l6:=L4 6 b a;have k7:=L4 7 a b;have l8:=L4 8 b a;have k9:=L4 9 a b;have k10:=L4 10 a b
 obtain⟨v5,v6,hv,e5,e6,e7,e8⟩:∃v5 v6:Int,(v5=1/\v6=2\/v5=0/\v6=0\/v5=2/\v6=1)/\Oz 5 a b (uni a b)=v5/\Oz 6 a b (uni a b)=v6/\Oz 5 b a (uni a b)=v5/\Oz 6 b a (uni a b)=v6:=by
  by_cases hc:a.cmp b=0
  .exact ⟨1,2,.inl ⟨rfl,rfl⟩,by unfold Oz;simp[hc,NO],by unfold Oz;simp[hc,NO],by unfold Oz;simp[hcs.2 hc,NO],by unfold Oz;simp[hcs.2 hc,NO]⟩
  .have hc2:¬b.cmp a=0:=λe=>hc (hcs.1 e)
   cases hu:uni a b with
   |true=>exact⟨0,0,.inr (.inl ⟨rfl,rfl⟩),by unfold Oz;simp[hc],by unfold Oz;simp[hc],by unfold Oz;simp[hc2],by unfold Oz;simp[hc2]⟩
   |false=>exact⟨2,1,.inr (.inr ⟨rfl,rfl⟩),by unfold Oz;simp[hc,NO],by unfold Oz;simp[hc,NO],by unfold Oz;simp[hc2,NO],by unfold Oz;simp[hc2,NO]⟩
 rw[e5] at t5;rw[e6] at t6;rw[e7] at s5;rw[e8] at s6
 by_cases ka:a.kind=0
 rotate_left
 .rcases hv with ⟨rfl,rfl⟩|⟨rfl,rfl⟩|⟨rfl,rfl⟩
  .refine Fun.of (Qt (by simp) ?_) rfl rfl
   conv=>whnf
   repeat' (first|(refine gF ?_;first|refine ab.fn (hgr) ?_|refine ab.fn (k5) ?_|refine ab.fn (hrg) ?_|refine ab.fn (l5) ?_|refine ab.fn (s5) ?_|refine ab.fn (l6) ?_|refine ab.fn (s6) ?_|refine ab.fn (Nz) ?_)|(refine gG ?_;first|refine aM.fn (k5) ?_|refine aM.fn (t5) ?_|refine aM.fn (k6) ?_|refine aM.fn (t6) ?_)|(refine gC ?_;first|refine cY ?_|refine cN ?_|refine .not ?_|(refine gD ?_;first|refine cI ?_|refine cJ ?_|refine cId ?_))|refine af.nrm ?_)<;>conv=>whnf
   all_goals first|rfl|(exfalso;revert hc;simp[*];done)|(exfalso;simp_all;done)|(exfalso;simp_all;omega)
  .refine Fun.of (Qt (by simp) ?_) rfl rfl
   conv=>whnf
   repeat' (first|(refine gF ?_;first|refine ab.fn (hgr) ?_|refine ab.fn (k5) ?_|refine ab.fn (hrg) ?_|refine ab.fn (l5) ?_|refine ab.fn (s5) ?_|refine ab.fn (l6) ?_|refine ab.fn (s6) ?_|refine ab.fn (Nz) ?_)|(refine gG ?_;first|refine aM.fn (k5) ?_|refine aM.fn (t5) ?_|refine aM.fn (k6) ?_|refine aM.fn (t6) ?_)|(refine gC ?_;first|refine cY ?_|refine cN ?_|refine .not ?_|(refine gD ?_;first|refine cI ?_|refine cJ ?_|refine cIr ?_|refine cId ?_))|refine af.nrm ?_)<;>conv=>whnf
   all_goals first|rfl|(exfalso;revert hc;simp[*];done)|(exfalso;simp_all;done)|(exfalso;simp_all;omega)
  .refine Fun.of (Qt (by simp) ?_) rfl rfl
   conv=>whnf
   repeat' (first|(refine gF ?_;first|refine ab.fn (hgr) ?_|refine ab.fn (k5) ?_|refine ab.fn (hrg) ?_|refine ab.fn (l5) ?_|refine ab.fn (s5) ?_|refine ab.fn (l6) ?_|refine ab.fn (s6) ?_|refine ab.fn (Nz) ?_)|(refine gG ?_;first|refine aM.fn (k5) ?_|refine aM.fn (t5) ?_|refine aM.fn (k6) ?_|refine aM.fn (t6) ?_)|(refine gC ?_;first|refine cY ?_|refine cN ?_|refine .not ?_|(refine gD ?_;first|refine cI ?_|refine cJ ?_|refine cId ?_))|refine af.nrm ?_)<;>conv=>whnf
   all_goals first|rfl|(exfalso;revert hc;simp[*];done)|(exfalso;simp_all;done)|(exfalso;simp_all;omega)
 by_cases kb:b.kind=0
 rotate_left
 .rcases hv with ⟨rfl,rfl⟩|⟨rfl,rfl⟩|⟨rfl,rfl⟩
  .refine Fun.of (Qt (by simp) ?_) rfl rfl
   conv=>whnf
   repeat' (first|(refine gF ?_;first|refine ab.fn (hgr) ?_|refine ab.fn (k5) ?_|refine ab.fn (hrg) ?_|refine ab.fn (l5) ?_|refine ab.fn (s5) ?_|refine ab.fn (l6) ?_|refine ab.fn (s6) ?_|refine ab.fn (Nz) ?_)|(refine gG ?_;first|refine aM.fn (k5) ?_|refine aM.fn (t5) ?_|refine aM.fn (k6) ?_|refine aM.fn (t6) ?_)|(refine gC ?_;first|refine cY ?_|refine cN ?_|refine .not ?_|(refine gD ?_;first|refine cI ?_|refine cJ ?_|refine cId ?_))|refine af.nrm ?_)<;>conv=>whnf
   all_goals first|rfl|(exfalso;revert hc;simp[*];done)|(exfalso;simp_all;done)|(exfalso;simp_all;omega)
  .refine Fun.of (Qt (by simp) ?_) rfl rfl
   conv=>whnf
   repeat' (first|(refine gF ?_;first|refine ab.fn (hgr) ?_|refine ab.fn (k5) ?_|refine ab.fn (hrg) ?_|refine ab.fn (l5) ?_|refine ab.fn (s5) ?_|refine ab.fn (l6) ?_|refine ab.fn (s6) ?_|refine ab.fn (Nz) ?_)|(refine gG ?_;first|refine aM.fn (k5) ?_|refine aM.fn (t5) ?_|refine aM.fn (k6) ?_|refine aM.fn (t6) ?_)|(refine gC ?_;first|refine cY ?_|refine cN ?_|refine .not ?_|(refine gD ?_;first|refine cI ?_|refine cJ ?_|refine cIr ?_|refine cId ?_))|refine af.nrm ?_)<;>conv=>whnf
   all_goals first|rfl|(exfalso;revert hc;simp[*];done)|(exfalso;simp_all;done)|(exfalso;simp_all;omega)
  .refine Fun.of (Qt (by simp) ?_) rfl rfl
   conv=>whnf
   repeat' (first|(refine gF ?_;first|refine ab.fn (hgr) ?_|refine ab.fn (k5) ?_|refine ab.fn (hrg) ?_|refine ab.fn (l5) ?_|refine ab.fn (s5) ?_|refine ab.fn (l6) ?_|refine ab.fn (s6) ?_|refine ab.fn (Nz) ?_)|(refine gG ?_;first|refine aM.fn (k5) ?_|refine aM.fn (t5) ?_|refine aM.fn (k6) ?_|refine aM.fn (t6) ?_)|(refine gC ?_;first|refine cY ?_|refine cN ?_|refine .not ?_|(refine gD ?_;first|refine cI ?_|refine cJ ?_|refine cId ?_))|refine af.nrm ?_)<;>conv=>whnf
   all_goals first|rfl|(exfalso;revert hc;simp[*];done)|(exfalso;simp_all;done)|(exfalso;simp_all;omega)
 have hvl:=QK ra rb ka kb;have hvs:=QK rb ra kb ka;have q7:N3 7 a b=NO (decide (a.num<b.num)):=by unfold N3;rw[hvl];rfl
 have q8:N3 8 b a=NO (decide (b.num<=a.num)):=by unfold N3;rw[hvs];rfl
 have q9:N3 9 a b=NO (decide (a.num=b.num)):=by unfold N3;rw[hvl];rfl
 have q10:N3 10 a b=NO (!decide (a.num=b.num)):=by unfold N3;rw[hvl];rfl
 rw[q7] at t7;rw[q8] at t8;rw[q9] at t9;rw[q10] at t10;clear q7 q8 q9 q10
 by_cases hlt:a.num<b.num
 .rw [decide_eq_true hlt] at t7;rw[decide_eq_false (show¬b.num<=a.num by omega)] at t8
  have hne:¬a.num=b.num:=by omega
  rw[decide_eq_false hne] at t9 t10;simp only[NO,Bool.not_false,Bool.not_true] at t7 t8 t9 t10;rcases hv with ⟨rfl,rfl⟩|⟨rfl,rfl⟩|⟨rfl,rfl⟩
  .refine Fun.of (Qt (by simp) ?_) rfl rfl
   conv=>whnf
   repeat' (first|(refine gF ?_;first|refine ab.fn (hgr) ?_|refine ab.fn (k5) ?_|refine ab.fn (hrg) ?_|refine ab.fn (l5) ?_|refine ab.fn (s5) ?_|refine ab.fn (l6) ?_|refine ab.fn (s6) ?_|refine ab.fn (Nz) ?_)|(refine gG ?_;first|refine aM.fn (k5) ?_|refine aM.fn (t5) ?_|refine aM.fn (k6) ?_|refine aM.fn (t6) ?_|refine aM.fn (k7) ?_|refine aM.fn (t7) ?_|refine aM.fn (l8) ?_|refine aM.fn (t8) ?_|refine aM.fn (k9) ?_|refine aM.fn (t9) ?_|refine aM.fn (k10) ?_|refine aM.fn (t10) ?_)|(refine gC ?_;first|refine cY ?_|refine cN ?_|refine .not ?_|(refine gD ?_;first|refine cI ?_|refine cJ ?_|refine cId ?_)|refine aq.dec (λhc=>?_) (λhc=>?_))|refine gW (wI ?_)|refine af.nrm ?_)<;>conv=>whnf
   all_goals first|rfl|(exfalso;revert hc;simp[*];done)|(exfalso;simp_all;done)|(exfalso;simp_all;omega)
  .refine Fun.of (Qt (by simp) ?_) rfl rfl
   conv=>whnf
   repeat' (first|(refine gF ?_;first|refine ab.fn (hgr) ?_|refine ab.fn (k5) ?_|refine ab.fn (hrg) ?_|refine ab.fn (l5) ?_|refine ab.fn (s5) ?_|refine ab.fn (l6) ?_|refine ab.fn (s6) ?_|refine ab.fn (Nz) ?_)|(refine gG ?_;first|refine aM.fn (k5) ?_|refine aM.fn (t5) ?_|refine aM.fn (k6) ?_|refine aM.fn (t6) ?_|refine aM.fn (k7) ?_|refine aM.fn (t7) ?_|refine aM.fn (l8) ?_|refine aM.fn (t8) ?_|refine aM.fn (k9) ?_|refine aM.fn (t9) ?_|refine aM.fn (k10) ?_|refine aM.fn (t10) ?_)|(refine gC ?_;first|refine cY ?_|refine cN ?_|refine .not ?_|(refine gD ?_;first|refine cI ?_|refine cJ ?_|refine cIr ?_|refine cId ?_)|refine aq.dec (λhc=>?_) (λhc=>?_))|refine gW (wI ?_)|refine af.nrm ?_)<;>conv=>whnf
   all_goals first|rfl|(exfalso;revert hc;simp[*];done)|(exfalso;simp_all;done)|(exfalso;simp_all;omega)
  .refine Fun.of (Qt (by simp) ?_) rfl rfl
   conv=>whnf
   repeat' (first|(refine gF ?_;first|refine ab.fn (hgr) ?_|refine ab.fn (k5) ?_|refine ab.fn (hrg) ?_|refine ab.fn (l5) ?_|refine ab.fn (s5) ?_|refine ab.fn (l6) ?_|refine ab.fn (s6) ?_|refine ab.fn (Nz) ?_)|(refine gG ?_;first|refine aM.fn (k5) ?_|refine aM.fn (t5) ?_|refine aM.fn (k6) ?_|refine aM.fn (t6) ?_|refine aM.fn (k7) ?_|refine aM.fn (t7) ?_|refine aM.fn (l8) ?_|refine aM.fn (t8) ?_|refine aM.fn (k9) ?_|refine aM.fn (t9) ?_|refine aM.fn (k10) ?_|refine aM.fn (t10) ?_)|(refine gC ?_;first|refine cY ?_|refine cN ?_|refine .not ?_|(refine gD ?_;first|refine cI ?_|refine cJ ?_|refine cId ?_)|refine aq.dec (λhc=>?_) (λhc=>?_))|refine gW (wI ?_)|refine af.nrm ?_)<;>conv=>whnf
   all_goals first|rfl|(exfalso;revert hc;simp[*];done)|(exfalso;simp_all;done)|(exfalso;simp_all;omega)
 .rw [decide_eq_false hlt] at t7;rw[decide_eq_true (show b.num<=a.num by omega)] at t8
  by_cases heq:a.num=b.num
  .rw [decide_eq_true heq] at t9 t10;simp only[NO,Bool.not_false,Bool.not_true] at t7 t8 t9 t10;rcases hv with ⟨rfl,rfl⟩|⟨rfl,rfl⟩|⟨rfl,rfl⟩
   .refine Fun.of (Qt (by simp) ?_) rfl rfl
    conv=>whnf
    repeat' (first|(refine gF ?_;first|refine ab.fn (hgr) ?_|refine ab.fn (k5) ?_|refine ab.fn (hrg) ?_|refine ab.fn (l5) ?_|refine ab.fn (s5) ?_|refine ab.fn (l6) ?_|refine ab.fn (s6) ?_|refine ab.fn (Nz) ?_)|(refine gG ?_;first|refine aM.fn (k5) ?_|refine aM.fn (t5) ?_|refine aM.fn (k6) ?_|refine aM.fn (t6) ?_|refine aM.fn (k7) ?_|refine aM.fn (t7) ?_|refine aM.fn (l8) ?_|refine aM.fn (t8) ?_|refine aM.fn (k9) ?_|refine aM.fn (t9) ?_|refine aM.fn (k10) ?_|refine aM.fn (t10) ?_)|(refine gC ?_;first|refine cY ?_|refine cN ?_|refine .not ?_|(refine gD ?_;first|refine cI ?_|refine cJ ?_|refine cId ?_)|refine aq.dec (λhc=>?_) (λhc=>?_))|refine gW (wI ?_)|refine af.nrm ?_)<;>conv=>whnf
    all_goals first|rfl|(exfalso;revert hc;simp[*];done)|(exfalso;simp_all;done)|(exfalso;simp_all;omega)
   .refine Fun.of (Qt (by simp) ?_) rfl rfl
    conv=>whnf
    repeat' (first|(refine gF ?_;first|refine ab.fn (hgr) ?_|refine ab.fn (k5) ?_|refine ab.fn (hrg) ?_|refine ab.fn (l5) ?_|refine ab.fn (s5) ?_|refine ab.fn (l6) ?_|refine ab.fn (s6) ?_|refine ab.fn (Nz) ?_)|(refine gG ?_;first|refine aM.fn (k5) ?_|refine aM.fn (t5) ?_|refine aM.fn (k6) ?_|refine aM.fn (t6) ?_|refine aM.fn (k7) ?_|refine aM.fn (t7) ?_|refine aM.fn (l8) ?_|refine aM.fn (t8) ?_|refine aM.fn (k9) ?_|refine aM.fn (t9) ?_|refine aM.fn (k10) ?_|refine aM.fn (t10) ?_)|(refine gC ?_;first|refine cY ?_|refine cN ?_|refine .not ?_|(refine gD ?_;first|refine cI ?_|refine cJ ?_|refine cIr ?_|refine cId ?_)|refine aq.dec (λhc=>?_) (λhc=>?_))|refine gW (wI ?_)|refine af.nrm ?_)<;>conv=>whnf
    all_goals first|rfl|(exfalso;revert hc;simp[*];done)|(exfalso;simp_all;done)|(exfalso;simp_all;omega)
   .refine Fun.of (Qt (by simp) ?_) rfl rfl
    conv=>whnf
    repeat' (first|(refine gF ?_;first|refine ab.fn (hgr) ?_|refine ab.fn (k5) ?_|refine ab.fn (hrg) ?_|refine ab.fn (l5) ?_|refine ab.fn (s5) ?_|refine ab.fn (l6) ?_|refine ab.fn (s6) ?_|refine ab.fn (Nz) ?_)|(refine gG ?_;first|refine aM.fn (k5) ?_|refine aM.fn (t5) ?_|refine aM.fn (k6) ?_|refine aM.fn (t6) ?_|refine aM.fn (k7) ?_|refine aM.fn (t7) ?_|refine aM.fn (l8) ?_|refine aM.fn (t8) ?_|refine aM.fn (k9) ?_|refine aM.fn (t9) ?_|refine aM.fn (k10) ?_|refine aM.fn (t10) ?_)|(refine gC ?_;first|refine cY ?_|refine cN ?_|refine .not ?_|(refine gD ?_;first|refine cI ?_|refine cJ ?_|refine cId ?_)|refine aq.dec (λhc=>?_) (λhc=>?_))|refine gW (wI ?_)|refine af.nrm ?_)<;>conv=>whnf
    all_goals first|rfl|(exfalso;revert hc;simp[*];done)|(exfalso;simp_all;done)|(exfalso;simp_all;omega)
  .rw [decide_eq_false heq] at t9 t10;simp only[NO,Bool.not_false,Bool.not_true] at t7 t8 t9 t10;rcases hv with ⟨rfl,rfl⟩|⟨rfl,rfl⟩|⟨rfl,rfl⟩
   .refine Fun.of (Qt (by simp) ?_) rfl rfl
    conv=>whnf
    repeat' (first|(refine gF ?_;first|refine ab.fn (hgr) ?_|refine ab.fn (k5) ?_|refine ab.fn (hrg) ?_|refine ab.fn (l5) ?_|refine ab.fn (s5) ?_|refine ab.fn (l6) ?_|refine ab.fn (s6) ?_|refine ab.fn (Nz) ?_)|(refine gG ?_;first|refine aM.fn (k5) ?_|refine aM.fn (t5) ?_|refine aM.fn (k6) ?_|refine aM.fn (t6) ?_|refine aM.fn (k7) ?_|refine aM.fn (t7) ?_|refine aM.fn (l8) ?_|refine aM.fn (t8) ?_|refine aM.fn (k9) ?_|refine aM.fn (t9) ?_|refine aM.fn (k10) ?_|refine aM.fn (t10) ?_)|(refine gC ?_;first|refine cY ?_|refine cN ?_|refine .not ?_|(refine gD ?_;first|refine cI ?_|refine cJ ?_|refine cId ?_)|refine aq.dec (λhc=>?_) (λhc=>?_))|refine gW (wI ?_)|refine af.nrm ?_)<;>conv=>whnf
    all_goals first|rfl|(exfalso;revert hc;simp[*];done)|(exfalso;simp_all;done)|(exfalso;simp_all;omega)
   .refine Fun.of (Qt (by simp) ?_) rfl rfl
    conv=>whnf
    repeat' (first|(refine gF ?_;first|refine ab.fn (hgr) ?_|refine ab.fn (k5) ?_|refine ab.fn (hrg) ?_|refine ab.fn (l5) ?_|refine ab.fn (s5) ?_|refine ab.fn (l6) ?_|refine ab.fn (s6) ?_|refine ab.fn (Nz) ?_)|(refine gG ?_;first|refine aM.fn (k5) ?_|refine aM.fn (t5) ?_|refine aM.fn (k6) ?_|refine aM.fn (t6) ?_|refine aM.fn (k7) ?_|refine aM.fn (t7) ?_|refine aM.fn (l8) ?_|refine aM.fn (t8) ?_|refine aM.fn (k9) ?_|refine aM.fn (t9) ?_|refine aM.fn (k10) ?_|refine aM.fn (t10) ?_)|(refine gC ?_;first|refine cY ?_|refine cN ?_|refine .not ?_|(refine gD ?_;first|refine cI ?_|refine cJ ?_|refine cIr ?_|refine cId ?_)|refine aq.dec (λhc=>?_) (λhc=>?_))|refine gW (wI ?_)|refine af.nrm ?_)<;>conv=>whnf
    all_goals first|rfl|(exfalso;revert hc;simp[*];done)|(exfalso;simp_all;done)|(exfalso;simp_all;omega)
   .refine Fun.of (Qt (by simp) ?_) rfl rfl
    conv=>whnf
    repeat' (first|(refine gF ?_;first|refine ab.fn (hgr) ?_|refine ab.fn (k5) ?_|refine ab.fn (hrg) ?_|refine ab.fn (l5) ?_|refine ab.fn (s5) ?_|refine ab.fn (l6) ?_|refine ab.fn (s6) ?_|refine ab.fn (Nz) ?_)|(refine gG ?_;first|refine aM.fn (k5) ?_|refine aM.fn (t5) ?_|refine aM.fn (k6) ?_|refine aM.fn (t6) ?_|refine aM.fn (k7) ?_|refine aM.fn (t7) ?_|refine aM.fn (l8) ?_|refine aM.fn (t8) ?_|refine aM.fn (k9) ?_|refine aM.fn (t9) ?_|refine aM.fn (k10) ?_|refine aM.fn (t10) ?_)|(refine gC ?_;first|refine cY ?_|refine cN ?_|refine .not ?_|(refine gD ?_;first|refine cI ?_|refine cJ ?_|refine cId ?_)|refine aq.dec (λhc=>?_) (λhc=>?_))|refine gW (wI ?_)|refine af.nrm ?_)<;>conv=>whnf
    all_goals first|rfl|(exfalso;revert hc;simp[*];done)|(exfalso;simp_all;done)|(exfalso;simp_all;omega)
end Go.CK
namespace Go.CK
open Go.AM Go.Proofs
theorem QC{a b:Tm}:Fun Tryz.prog 9 [a.av,b.av] (.bool true):=by
 rw[Tm.nK,Tm.nK];exact QE a b
end Go.CK
namespace Go.CK
open Go.RowKit Go.AM
def sF(M:Hp):List AV->List Value->Prop
 |[],[]=>True
 |x::xs,v::vs=>FV M x v/\sF M xs vs
 |_,_=>False
theorem sF.len{M:Hp}:∀{xs:List AV} {vs:List Value},sF M xs vs->vs.length=xs.length
 |[],[],_=>rfl
 |_::xs,_::vs,h=>by simp[sF.len h.2]
 |[],_::_,h=>h.elim
 |_::_,[],h=>h.elim
theorem sF.get{M:Hp}:∀{xs:List AV} {vs:List Value},sF M xs vs->∀j (h:j<xs.length) v,vs[j]? =some v->FV M xs[j] v
 |[],[],_,j,h,_,_=>by cases h
 |_::xs,_::vs,h,0,_,v,hv=>by
  simp only[Yq,ZN] at hv
  subst hv;exact h.1
 |_::xs,_::vs,h,j+1,hj,v,hv=>sF.get h.2 j (by simpa using hj) v (by simpa using hv)
 |[],_::_,h,_,_,_,_=>h.elim
 |_::_,[],h,_,_,_,_=>h.elim
theorem Fun.calls{P:Program}{f:FuncId}{vals:List AV}{b:Bool}(h:Fun P f vals (.bool b)){w:World}{args:List Value}(ha:sF (Hp.of w) vals args):
  Calls P f args.toArray w λe w'=>e=.returned (.bool b)/\Ext w w':=by
 refine(((h []).mono (Q':=λr _=>r=.bool b) λr bs hq=>hq.1).calls (Hp.le_refl _) ha.len ha.get).mono ?_;rintro e w' ⟨v,r,bs',M',σ,n,rfl,rfl,hv,hx,_⟩;exact⟨by rw[hv.cB],hx⟩
end Go.CK
