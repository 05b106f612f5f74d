/- A part. By an AI agent. -/
import Derived.Test.YtahnpgfkkngimaaGreatBgc
import Derived.Test.YtahnpgfkkngimaaGreatRows
import Derived.ProofKit
import Derived.OpenShut
import Derived.ShutString
import Derived.ChangeOld
import Derived.JoinedCond
import Derived.Deep.Slices
import Derived.Lib.SmallJoins
set_option linter.unusedSimpArgs false
set_option linter.unusedVariables false
set_option maxRecDepth 100000
namespace Go.CK
open Go.AM Go.Proofs
def ruB(x y:Int)(c:Bool):Bool:=match c with
 |false=>decide (x=7/\y=8\/x=7/\y=10\/x=9/\y=8)
 |true=>decide (x=7/\y=10\/x=9/\y=8\/x=9/\y=9\/x=10/\y=10\/x=5/\y=5\/x=6/\y=6)
theorem Nn{cs:List AV}{ks:List FK}:∀{l:List (List AV×AV)} {b:Bool},(∀e∈l,e.2=.bool true/\∃q,mC ks cs e.1=some q)->(b=true↔∃e∈l,mC ks cs e.1=some true)->MN ks cs l=some (match b with|true=>some (.bool true)|false=>none)
 |[],b,_,hb=>by
  cases b with
  |true=>obtain⟨e,he,_⟩:=hb.1 rfl;cases he
  |false=>rfl
 |(k,x)::l,b,h,hb=>by
  obtain⟨h1,q,h2⟩:=h _ (ZV ..);dsimp only at h1 h2;simp only[MN,h2]
  cases q with
  |true=>
   have:b=true:=hb.2 ⟨_,ZV ..,h2⟩
   rw[this,h1]
  |false=>
   refine Nn (λe he=>h e (ZQ _ he)) (hb.trans ⟨?_,?_⟩)
   .rintro ⟨e,he,h3⟩;rcases ZI.1 he with rfl|he
    .rw [h2] at h3;cases h3
    .exact ⟨e,he,h3⟩
   .rintro ⟨e,he,h3⟩;exact⟨e,ZQ _ he,h3⟩
theorem OR(x y a b:Int)(c d:Bool):mC [.i,.i,.b] (kk x y c) (kk a b d)=some (decide (x=a)&&(decide (y=b)&&(decide (c=d)&&true))):=rfl
theorem OL{k:List AV}(h:k∈RKs):∃a b c,k=kk a b c:=by
 simp only[RKs,ZI,Xg,or_false] at h;rcases h with rfl|rfl|rfl|rfl|rfl|rfl|rfl|rfl|rfl<;>exact⟨_,_,_,rfl⟩
theorem N9{l:List (List AV×AV)}(h:NQ l)(x y:Int)(c:Bool):MN [.i,.i,.b] (kk x y c) l=some (match ruB x y c with|true=>some (.bool true)|false=>none):=by
 refine Nn (λe he=>⟨(h.1 e he).1,?_⟩) ?_
 .obtain ⟨a,b,d,hk⟩:=OL (h.1 e he).2;rw[hk];exact⟨_,OR ..⟩
 .have h1:(∃e∈l,mC [.i,.i,.b] (kk x y c) e.1=some true)↔∃k∈RKs,mC [.i,.i,.b] (kk x y c) k=some true:=by
   constructor
   .rintro ⟨e,he,h3⟩;exact⟨e.1,(h.1 e he).2,h3⟩
   .rintro ⟨k,hk,h3⟩;obtain⟨e,he,rfl⟩:=h.2 k hk;exact⟨e,he,h3⟩
  rw[h1];simp only[RKs,ZI,Xg,or_false,exists_eq_or_imp,OR,exists_eq_left,ZN,Bool.and_true,ZD,decide_eq_true_eq];cases c<;>simp[ruB]
theorem No{l:List (List AV×AV)}(h:NQ l):Oq l:=λe he=>by
 obtain⟨h1,h2⟩:=h.1 e he;obtain⟨a,b,d,hk⟩:=OL h2;rw[h1,hk];exact⟨rfl,rfl⟩
theorem SgN.rules{s:St}{m k:AV}{K:AV->Prop}{l:List (List AV×AV)}(h:NQ l)(b:Nat)(x y:Int)(c:Bool)(hm:m=.mpt b)(hk:k=.agg (kk x y c))(hb:s.bs[b]? =some (.loop (mLB (skE 0 l) l.length)))(hK:K (.bool (ruB x y c))):SgN [.i,.i,.b] false (.bool false) s m k K:=by
 have hf:=N9 h x y c
 cases hr:ruB x y c with
 |true=>
  rw[hr] at hf hK
  exact⟨b,kk x y c,l,_,some (.bool true),hm,hk,hb,rfl,⟨rfl,rfl⟩,No h,hf,λy hy=>by cases hy;exact hK,λe=>by cases e⟩
 |false=>
  rw[hr] at hf hK;exact⟨b,kk x y c,l,_,none,hm,hk,hb,rfl,⟨rfl,rfl⟩,No h,hf,(λy hy=>by cases hy),λ_=>hK⟩
def OY(a g:Gl):Bool:=decide ((arg a 0).cmp (arg g 0)=0)&&decide ((arg a 1).cmp (arg g 1)=0)
def O2(a g:Gl):Bool:=decide ((arg a 0).cmp (arg g 1)=0)&&decide ((arg a 1).cmp (arg g 0)=0)
def OO(a g:Gl):Bool:=
 if a.test=true/\g.test=true then
  if a.same g=true then true
  else if a.args.length=2/\g.args.length=2 then OY a g&&ruB a.op g.op false||O2 a g&&ruB a.op g.op true
  else false
 else false
set_option maxHeartbeats 2000000 in
theorem NA(a g:Gl)(hla:a.args.length<=4000000000)(hlg:g.args.length<=4000000000):Fun Tryz.prog 26 [a.av,g.av] (.bool (OO a g)):=by
 have ta:=Ni a (by omega)
 have tg:=Ni g (by omega)
 have sg:=MM a g;unfold OO
 cases hta:a.test with
 |false=>
  rw[hta] at ta;rw[if_neg (by simp)]
  refine Fun.of (LS (by simp) ?_) rfl rfl
  conv=>whnf
  repeat' (first|refine gF (ab.fn (ta) ?_)|(refine gC ?_;first|refine cY ?_|refine cN ?_|refine .not ?_)|refine af.nrm ?_)<;>conv=>whnf
 |true=>
 rw[hta] at ta
 cases htg:g.test with
 |false=>
  rw[htg] at tg;rw[if_neg (by simp)]
  refine Fun.of (LS (by simp) ?_) rfl rfl
  conv=>whnf
  repeat' (first|(refine gF ?_;first|refine ab.fn (ta) ?_|refine ab.fn (tg) ?_)|(refine gC ?_;first|refine cY ?_|refine cN ?_|refine .not ?_)|refine af.nrm ?_)<;>conv=>whnf
 |true=>
 rw[htg] at tg;rw[if_pos ⟨rfl,rfl⟩]
 cases hsg:a.same g with
 |true=>
  rw[hsg] at sg;rw[if_pos rfl];refine Fun.of (LS (by simp) ?_) rfl rfl
  conv=>whnf
  repeat' (first|(refine gF ?_;first|refine ab.fn (ta) ?_|refine ab.fn (tg) ?_|refine ab.fn (sg) ?_)|(refine gC ?_;first|refine cY ?_|refine .not ?_)|refine af.nrm ?_)<;>conv=>whnf
 |false=>
 rw[hsg] at sg;rw[if_neg YY]
 by_cases h2:a.args.length=2
 rotate_left
 .rw [if_neg (λe=>h2 e.1)];refine Fun.of (LS (by simp) ?_) rfl rfl
  conv=>whnf
  repeat' (first|(refine gF ?_;first|refine ab.fn (ta) ?_|refine ab.fn (tg) ?_|refine ab.fn (sg) ?_)|(refine gC ?_;first|refine cY ?_|refine cN ?_|refine .not ?_|refine gD (cJ ?_))|refine gL (.map ?_)|refine af.nrm ?_)<;>conv=>whnf
 by_cases h3:g.args.length=2
 rotate_left
 .rw [if_neg (λe=>h3 e.2)];refine Fun.of (LS (by simp) ?_) rfl rfl
  conv=>whnf
  repeat' (first|(refine gF ?_;first|refine ab.fn (ta) ?_|refine ab.fn (tg) ?_|refine ab.fn (sg) ?_)|(refine gC ?_;first|refine cY ?_|refine cN ?_|refine .not ?_|(refine gD ?_;first|refine cI ?_|refine cJ ?_))|refine gL (.map ?_)|refine af.nrm ?_)<;>conv=>whnf
 rw[if_pos ⟨h2,h3⟩];have a0:=MK (g:=a) (i:=0) (by omega)
 have a1:=MK (g:=a) (i:=1) (by omega)
 have g0:=MK (g:=g) (i:=0) (by omega)
 have g1:=MK (g:=g) (i:=1) (by omega)
 have s00:=zz (arg a 0) (arg g 0);have s11:=zz (arg a 1) (arg g 1);have s01:=zz (arg a 0) (arg g 1);have s10:=zz (arg a 1) (arg g 0);unfold OY O2;generalize decide ((arg a 0).cmp (arg g 0)=0)=b00 at s00;generalize decide ((arg a 1).cmp (arg g 1)=0)=b11 at s11;generalize decide ((arg a 0).cmp (arg g 1)=0)=b01 at s01;generalize decide ((arg a 1).cmp (arg g 0)=0)=b10 at s10;refine Fun.of (LS (by simp) ?_) rfl rfl
 conv=>whnf
 repeat' (first|(refine gF ?_;first|refine ab.fn (ta) ?_|refine ab.fn (tg) ?_|refine ab.fn (sg) ?_)|(refine gC ?_;first|refine cY ?_|refine cN ?_|refine .not ?_|refine gD (cI ?_))|refine gL (.map ?_))<;>conv=>whnf
 refine ab.raw (OB _) ?_;rintro r bs' ⟨l,hl,rfl,rfl⟩;cases b00<;>cases b11<;>cases b01<;>cases b10
 all_goals
  conv=>whnf
  repeat' (first|(refine gG ?_;first|refine aM.fn (s00) ?_|refine aM.fn (s11) ?_|refine aM.fn (s01) ?_|refine aM.fn (s10) ?_)|(refine gC ?_;first|refine cY ?_|refine cN ?_)|refine gI (gT (iA ?_)))<;>conv=>whnf
 all_goals try refine SgN.rules hl 2 a.op g.op _ rfl rfl rfl ?_
 all_goals
  conv=>whnf
  repeat' (refine gC ?_;first|refine cY ?_|refine cN ?_|(refine gD ?_;first|refine cI ?_|refine cJ ?_)|refine aq.dec (λhc=>?_) (λhc=>?_))<;>conv=>whnf
 all_goals try refine SgN.rules hl 2 a.op g.op _ rfl rfl rfl ?_
 all_goals
  conv=>whnf
  repeat' (first|(refine gC ?_;first|refine cY ?_|refine gD (cJ ?_))|refine af.nrm ?_)<;>conv=>whnf
 all_goals (simp_all[ruB]<;>omega)
def g2(op:Int)(x y:Tm):Gl:=⟨op,⟨⟨[]⟩⟩,[x,y]⟩
def MT(n:Int):Tm:=.mk 0 n ⟨⟨[]⟩⟩ []
theorem Ol(n:Int):Fun Tryz.prog 53 [.int .i64 n] (az n).avw:=by
 refine Fun.of (MG (by simp) ?_) rfl rfl
 conv=>whnf
 repeat' refine af.nrm ?_<;>conv=>whnf
 all_goals rfl
theorem NS(n:Int):Fun Tryz.prog 54 [.int .i64 n] (MT n).avw:=by
 refine Fun.of (MH (by simp) ?_) rfl rfl
 conv=>whnf
 repeat' refine af.nrm ?_<;>conv=>whnf
 all_goals rfl
theorem Om(s:ByteArray)(l:List Tm)(hl:l.length<=1000):Fun Tryz.prog 55 [.str s,.sl .no (l.map Tm.av)] (Tm.mk 2 0 s l).avw:=by
 refine Fun.of (MJ (by simp) ?_) rfl rfl
 conv=>whnf
 repeat' (first|refine gN (nS ?_)|refine af.nrm ?_)<;>conv=>whnf
 all_goals first|rfl|(simp [lim,glim];omega)
theorem L4(op:Int)(x y:Tm):Fun Tryz.prog 34 [.int .i64 op,x.avw,y.avw] (g2 op x y).av:=by
 refine Fun.of (MA (by simp) ?_) rfl rfl
 conv=>whnf
 repeat' refine af.nrm ?_<;>conv=>whnf
 all_goals (simp[g2,Gl.av,Tm.nK,Tm.avw])
theorem xu1:allI 10 100 [az 0] [.mk 2 0 ⟨⟨[102]⟩⟩ [az 0]]=some ([],13):=by kernel_rfl
theorem xu2:allI 10 100 [az 0] [.mk 2 0 ⟨⟨[97]⟩⟩ []]=some ([⟨0,.mk 2 0 ⟨⟨[97]⟩⟩ []⟩],0):=by kernel_rfl
theorem xe1:MQ (g2 7 (MT 3) (MT 5))=1:=by
 unfold MQ;generalize uni _ _=u;cases u<;>kernel_rfl
theorem xe2:MQ (g2 6 (az 0) (az 0))=2:=by
 unfold MQ;generalize uni _ _=u;cases u<;>kernel_rfl
theorem xe3:NF (g2 5 (az 0) (.mk 2 0 ⟨⟨[102]⟩⟩ [az 0])) false=2:=by kernel_rfl
theorem xe4:NF (g2 5 (az 0) (.mk 2 0 ⟨⟨[97]⟩⟩ [])) true=0:=by kernel_rfl
def xeb:List Bnd:=[⟨1,MT 5⟩]
def xek:List Gl:=[g2 7 (az 0) (az 1)]
theorem xe5:inG xeb xek (g2 7 (az 0) (MT 5)) (MQ (Nh xeb (g2 7 (az 0) (MT 5))))=1:=by
 unfold MQ;generalize uni _ _=u;cases u<;>kernel_rfl
theorem xe6:inG xeb xek (g2 7 (az 0) (MT 6)) (MQ (Nh xeb (g2 7 (az 0) (MT 6))))=0:=by
 unfold MQ;generalize uni _ _=u;cases u<;>kernel_rfl
theorem xe7:OO (g2 7 (az 0) (az 1)) (g2 8 (az 0) (az 1))=true:=by kernel_rfl
theorem xe8:OO (g2 7 (az 0) (az 1)) (g2 8 (az 1) (az 0))=false:=by kernel_rfl
set_option maxHeartbeats 4000000 in
theorem Nz:Fun Tryz.prog 23 [] (.bool true):=by
 have v0:=Ol 0;have v1:=Ol 1;have i5:=NS 5;have i3:=NS 3;have i6:=NS 6;have ff:=Om ⟨⟨[102]⟩⟩ [az 0] (by decide)
 have fa:=Om ⟨⟨[97]⟩⟩ [] (by decide)
 have k1:=L4 7 (az 0) (az 1);have k2:=L4 7 (MT 3) (MT 5);have k3:=L4 6 (az 0) (az 0);have k4:=L4 5 (az 0) (.mk 2 0 ⟨⟨[102]⟩⟩ [az 0]);have k5:=L4 5 (az 0) (.mk 2 0 ⟨⟨[97]⟩⟩ []);have k6:=L4 7 (az 0) (MT 5);have k7:=L4 7 (az 0) (MT 6);have k8:=L4 8 (az 0) (az 1);have k9:=L4 8 (az 1) (az 0);have t1:=M8 (g2 7 (MT 3) (MT 5)) (by decide) (by decide)
 rw[xe1] at t1;have t2:=M8 (g2 6 (az 0) (az 0)) (by decide) (by decide)
 rw[xe2] at t2;have u3:=ML ((rT _ _ _ _).trans xu1) (by decide)
 have t3:=Nk (g2 5 (az 0) (.mk 2 0 ⟨⟨[102]⟩⟩ [az 0])) false (by decide) u3
 rw[xe3] at t3;have u4:=ML ((rT _ _ _ _).trans xu2) (by decide)
 have t4:=Nk (g2 5 (az 0) (.mk 2 0 ⟨⟨[97]⟩⟩ [])) true (by decide) u4
 rw[xe4] at t4;have n1:=OS (b:=xeb) (known:=xek) (g:=g2 7 (az 0) (MT 5)) (by decide) (by decide) (by decide) (by decide) (M8 _ (by decide) (by decide))
 rw[xe5] at n1;have n2:=OS (b:=xeb) (known:=xek) (g:=g2 7 (az 0) (MT 6)) (by decide) (by decide) (by decide) (by decide) (M8 _ (by decide) (by decide))
 rw[xe6] at n2;have f1:=NA (g2 7 (az 0) (az 1)) (g2 8 (az 0) (az 1)) (by decide) (by decide)
 rw[xe7] at f1;have f2:=NA (g2 7 (az 0) (az 1)) (g2 8 (az 1) (az 0)) (by decide) (by decide)
 rw[xe8] at f2;refine Fun.of (L6 (by simp) ?_) rfl rfl
 conv=>whnf
 repeat' (first|(refine gF ?_;first|refine ab.fn (v0) ?_|refine ab.fn (v1) ?_|refine ab.fn (i5) ?_|refine ab.fn (k1) ?_)|(refine gG ?_;first|refine aM.fn (i3) ?_|refine aM.fn (i6) ?_|refine aM.fn (ff) ?_|refine aM.fn (fa) ?_|refine aM.fn (k2) ?_|refine aM.fn (k3) ?_|refine aM.fn (k4) ?_|refine aM.fn (k5) ?_|refine aM.fn (k6) ?_|refine aM.fn (k7) ?_|refine aM.fn (k8) ?_|refine aM.fn (k9) ?_|refine aM.fn (t1) ?_|refine aM.fn (t2) ?_|refine aM.fn (t3) ?_|refine aM.fn (t4) ?_|refine aM.fn (n1) ?_|refine aM.fn (n2) ?_|refine aM.fn (f1) ?_|refine aM.fn (f2) ?_)|(refine gC ?_;first|refine cY ?_|refine gD (cI ?_))|refine gI (iJ ?_)|refine af.nrm ?_)<;>conv=>whnf
 all_goals rfl
theorem QI(b:Bool):NO b=1\/NO b=2:=by cases b<;>simp[NO]
theorem PS{l:List Tm}{most:Int}(b1:-1<=most)(b2:most<=100000):Fun Tryz.prog 33 [slA Tm.av l,.int .i64 most] (.bool (decide (LR l most 64<0))):=by
 have hw:=Ow (l:=l) (left:=most) (deep:=64) (by omega) (by omega) (by omega) (by omega)
 refine Fun.of (Pe (by simp) ?_) rfl rfl
 conv=>whnf
 repeat' (first|refine gF (ab.fn (hw) ?_)|refine af.nrm ?_)<;>conv=>whnf
 all_goals rfl
def Pr(b:List Bnd):Bool:=decide (10<b.length)||b.any λx=>decide (LR [x.t] 40 64<0)
theorem PQ(b:List Bnd):Fun Tryz.prog 28 [.sl .no (b.map Bnd.av)] (.bool (Pr b)):=by
 unfold Pr
 by_cases hb:10<b.length
 .rw [decide_eq_true hb,Bool.true_or];have hb2:(10:Int)<b.length:=by omega
  refine Fun.of (O8 (by simp) ?_) rfl rfl
  conv=>whnf
  repeat' (first|refine gC (gD (cI ?_))|refine gL (.map ?_)|refine af.nrm ?_)<;>conv=>whnf
 rw[decide_eq_false hb,Bool.false_or];have hb2:¬(10:Int)<b.length:=by omega
 refine Fun.of (O8 (by simp) ?_) rfl rfl
 conv=>whnf
 repeat' (first|refine gC (gD (cJ ?_))|refine gL (.map ?_))<;>conv=>whnf
 refine aw.by (fb:=true) (λ_ (j:Nat)=>⟨[(0,.sl .no (b.map Bnd.av)),(3,.int .i64 (j:Int))],[],0⟩) (λj=>j<=b.length/\((b.drop j).any λx=>decide (LR [x.t] 40 64<0))=b.any λx=>decide (LR [x.t] 40 64<0)) (λj=>b.length-j) 0 ⟨ZJ _,rfl⟩ ?_ ?_
 .exact au
 .rintro j ⟨q1,q2⟩
  by_cases hj:j<b.length
  .obtain ⟨x,hx⟩:∃x,b[j]? =some x:=⟨_,ZA hj⟩;rw[ZH hj,(ZB.1 hx).2,List.any_cons] at q2;have hs:=PS (l:=[x.t]) (most:=40) (by decide) (by decide)
   simp only[slA,ZP,Yd,Tm.nK] at hs
   by_cases hc:LR [x.t] 40 64<0
   .rw [decide_eq_true hc] at hs;rw[decide_eq_true hc,Bool.true_or] at q2;rw[<-q2]
    conv=>whnf
    repeat' (first|refine gF (ab.fn (hs) ?_)|(refine gC ?_;first|refine cY ?_|refine gD (cI ?_))|refine gL (.map ?_)|refine gI (gM (iE ?_))|refine af.nrm ?_)<;>conv=>whnf
   .rw [decide_eq_false hc] at hs;rw[decide_eq_false hc,Bool.false_or] at q2
    conv=>whnf
    repeat' (first|refine gF (ab.fn (hs) ?_)|(refine gC ?_;first|refine cN ?_|refine gD (cI ?_))|refine gW (wI ?_)|refine gL (.map ?_)|refine gI (gM (iE ?_)))<;>conv=>whnf
    refine⟨j+1,⟨⟨hj,q2⟩,by omega⟩,?_⟩
    exact au
  .obtain rfl:j=b.length:=by omega
   rw[Zj,List.any_nil] at q2;rw[<-q2]
   conv=>whnf
   repeat' (first|refine gC (gD (cJ ?_))|refine gL (.map ?_)|refine af.nrm ?_)<;>conv=>whnf
theorem PR{b:List Bnd}(h:Pr b=false):b.length<=10/\∀x∈b,x.t.nodes<=40:=by
 unfold Pr at h;rw[Bool.or_eq_false_iff,decide_eq_false_iff_not,List.any_eq_false] at h;refine⟨by omega,λx hx=>?_⟩
 have h1:=h.2 x hx;simp only[decide_eq_true_eq] at h1;have:=NT (l:=[x.t]) (left:=40) (deep:=64) (by omega)
 simp only[Tm.ai] at this;omega
theorem PO:∀{b:List Bnd} {v:Int} {t:Tm},aX b v=some t->∃x∈b,x.t=t:=λh=>⟨_,Pw h,rfl⟩
mutual
theorem PG{b:List Bnd}(hb:∀x∈b,x.t.nodes<=40):∀t:Tm,(cR b t).nodes<=40*t.nodes
 |.mk k n s l=>by
  have hl:=Ph hb l
  by_cases h1:k=1
  .rw [HN (t:=.mk k n s l) h1];split
   .rename_i x hx;obtain⟨y,hy,e⟩:=PO hx;have:=hb y hy;rw[e] at this;rw[Tm.nodes];omega
   .omega
  .by_cases h2:k=2
   .rw [HM (t:=.mk k n s l) h2];rw[x7] at hl;show (Tm.mk k n s (l.map (cR b))).nodes<=_;rw[Tm.nodes,Tm.nodes];omega
   .rw [HL (t:=.mk k n s l) h1 h2];omega
theorem Ph{b:List Bnd}(hb:∀x∈b,x.t.nodes<=40):∀l:List Tm,Tm.ai (Ef b l)<=40*Tm.ai l
 |[]=>by simp[Ef,Tm.ai]
 |t::r=>by
  have h1:=PG hb t;have h2:=Ph hb r;simp only[Ef,Tm.ai];omega
end
theorem Ps{b:List Bnd}(hb:∀x∈b,x.t.nodes<=40)(g:Gl):Tm.ai (Nh b g).args<=40*Tm.ai g.args:=by
 have:=Ph hb g.args;rw[x7] at this;exact this
theorem Q1(op:Int)(a b:Tm):N3 op a b=0\/N3 op a b=1\/N3 op a b=2:=by
 unfold N3;split
 .exact .inr (QI _)
 .unfold MU;split
  .split
   .exact .inr (QI _)
   .exact .inl rfl
  .exact .inr (.inr rfl)
theorem Q0(g:Gl):MQ g=0\/MQ g=1\/MQ g=2:=by
 unfold MQ NF Oz
 repeat' split
 all_goals first|exact .inl rfl|exact .inr (.inl rfl)|exact .inr (QI _)|exact Q1 _ _ _
theorem Q2(b:List Bnd)(known:List Gl)(g:Gl):inG b known g (MQ (Nh b g))=0\/inG b known g (MQ (Nh b g))=1\/inG b known g (MQ (Nh b g))=2:=by
 unfold inG;split
 .exact .inr (.inl rfl)
 .exact Q0 _
theorem QW(b:List Bnd)(known l:List Gl):Fun Tryz.prog 10 [.sl .no (b.map Bnd.av),.sl .no (known.map Gl.av),.sl .no (l.map Gl.av)] (.bool true):=by
 have hlg:=PQ b;have g1:=ND (l:=known) (most:=100) (by decide) (by decide)
 have g2:=ND (l:=l) (most:=100) (by decide) (by decide)
 cases h1:Pr b with
 |true=>
  rw[h1] at hlg;refine Fun.of (Qu (by simp) ?_) rfl rfl
  conv=>whnf
  repeat' (first|(refine gF ?_;first|refine ab.fn (hlg) ?_|refine ab.fn (Nz) ?_)|refine gC (cY ?_)|refine af.nrm ?_)<;>conv=>whnf
 |false=>
 rw[h1] at hlg
 by_cases h2:known.length<=6
 rotate_left
 .have h22:(6:Int)<known.length:=by omega
  refine Fun.of (Qu (by simp) ?_) rfl rfl
  conv=>whnf
  repeat' (first|(refine gF ?_;first|refine ab.fn (hlg) ?_|refine ab.fn (Nz) ?_)|(refine gC ?_;first|refine cY ?_|refine cN ?_|refine gD (cI ?_))|refine gL (.map ?_)|refine af.nrm ?_)<;>conv=>whnf
 by_cases h3:l.length<=6
 rotate_left
 .have h33:(6:Int)<l.length:=by omega
  refine Fun.of (Qu (by simp) ?_) rfl rfl
  conv=>whnf
  repeat' (first|(refine gF ?_;first|refine ab.fn (hlg) ?_|refine ab.fn (Nz) ?_)|(refine gC ?_;first|refine cY ?_|refine cN ?_|(refine gD ?_;first|refine cI ?_|refine cJ ?_))|refine gL (.map ?_)|refine af.nrm ?_)<;>conv=>whnf
 cases h4:L2 (known.map gl2) 100 with
 |true=>
  rw[h4] at g1;refine Fun.of (Qu (by simp) ?_) rfl rfl
  conv=>whnf
  repeat' (first|(refine gF ?_;first|refine ab.fn (hlg) ?_|refine ab.fn (g1) ?_|refine ab.fn (Nz) ?_)|(refine gC ?_;first|refine cY ?_|refine cN ?_|refine gD (cJ ?_))|refine gL (.map ?_)|refine af.nrm ?_)<;>conv=>whnf
 |false=>
 rw[h4] at g1
 cases h5:L2 (l.map gl2) 100 with
 |true=>
  rw[h5] at g2;refine Fun.of (Qu (by simp) ?_) rfl rfl
  conv=>whnf
  repeat' (first|(refine gF ?_;first|refine ab.fn (hlg) ?_|refine ab.fn (g1) ?_|refine ab.fn (g2) ?_|refine ab.fn (Nz) ?_)|(refine gC ?_;first|refine cY ?_|refine cN ?_|refine gD (cJ ?_))|refine gL (.map ?_)|refine af.nrm ?_)<;>conv=>whnf
 |false=>
 rw[h5] at g2;obtain⟨hb1,hb2⟩:=PR h1
 have hI:∀g∈l,Fun Tryz.prog 32 [.sl .no (b.map Bnd.av),.sl .no (known.map Gl.av),g.av] (.int .i64 (inG b known g (MQ (Nh b g)))):=λg hg=>by
  have hq:=NZ h5 g hg;have hn:=Ps hb2 g;exact OS (by omega) (by omega) (by omega) (fun x hx=>by have:=NZ h4 x hx;omega) (M8 _ (by omega) (by show (g.args.map _).length<=_;rw[ZF];omega))
 have hR:∀g∈l,Fun Tryz.prog 35 [.sl .no (b.map Bnd.av),.sl .no (known.map Gl.av),g.av] (.int .i64 (inG b known g (MQ (Nh b g)))):=λg hg=>by
  have hq:=NZ h5 g hg;have hn:=Ps hb2 g;exact QX (by omega) (by omega) (by omega) (fun x hx=>by have:=NZ h4 x hx;omega) (by omega) (Ob _ (by omega) (by show (g.args.map _).length<=_;rw[ZF];omega))
 have hA:=Q3 hI λg _=>Q2 b known g;have hB:=QS hR λg _=>Q2 b known g;refine Fun.of (Qu (by simp) ?_) rfl rfl
 conv=>whnf
 repeat' (first|(refine gF ?_;first|refine ab.fn (hlg) ?_|refine ab.fn (g1) ?_|refine ab.fn (g2) ?_)|(refine gC ?_;first|refine cN ?_|refine gD (cJ ?_))|refine gL (.map ?_))<;>conv=>whnf
 refine aw.by (fb:=true) (λ_ (j:Nat)=>⟨[(0,.sl .no (b.map Bnd.av)),(1,.sl .no (known.map Gl.av)),(2,.sl .no (l.map Gl.av)),(7,.int .i64 (j:Int))],[],0⟩) (λj=>j<=l.length) (λj=>l.length-j) 0 (ZJ _) ?_ ?_
 .exact au
 .rintro j q1
  by_cases hj:j<l.length
  .obtain ⟨x,hx⟩:∃x,l[j]? =some x:=⟨_,ZA hj⟩;have i1:=hI x (ZE hx);have i2:=hR x (ZE hx)
   conv=>whnf
   repeat' (first|(refine gG ?_;first|refine aM.fn (i1) ?_|refine aM.fn (i2) ?_)|(refine gC ?_;first|refine .not ?_|refine gD (cI ?_))|refine gW (wI ?_)|refine gL (.map ?_)|refine gI (gM (iE ?_)))<;>conv=>whnf
   refine⟨j+1,⟨hj,by omega⟩,?_⟩
   exact au
  .obtain rfl:j=l.length:=by omega
   conv=>whnf
   repeat' (first|(refine gF ?_;first|refine ab.fn (hA) ?_|refine ab.fn (hB) ?_|refine ab.fn (Nz) ?_)|(refine gC ?_;(refine gD ?_;first|refine cI ?_|refine cJ ?_))|refine gL (.map ?_)|refine af.nrm ?_)<;>conv=>whnf
   all_goals rfl
theorem QO{b:List Bd}{known l:List Gl}:Fun Tryz.prog 10 [slA Bd.av b,slA Gl.av known,slA Gl.av l] (.bool true):=by
 have h:=QW (b.map Bd.bnd) known l;rw[List.map_map] at h;exact h
open Go.RowKit Go.AM
def sF(M:Hp):List AV->List Value->Prop
 |[],[]=>True
 |x::xs,v::vs=>FV M x v/\sF M xs vs
 |_,_=>False
theorem sF.len{M:Hp}:∀{xs:List AV} {vs:List Value},sF M xs vs->vs.length=xs.length
 |[],[],_=>rfl
 |_::xs,_::vs,h=>by simp[sF.len h.2]
 |[],_::_,h=>h.elim
 |_::_,[],h=>h.elim
theorem sF.get{M:Hp}:∀{xs:List AV} {vs:List Value},sF M xs vs->∀j (h:j<xs.length) v,vs[j]? =some v->FV M xs[j] v
 |[],[],_,j,h,_,_=>by cases h
 |_::xs,_::vs,h,0,_,v,hv=>by
  simp only[Yq,ZN] at hv
  subst hv;exact h.1
 |_::xs,_::vs,h,j+1,hj,v,hv=>sF.get h.2 j (by simpa using hj) v (by simpa using hv)
 |[],_::_,h,_,_,_,_=>h.elim
 |_::_,[],h,_,_,_,_=>h.elim
theorem Fun.calls{P:Program}{f:FuncId}{vals:List AV}{b:Bool}(h:Fun P f vals (.bool b)){w:World}{args:List Value}(ha:sF (Hp.of w) vals args):
  Calls P f args.toArray w λe w'=>e=.returned (.bool b)/\Ext w w':=by
 refine(((h []).mono (Q':=λr _=>r=.bool b) λr bs hq=>hq.1).calls (Hp.le_refl _) ha.len ha.get).mono ?_;rintro e w' ⟨v,r,bs',M',σ,n,rfl,rfl,hv,hx,_⟩;exact⟨by rw[hv.cB],hx⟩
open Go.RowKit Go.Proofs Go.ChangeShapes Go.WideShapes Go.ChangeAt
open Go.Proofs.YtahnpgfkkngimaaGreat.Rows (uptoBulk uptoBulkAll)
theorem Bs{H:Type}(d:DataW H):1<=uptoBulk d:=by
 cases d with
 |lit l=>cases l<;>simp[uptoBulk]
 |_=>simp[uptoBulk]
theorem om{H:Type}{d:DataW H}{l:List (DataW H)}(h:d∈l):uptoBulk d<=uptoBulkAll l:=by
 induction l with
 |nil=>cases h
 |cons x r ih=>
  simp only[uptoBulkAll]
  cases ZI.1 h with
  |inl e=>subst e;omega
  |inr e=>have:=ih e;omega
theorem HI{H:Type}(l:List (DataW H)):l.length<=uptoBulkAll l:=by
 induction l with
 |nil=>simp[uptoBulkAll]
 |cons x r ih=>have:=Bs x;simp only[uptoBulkAll,ZX];omega
section
variable{H:Type}{enc:TypeId×Value->H}{P:Program}{W:World}{spare:Nat->Bool}{held:Bool}
theorem Ju{α:Type}{T e:TypeId}{sz N:Nat}(hu:P.underlying T=some (.slice e))(hsz:P.cellsOf e=sz)(hp:0<sz)(R:List Value->α->Prop)(hN:0 ≤ N)
  (ih:∀(cs:List Value) (d:DataW H) (ps:List MemPlace) (fuel:Nat),DataW.trod enc P W 0 spare held fuel e cs=some (d,ps)->uptoBulk d<N->∃x,R cs x)
  {fuel:Nat} {cs:List Value} {d:DataW H} {ps:List MemPlace} (h:DataW.trod enc P W 0 spare held fuel T cs=some (d,ps)) (hb:uptoBulk d<=N):
  ∃(a:Option Addr) (l:List α) (cap:Nat),cs=[.slice a l.length cap]/\l.length<=cap/\Sl (Hp.of W) sz R a l/\l.length<=N:=by
 subst hsz;rcases Deep.open_slice hu h with ⟨rfl,_⟩|⟨a,len,cap,m,n,D,Pl,rfl,_,hlc,hcm,hm,hx,hel⟩
 .exact ⟨none,[],0,rfl,by simp,Sl.nil,by simp⟩
 .simp only[Prod.mk.injEq] at hx;obtain⟨rfl,_⟩:=hx;have hlm:len<=m:=by rw[hm];split<;>omega
  simp only[uptoBulk] at hb;have hlen:=HI ((List.range len).map D);rw[ZF,Yu] at hlen
  have hD:∀i,i<len->∃x cs',W.cells? 0 (a.add (i*P.cellsOf e)) (P.cellsOf e)=some cs'/\R cs' x:=λi hi=>by
   obtain⟨cs',h1,h2⟩:=hel i (by omega)
   have hbi:uptoBulk (D i)<=uptoBulkAll ((List.range len).map D):=om (Zk.2 ⟨i,by simpa using hi,rfl⟩)
   obtain⟨x,hx⟩:=ih cs' (D i) (Pl i) n h2 (by omega)
   exact⟨x,cs',h1,hx⟩
  refine⟨some a,List.ofFn (λi:Fin len=>(hD i.1 i.2).choose),cap,by simp,by simpa using hlc,⟨by simp only [List.length_ofFn];unfold maxLen at hcm;unfold lim;omega,λi hi=>?_⟩,by simp;omega⟩
  rw[List.length_ofFn] at hi
  have hspot:a.spot=none:=by
   obtain⟨cs',h1,_⟩:=hel 0 (by omega)
   obtain⟨_,h2,h3⟩:=World.cells?_some h1;have h4:=h3 0 hp;rw[ZA (by omega)] at h4
   simp only[Nat.zero_mul] at h4;have h5:(a.add 0).add 0=a:=by simp[Addr.add]
   rw[h5] at h4
   cases hs:a.spot with
   |none=>rfl
   |some k=>
    simp only[World.cell?,hs] at h4;split at h4<;>simp at h4
  obtain⟨cs',h1,h2⟩:=(hD i hi).choose_spec;obtain⟨_,h3,h4⟩:=World.cells?_some h1;have ha:a=⟨a.block,a.off,none⟩:=by cases a;simp only at hspot;subst hspot;rfl
  refine⟨a.block,a.off,cs',by rw[<-ha],h3,λj x hj=>?_,by simpa using h2⟩
  have hj2:j<P.cellsOf e:=by rw[<-h3];exact(ZB.1 hj).1
  have h5:=h4 j hj2;rw[Deep.add_add] at h5
  have h6:a.add (i*P.cellsOf e+j)=⟨a.block,a.off+i*P.cellsOf e+j,none⟩:=by
   unfold Addr.add;split
   .rename_i h0;rw[ha];simp;omega
   .simp
  rw[h6,hj] at h5;exact h5
end
theorem Bm:Tryz.prog.cellsOf 3=1:=by kernel_rfl
theorem HG:Tryz.prog.cellsOf 9=1:=by kernel_rfl
theorem HF:Tryz.prog.cellsOf 24=1:=by kernel_rfl
theorem y9:Tryz.prog.cellsOf 26=4:=by kernel_rfl
section
variable{H:Type}{enc:TypeId×Value->H}{W:World}{spare:Nat->Bool}{held:Bool}
theorem CL{fuel:Nat}{cs:List Value}{d:DataW H}{ps:List MemPlace}(h:DataW.trod enc Tryz.prog W 0 spare held fuel 3 cs=some (d,ps)):∃n,cs=[.int .i64 n]/\bW n:=by
 obtain⟨n,h1,_,h3⟩:=DataW.trod_int Tryz.underlying3 h;exact⟨n,h1,bW.K2 h3⟩
theorem JP{N fuel:Nat}{cs:List Value}{d:DataW H}{ps:List MemPlace}(h:DataW.trod enc Tryz.prog W 0 spare held fuel 9 cs=some (d,ps))(hb:uptoBulk d<=N):∃s:ByteArray,cs=[.string s]/\s.size<=lim:=by
 obtain⟨s,h1,_,h3⟩:=DataW.trod_string Tryz.underlying9 h;exact ⟨s,h1,by unfold maxLen at h3;unfold lim;omega⟩
theorem F1:∀(N:Nat),0 ≤ N->∀(cs:List Value) (d:DataW H) (ps:List MemPlace) (fuel:Nat),DataW.trod enc Tryz.prog W 0 spare held fuel 26 cs=some (d,ps)->uptoBulk d<=N->∃t,RTm (Hp.of W) cs t:=by
 intro N
 induction N using Nat.strongRecOn with
 |_ N ih=>
 intro hN cs d ps fuel h hb;obtain⟨y0,y1,y2,y3,n,hx,hl,h0,h1,h2,h3⟩:=Joins.trod_struct4 Tryz.underlying26 h;simp only[Prod.mk.injEq] at hx;obtain⟨rfl,_⟩:=hx;rw[y9] at hl
 match cs,hl with
 |[c0,c1,c2,c3],_=>
  simp only[Bm,HG,HF,Xb,List.drop_succ_cons,XN,YJ] at h0 h1 h2 h3;simp only[uptoBulk,uptoBulkAll] at hb;have:=Bs y3.1;obtain⟨k,e0,ik⟩:=CL h0;obtain⟨m,e1,im⟩:=CL h1;obtain⟨s,e2,is⟩:=JP (N:=N) h2 (by omega)
  obtain⟨a,l,cap,e3,hlc,hsl,_⟩:=Ju (N:=N-1) Tryz.underlying24 y9 (by omega) (RTm (Hp.of W)) (by omega) (λcs d ps fuel h hb=>ih (N-1) (by omega) (by omega) cs d ps fuel h (by omega)) h3 (by omega)
  simp only[XG,and_true] at e0 e1 e2 e3;subst e0;subst e1;subst e2;subst e3;exact⟨.mk k m s l,RTm.intro ik im is hlc hsl⟩
theorem Bl:Tryz.prog.cellsOf 56=5:=by kernel_rfl
theorem Ld(N:Nat)(hN:0 ≤ N)(cs:List Value)(d:DataW H)(ps:List MemPlace)(fuel:Nat)(h:DataW.trod enc Tryz.prog W 0 spare held fuel 56 cs=some (d,ps))(hb:uptoBulk d<=N):∃x,RBd (Hp.of W) cs x:=by
 obtain⟨y0,y1,n,hx,hl,h0,h1⟩:=trod_struct2 Tryz.underlying56 h;simp only[Prod.mk.injEq] at hx;obtain⟨rfl,_⟩:=hx;rw[Bl] at hl
 match cs,hl with
 |[c0,c1,c2,c3,c4],_=>
  simp only[Bm,y9,Xb,List.drop_succ_cons,XN,YJ] at h0 h1;simp only[uptoBulk,uptoBulkAll] at hb;obtain⟨v0,e0,i0⟩:=CL h0;obtain⟨v1,e1⟩:=F1 N hN _ _ _ _ h1 (by omega)
  simp only[XG,and_true] at e0;subst e0;exact⟨⟨v0,v1⟩,_,rfl,i0,e1⟩
theorem Kn(N:Nat)(hN:0 ≤ N)(cs:List Value)(d:DataW H)(ps:List MemPlace)(fuel:Nat)(h:DataW.trod enc Tryz.prog W 0 spare held fuel 23 cs=some (d,ps))(hb:uptoBulk d<=N):∃x,RSl 5 RBd (Hp.of W) cs x:=by
 obtain⟨a,l,k,e,h1,h2,_⟩:=Ju (N:=N) Tryz.underlying23 Bl (by omega) (RBd (Hp.of W)) hN (λcs d ps fuel h hb=>Ld N hN cs d ps fuel h (by omega)) h hb
 exact⟨l,a,k,e,h1,h2⟩
theorem OW(N:Nat)(hN:0 ≤ N)(cs:List Value)(d:DataW H)(ps:List MemPlace)(fuel:Nat)(h:DataW.trod enc Tryz.prog W 0 spare held fuel 24 cs=some (d,ps))(hb:uptoBulk d<=N):∃x,RSl 4 RTm (Hp.of W) cs x:=by
 obtain⟨a,l,k,e,h1,h2,_⟩:=Ju (N:=N) Tryz.underlying24 y9 (by omega) (RTm (Hp.of W)) hN (λcs d ps fuel h hb=>F1 N hN cs d ps fuel h (by omega)) h hb
 exact⟨l,a,k,e,h1,h2⟩
theorem OH:Tryz.prog.cellsOf 41=3:=by kernel_rfl
theorem O1(N:Nat)(hN:0 ≤ N)(cs:List Value)(d:DataW H)(ps:List MemPlace)(fuel:Nat)(h:DataW.trod enc Tryz.prog W 0 spare held fuel 41 cs=some (d,ps))(hb:uptoBulk d<=N):∃x,RGl (Hp.of W) cs x:=by
 obtain⟨y0,y1,y2,n,hx,hl,h0,h1,h2⟩:=Deep.trod_struct3 Tryz.underlying41 h;simp only[Prod.mk.injEq] at hx;obtain⟨rfl,_⟩:=hx;rw[OH] at hl
 match cs,hl with
 |[c0,c1,c2],_=>
  simp only[Bm,HG,HF,Xb,List.drop_succ_cons,XN,YJ] at h0 h1 h2;simp only[uptoBulk,uptoBulkAll] at hb;obtain⟨v0,e0,i0⟩:=CL h0;obtain⟨v1,e1,i1⟩:=JP (N:=N) h1 (by omega)
  obtain⟨v2,a2,k2,e2,l2,s2⟩:=OW N hN _ _ _ _ h2 (by omega)
  simp only[XG,and_true] at e0 e1 e2;subst e0;subst e1;subst e2;exact⟨⟨v0,v1,v2⟩,a2,k2,rfl,i0,i1,l2,s2⟩
theorem QY(N:Nat)(hN:0 ≤ N)(cs:List Value)(d:DataW H)(ps:List MemPlace)(fuel:Nat)(h:DataW.trod enc Tryz.prog W 0 spare held fuel 43 cs=some (d,ps))(hb:uptoBulk d<=N):∃x,RSl 3 RGl (Hp.of W) cs x:=by
 obtain⟨a,l,k,e,h1,h2,_⟩:=Ju (N:=N) Tryz.underlying43 OH (by omega) (RGl (Hp.of W)) hN (λcs d ps fuel h hb=>O1 N hN cs d ps fuel h (by omega)) h hb
 exact⟨l,a,k,e,h1,h2⟩
end
end Go.CK
