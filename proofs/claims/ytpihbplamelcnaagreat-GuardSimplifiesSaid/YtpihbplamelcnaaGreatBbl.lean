/-
  Texts of this aZ joined (wip/gen/bundle.py),those declarations only that are needed:AskD AskE AskF AskG AskH AskI AskJ AskK AskL AskM. By an AI agent.
-/
import Derived.Test.YtpihbplamelcnaaGreatBbk
set_option linter.unusedSimpArgs false
set_option linter.unusedVariables false
set_option maxRecDepth 100000
namespace Go.CK
open Go.AM Go.Proofs
def Tm.gnd(t:Tm):Bool:=decide (t.vs=[])
def nZ(a b:Tm):Int×Int×Int:=
 if a.jD=true/\b.jD=true then
  if a.gnd=true/\b.gnd=true then ((aL a).1,(aL b).1,uQ (decide ((aL a).2=0/\(aL b).2=0)))
  else (0,0,0)
 else (0,0,2)
def FZ(a b:Tm):AV:=.tup [.int .i64 (nZ a b).1,.int .i64 (nZ a b).2.1,.int .i64 (nZ a b).2.2]
theorem IT(a b:Tm):Fun Tryz.prog 91 [a.avw,b.avw] (FZ a b):=by
 have na:=AN a;have nb:=AN b;have ga:=tR a;have gb:=tR b;rw[show decide (a.vs=[])=a.gnd from rfl] at ga;rw[show decide (b.vs=[])=b.gnd from rfl] at gb;obtain⟨x,e,hx⟩:∃x e,aL a=(x,e):=⟨_,_,rfl⟩;obtain⟨y,f,hy⟩:∃y f,aL b=(y,f):=⟨_,_,rfl⟩;have ea:=IN a;rw[ct hx] at ea;have eb:=IN b;rw[ct hy] at eb;unfold FZ nZ;rw[hx,hy];cases h1:a.jD<;>rw[h1] at na
 .simp only[Zb,false_and,if_false];refine Fun.of (dc (by simp) ?_) rfl rfl
  conv=>whnf
  repeat' (first|refine gF (aa.fn (na) ?_)|(refine gC ?_;first|refine cY ?_|refine cN ?_|refine .not ?_)|refine ae.nrm ?_)<;>conv=>whnf
 cases h2:b.jD<;>rw[h2] at nb
 .simp only[Zb,and_false,if_false];refine Fun.of (dc (by simp) ?_) rfl rfl
  conv=>whnf
  repeat' (first|(refine gF ?_;first|refine aa.fn (na) ?_|refine aa.fn (nb) ?_)|(refine gC ?_;first|refine cY ?_|refine cN ?_|refine .not ?_)|refine ae.nrm ?_)<;>conv=>whnf
 cases h3:a.gnd<;>rw[h3] at ga
 .simp only[Zb,and_false,false_and,if_false,and_self,if_true];refine Fun.of (dc (by simp) ?_) rfl rfl
  conv=>whnf
  repeat' (first|(refine gF ?_;first|refine aa.fn (na) ?_|refine aa.fn (nb) ?_|refine aa.fn (ga) ?_)|(refine gC ?_;first|refine cY ?_|refine cN ?_|refine .not ?_)|refine ae.nrm ?_)<;>conv=>whnf
 cases h4:b.gnd<;>rw[h4] at gb
 .simp only[Zb,and_false,false_and,if_false,and_self,if_true];refine Fun.of (dc (by simp) ?_) rfl rfl
  conv=>whnf
  repeat' (first|(refine gF ?_;first|refine aa.fn (na) ?_|refine aa.fn (nb) ?_|refine aa.fn (ga) ?_|refine aa.fn (gb) ?_)|(refine gC ?_;first|refine cY ?_|refine cN ?_|refine .not ?_)|refine ae.nrm ?_)<;>conv=>whnf
 simp only[and_self,if_true]
 by_cases he:e=0
 .rw [show decide (e=0/\f=0)=decide (f=0) by rw[decide_eq_decide];exact⟨λq=>q.2,λq=>⟨he,q⟩⟩]
  refine Fun.of (dc (by simp) ?_) rfl rfl
  conv=>whnf
  repeat' (first|(refine gF ?_;first|refine aa.fn (na) ?_|refine aa.fn (nb) ?_|refine aa.fn (ga) ?_|refine aa.fn (gb) ?_|refine aa.fn (ea) ?_|refine aa.fn (eb) ?_|refine aa.fn (bE _) ?_)|(refine gC ?_;first|refine cY ?_|refine .not ?_|refine gD (cI ?_))|refine ae.nrm ?_)<;>conv=>whnf
 .rw [decide_eq_false (λq=>he q.1)];refine Fun.of (dc (by simp) ?_) rfl rfl
  conv=>whnf
  repeat' (first|(refine gF ?_;first|refine aa.fn (na) ?_|refine aa.fn (nb) ?_|refine aa.fn (ga) ?_|refine aa.fn (gb) ?_|refine aa.fn (ea) ?_|refine aa.fn (eb) ?_|refine aa.fn (bE false) ?_)|(refine gC ?_;first|refine cY ?_|refine .not ?_|refine gD (cJ ?_))|refine ae.nrm ?_)<;>conv=>whnf
def OM(op x y:Int):Bool:=if op=7 then decide (x<y) else if op=8 then decide (x<=y) else if op=9 then decide (x=y) else !decide (x=y)
def sK(op:Int)(a b:Tm):Int:=if (nZ a b).2.2=1 then uQ (OM op (nZ a b).1 (nZ a b).2.1) else (nZ a b).2.2
theorem Fc(opn:Int)(a b:Tm):Fun Tryz.prog 60 [.int .i64 opn,a.avw,b.avw] (.int .i64 (sK opn a b)):=by
 have hv:=IT a b;unfold FZ at hv;unfold sK;generalize nZ a b=q at hv;obtain⟨x,y,r⟩:=q;dsimp only at hv|-
 by_cases hr:r=1
 rotate_left
 .rw [if_neg hr];refine Fun.of (cW (by simp) ?_) rfl rfl
  conv=>whnf
  repeat' (first|refine gF (aa.fn (hv) ?_)|(refine gC ?_;first|refine .not ?_|refine gD (cJ ?_))|refine ae.nrm ?_)<;>conv=>whnf
 rw[if_pos hr];unfold OM
 by_cases h7:opn=7
 .rw [if_pos h7];refine Fun.of (cW (by simp) ?_) rfl rfl
  conv=>whnf
  repeat' (first|(refine gF ?_;first|refine aa.fn (hv) ?_|refine aa.fn (bE _) ?_)|(refine gC ?_;first|refine .not ?_|refine gD (cI ?_))|refine ae.nrm ?_)<;>conv=>whnf
  all_goals rfl
 rw[if_neg h7]
 by_cases h8:opn=8
 .rw [if_pos h8];refine Fun.of (cW (by simp) ?_) rfl rfl
  conv=>whnf
  repeat' (first|(refine gF ?_;first|refine aa.fn (hv) ?_|refine aa.fn (bE _) ?_)|(refine gC ?_;first|refine .not ?_|(refine gD ?_;first|refine cI ?_|refine cJ ?_))|refine ae.nrm ?_)<;>conv=>whnf
  all_goals rfl
 rw[if_neg h8]
 by_cases h9:opn=9
 .rw [if_pos h9];refine Fun.of (cW (by simp) ?_) rfl rfl
  conv=>whnf
  repeat' (first|(refine gF ?_;first|refine aa.fn (hv) ?_|refine aa.fn (bE _) ?_)|(refine gC ?_;first|refine .not ?_|(refine gD ?_;first|refine cI ?_|refine cJ ?_))|refine ae.nrm ?_)<;>conv=>whnf
  all_goals rfl
 rw[if_neg h9];refine Fun.of (cW (by simp) ?_) rfl rfl
 conv=>whnf
 repeat' (first|(refine gF ?_;first|refine aa.fn (hv) ?_|refine aa.fn (bE _) ?_)|(refine gC ?_;first|refine .not ?_|(refine gD ?_;first|refine cI ?_|refine cJ ?_))|refine ae.nrm ?_)<;>conv=>whnf
 all_goals rfl
theorem Cc(opn:Int)(a b:Tm)(ha:a.vs.length<=100000)(hb:b.vs.length<=100000):Fun Tryz.prog 66 [.int .i64 opn,a.avw,b.avw] (.int .i64 (sK opn a b)):=by
 have na:=wx a;have nb:=wx b;have ga:=mB ha;have gb:=mB hb;rw[show decide (a.vs=[])=a.gnd from rfl] at ga;rw[show decide (b.vs=[])=b.gnd from rfl] at gb;obtain⟨x,e,hx⟩:∃x e,aL a=(x,e):=⟨_,_,rfl⟩;obtain⟨y,f,hy⟩:∃y f,aL b=(y,f):=⟨_,_,rfl⟩;have ea:=FW a;rw[ct hx] at ea;have eb:=FW b;rw[ct hy] at eb;unfold sK nZ;rw[hx,hy];cases h1:a.jD<;>rw[h1] at na
 .simp only[Zb,false_and,if_false];rw[if_neg (by decide)]
  refine Fun.of (ay (by simp) ?_) rfl rfl
  conv=>whnf
  repeat' (first|refine gF (aa.fn (na) ?_)|(refine gC ?_;first|refine cY ?_|refine cN ?_|refine .not ?_)|refine ae.nrm ?_)<;>conv=>whnf
 cases h2:b.jD<;>rw[h2] at nb
 .simp only[Zb,and_false,if_false];rw[if_neg (by decide)]
  refine Fun.of (ay (by simp) ?_) rfl rfl
  conv=>whnf
  repeat' (first|(refine gF ?_;first|refine aa.fn (na) ?_|refine aa.fn (nb) ?_)|(refine gC ?_;first|refine cY ?_|refine cN ?_|refine .not ?_)|refine ae.nrm ?_)<;>conv=>whnf
 cases h3:a.gnd<;>rw[h3] at ga
 .simp only[Zb,and_false,false_and,if_false,and_self,if_true];rw[if_neg (by decide)]
  refine Fun.of (ay (by simp) ?_) rfl rfl
  conv=>whnf
  repeat' (first|(refine gF ?_;first|refine aa.fn (na) ?_|refine aa.fn (nb) ?_|refine aa.fn (ga) ?_)|(refine gC ?_;first|refine cY ?_|refine cN ?_|refine .not ?_)|refine ae.nrm ?_)<;>conv=>whnf
 cases h4:b.gnd<;>rw[h4] at gb
 .simp only[Zb,and_false,false_and,if_false,and_self,if_true];rw[if_neg (by decide)]
  refine Fun.of (ay (by simp) ?_) rfl rfl
  conv=>whnf
  repeat' (first|(refine gF ?_;first|refine aa.fn (na) ?_|refine aa.fn (nb) ?_|refine aa.fn (ga) ?_|refine aa.fn (gb) ?_)|(refine gC ?_;first|refine cY ?_|refine cN ?_|refine .not ?_)|refine ae.nrm ?_)<;>conv=>whnf
 simp only[and_self,if_true]
 by_cases he:e=0
 .by_cases hf:f=0
  .rw [decide_eq_true (show e=0/\f=0 from ⟨he,hf⟩),if_pos (show uQ true=1 from rfl)];unfold OM
   by_cases h7:opn=7
   .rw [if_pos h7];refine Fun.of (ay (by simp) ?_) rfl rfl
    conv=>whnf
    repeat' (first|(refine gF ?_;first|refine aa.fn (na) ?_|refine aa.fn (nb) ?_|refine aa.fn (ga) ?_|refine aa.fn (gb) ?_|refine aa.fn (ea) ?_|refine aa.fn (eb) ?_|refine aa.fn (dA _) ?_)|(refine gC ?_;first|refine cY ?_|refine .not ?_|refine gD (cI ?_))|refine ae.nrm ?_)<;>conv=>whnf
    all_goals rfl
   rw[if_neg h7]
   by_cases h8:opn=8
   .rw [if_pos h8];refine Fun.of (ay (by simp) ?_) rfl rfl
    conv=>whnf
    repeat' (first|(refine gF ?_;first|refine aa.fn (na) ?_|refine aa.fn (nb) ?_|refine aa.fn (ga) ?_|refine aa.fn (gb) ?_|refine aa.fn (ea) ?_|refine aa.fn (eb) ?_|refine aa.fn (dA _) ?_)|(refine gC ?_;first|refine cY ?_|refine .not ?_|(refine gD ?_;first|refine cI ?_|refine cJ ?_))|refine ae.nrm ?_)<;>conv=>whnf
    all_goals rfl
   rw[if_neg h8]
   by_cases h9:opn=9
   .rw [if_pos h9];refine Fun.of (ay (by simp) ?_) rfl rfl
    conv=>whnf
    repeat' (first|(refine gF ?_;first|refine aa.fn (na) ?_|refine aa.fn (nb) ?_|refine aa.fn (ga) ?_|refine aa.fn (gb) ?_|refine aa.fn (ea) ?_|refine aa.fn (eb) ?_|refine aa.fn (dA _) ?_)|(refine gC ?_;first|refine cY ?_|refine .not ?_|(refine gD ?_;first|refine cI ?_|refine cJ ?_))|refine ae.nrm ?_)<;>conv=>whnf
    all_goals rfl
   rw[if_neg h9];refine Fun.of (ay (by simp) ?_) rfl rfl
   conv=>whnf
   repeat' (first|(refine gF ?_;first|refine aa.fn (na) ?_|refine aa.fn (nb) ?_|refine aa.fn (ga) ?_|refine aa.fn (gb) ?_|refine aa.fn (ea) ?_|refine aa.fn (eb) ?_|refine aa.fn (dA _) ?_)|(refine gC ?_;first|refine cY ?_|refine .not ?_|(refine gD ?_;first|refine cI ?_|refine cJ ?_))|refine ae.nrm ?_)<;>conv=>whnf
   all_goals rfl
  .rw [decide_eq_false (λq=>hf q.2),if_neg (by decide)]
   refine Fun.of (ay (by simp) ?_) rfl rfl
   conv=>whnf
   repeat' (first|(refine gF ?_;first|refine aa.fn (na) ?_|refine aa.fn (nb) ?_|refine aa.fn (ga) ?_|refine aa.fn (gb) ?_|refine aa.fn (ea) ?_|refine aa.fn (eb) ?_)|(refine gC ?_;first|refine cY ?_|refine .not ?_|(refine gD ?_;first|refine cI ?_|refine cJ ?_))|refine ae.nrm ?_)<;>conv=>whnf
   all_goals rfl
 .rw [decide_eq_false (λq=>he q.1),if_neg (by decide)]
  refine Fun.of (ay (by simp) ?_) rfl rfl
  conv=>whnf
  repeat' (first|(refine gF ?_;first|refine aa.fn (na) ?_|refine aa.fn (nb) ?_|refine aa.fn (ga) ?_|refine aa.fn (gb) ?_|refine aa.fn (ea) ?_|refine aa.fn (eb) ?_)|(refine gC ?_;first|refine cY ?_|refine .not ?_|refine gD (cJ ?_))|refine ae.nrm ?_)<;>conv=>whnf
  all_goals rfl
theorem nB(a b:Gl):Fun Tryz.prog 32 [a.av,b.av] (.bool (a.same b)):=by
 unfold Gl.same
 by_cases h1:a.op=b.op
 rotate_left
 .rw [decide_eq_false h1,zw];refine Fun.of (dK (by simp) ?_) rfl rfl
  conv=>whnf
  repeat' (first|(refine gC ?_;first|refine cN ?_|refine gD (cJ ?_))|refine ae.nrm ?_)<;>conv=>whnf
  all_goals rfl
 rw[decide_eq_true h1,za]
 by_cases h2:a.name=b.name
 rotate_left
 .rw [decide_eq_false h2,zw];refine Fun.of (dK (by simp) ?_) rfl rfl
  conv=>whnf
  repeat' (first|(refine gC ?_;first|refine cN ?_|(refine gD ?_;first|refine cI ?_|refine cJ ?_))|refine ae.nrm ?_)<;>conv=>whnf
  all_goals rfl
 rw[decide_eq_true h2,za]
 by_cases h3:a.args.length=b.args.length
 rotate_left
 .rw [decide_eq_false h3,zw];refine Fun.of (dK (by simp) ?_) rfl rfl
  conv=>whnf
  repeat' (first|(refine gC ?_;(refine gD ?_;first|refine cI ?_|refine cJ ?_))|refine gL (.map ?_)|refine ae.nrm ?_)<;>conv=>whnf
  all_goals rfl
 rw[decide_eq_true h3,za];have hl:=MU h3;refine Fun.of (dK (by simp) ?_) rfl rfl
 conv=>whnf
 repeat' (first|refine gF (aa.fn (hl) ?_)|refine gC (gD (cI ?_))|refine gL (.map ?_)|refine ae.nrm ?_)<;>conv=>whnf
 all_goals rfl
def uni(a b:Tm):Bool:=match Df fN fF [a] [b] with
 |some (_,e)=>eA e
 |none=>false
theorem Mk{a b:Tm}(hN:a.nodes+b.nodes<=100000000):Fun Tryz.prog 59 [a.avw,b.avw] (.bool (uni a b)):=by
 obtain⟨out,e,h1,_⟩:=Mt (a:=[a]) (b:=[b]) (by simp only[Tm.aj];omega)
 have hu:uni a b=eA e:=by unfold uni;rw[h1]
 rw[hu];exact Dj h1 (by omega)
theorem Mj{a b:Tm}(hN:a.nodes+b.nodes<=100000000):Fun Tryz.prog 68 [a.avw,b.avw] (.bool (uni a b)):=by
 obtain⟨out,e,h1,h2⟩:=LM (a:=[a]) (b:=[b]) (by simp only[Tm.aj];omega)
 have hu:uni a b=eA e:=by unfold uni;rw[h1]
 rw[hu];exact FU h2 (by omega)
def dn:List (List Tm×ByteArray)->Int->Bool
 |[],most=>decide (most<0)
 |a::l,most=>if most<0 then true else dn l (bQ a.1 (most-1-(a.2.size:Int).tdiv 8) 64)
theorem qH(l:List (List Tm×ByteArray)){most:Int}(h:most<0):dn l most=true:=by
 cases l with
 |nil=>simpa[dn] using h
 |cons a l=>rw[dn,if_pos h]
theorem EN{l:List (List Tm×ByteArray)}{j:Nat}{x:List Tm×ByteArray}(hx:l[j]? =some x){most:Int}(h:0<=most):dn (l.drop j) most=dn (l.drop (j+1)) (bQ x.1 (most-1-(x.2.size:Int).tdiv 8) 64):=by
 obtain⟨h1,rfl⟩:=zB.1 hx;rw[zH h1,dn,if_neg (by omega)]
def gl2(a:Gl):List Tm×ByteArray:=(a.args,a.name)
theorem Ad{l:List Gl}{most:Int}(b1:-1<=most)(b2:most<=100000):Fun Tryz.prog 9 [slA Gl.av l,.int .i64 most] (.bool (dn (l.map gl2) most)):=by
 refine Fun.assume rfl λhg0=>?_;have hgs:=cE (hg0 (slA Gl.av l) (by simp))
 have hg:=hgs.1;have hml:(l.map gl2).length=l.length:=by simp
 refine Fun.of (gn (by simp) ?_) rfl rfl
 conv=>whnf
 skip;refine aD.by (fb:=true) (λs (q:Nat×Int)=>s.nI [(1,.int .i64 q.2),(5,.int .i64 q.1)]) (λq=>q.1<=l.length/\(-1<=q.2/\q.2<=100000)/\dn ((l.map gl2).drop q.1) q.2=dn (l.map gl2) most) (λq=>l.length-q.1) (0,most) ⟨zJ _,by simp only;omega,rfl⟩ ?_ ?_
 .exact aH
 .rintro ⟨j,r⟩ ⟨hj,hr,he⟩;dsimp only at hj hr he|-
  by_cases hlt:j<l.length
  .obtain ⟨x,hx⟩:∃x,l[j]? =some x:=⟨_,zA hlt⟩;have hx2:(l.map gl2)[j]? =some (gl2 x):=by rw[ZF,hx];rfl
   have hxs:=(Gl.good (hgs.2 x (zE hx))).1
   by_cases hr0:0<=r
   .rw [EN hx2 hr0,show (gl2 x).1=x.args from rfl,show (gl2 x).2=x.name from rfl] at he;have hw:=Dr (.mk 0 0 .empty x.args) (r-1-(x.name.size:Int).tdiv 8) 64;rw[show (Tm.mk 0 0 .empty x.args).args=x.args from rfl] at hw;have h8:=vi x.name.size
    conv=>whnf
    repeat' (first|(refine gG ?_;refine aX.fn (J4 (by omega) (by omega) (by omega) (by omega)) ?_)|refine gC (gD (cI ?_))|refine gW (wI ?_)|refine gL (.map ?_)|refine gN (nS ?_)|refine gI (gM (iE ?_)))<;>conv=>whnf
    refine⟨(j+1,bQ x.args (r-1-(x.name.size:Int).tdiv 8) 64),⟨⟨hlt,?_,he⟩,by simp only;omega⟩,?_⟩
    .simp only;omega
    .exact aH
   .rw [qH _ (by omega)] at he
    conv=>whnf
    repeat' (first|(refine gC ?_;(refine gD ?_;first|refine cI ?_|refine cJ ?_))|refine gL (.map ?_)|refine ae.nrm ?_)<;>conv=>whnf
    rw[<-he];simp;omega
  .have hje:j=l.length:=by omega
   subst hje;rw[<-hml,zj,dn] at he
   conv=>whnf
   repeat' (first|(refine gC ?_;first|refine cN ?_|refine gD (cJ ?_))|refine gL (.map ?_)|refine ae.nrm ?_)<;>conv=>whnf
   rw[<-he]
theorem Jb(t:Tm):∀left deep:Int,0<=t.wgh left deep->(t.nodes:Int)<=left-t.wgh left deep:=by
 induction t using Tm.bD with
 |h k m s l ih=>
  have hl:∀(r:List Tm),(∀t∈r,t∈l)->∀left deep:Int,0<=left->0<=Tm.iD r left deep->(Tm.aj r:Int)<=left-Tm.iD r left deep:=λr=>by
   induction r with
   |nil=>intro _ left deep h1 h2;simp only[Tm.iD,Tm.aj] at*;omega
   |cons t r ihr=>
    intro hm left deep h1 h2;rw[Tm.iD,if_neg (by omega)] at h2|-
    by_cases h3:0<=t.wgh left deep
    .have h4:=ih t (hm t (by simp)) left deep h3
     have h5:=ihr (λx hx=>hm x (by simp[hx])) (t.wgh left deep) deep h3 h2
     rw[Tm.aj];omega
    .rw [ve _ (by omega)] at h2;omega
  intro left deep h;rw[Tm.wgh] at h|-;have h8:=vi s.size;split at h
  .omega
  .rename_i hc;rw[if_neg hc];have h2:=hl l (λt h=>h) (left-1-(s.size:Int).tdiv 8) (deep-1) (by omega) h
   rw[Tm.nodes];omega
theorem tU{l:List Tm}{left deep:Int}(h:0<=bQ l left deep):(l.length:Int)<=left/\(Tm.aj l:Int)<=left/\bQ l left deep<=left:=by
 by_cases hc:deep=0\/left<l.length
 .rw [bQ,if_pos hc] at h;omega
 .rw [bQ,if_neg hc] at h|-
  have:∀(r:List Tm) (left:Int),0<=left->0<=Tm.iD r left deep->(Tm.aj r:Int)<=left-Tm.iD r left deep:=λr=>by
   induction r with
   |nil=>intro left h1 h2;simp only[Tm.iD,Tm.aj] at*;omega
   |cons t r ihr=>
    intro left h1 h2;rw[Tm.iD,if_neg (by omega)] at h2|-
    by_cases h3:0<=t.wgh left deep
    .have h4:=Jb t left deep h3;have h5:=ihr (t.wgh left deep) h3 h2;rw[Tm.aj];omega
    .rw [ve _ (by omega)] at h2;omega
  have:=this l left (by omega) h
  omega
theorem Be:∀{l:List (List Tm×ByteArray)} {most:Int},dn l most=false->∀y∈l,(y.1.length:Int)<=most/\(Tm.aj y.1:Int)<=most
 |[],_,_,y,hy=>by cases hy
 |a::l,most,h,y,hy=>by
  rw[dn] at h;split at h
  .cases h
  .have h8:=vi a.2.size
   have h0:0<=bQ a.1 (most-1-(a.2.size:Int).tdiv 8) 64:=by
    rcases Int.lt_or_le (bQ a.1 (most-1-(a.2.size:Int).tdiv 8) 64) 0 with h1|h1
    .rw [qH _ h1] at h;cases h
    .exact h1
   have h2:=tU h0;rcases zI.1 hy with rfl|hy
   .omega
   .have:=Be h y hy;omega
theorem EM{l:List Gl}{most:Int}(h:dn (l.map gl2) most=false):∀g∈l,(g.args.length:Int)<=most/\(Tm.aj g.args:Int)<=most:=λg hg=>Be h (gl2 g) (ZX hg)
end Go.CK
set_option maxRecDepth 100000
namespace Go.CK
open Go.AM Go.Proofs
def Ht(op:Int)(a b:Tm)(u:Bool):Int:=
 if op=11 then (if a.kind=1 then 0 else uQ (decide (a.kind=0)))
 else if op=12 then (if a.gnd=true then 1 else 0)
 else if op=5\/op=6 then (if a.cmp b=0 then uQ (decide (op=5)) else if u=true then 0 else uQ (decide (op=6)))
 else sK op a b
def arg(g:Gl)(i:Nat):Tm:=g.args.getD i (.mk 0 0 ⟨⟨[]⟩⟩ [])
def Dx(g:Gl)(u:Bool):Int:=if g.test=true then Ht g.op (arg g 0) (arg g 1) u else uQ (decide (g.op=1)&&g.right)
def jr(g:Gl):Int:=Dx g (uni (arg g 0) (arg g 1))
theorem Dw{g:Gl}(h:g.test=true):(5<=g.op/\g.op<=12)/\(g.args.length:Int)=arG g.op:=by
 unfold Gl.test at h;rw[zD,decide_eq_true_eq] at h;refine⟨h.1,?_⟩;have h2:=h.2;unfold Gl.right at h2;rw[if_neg (by omega)] at h2
 simp only[zD,decide_eq_true_eq] at h2;exact h2.2.2.1
theorem nv{g:Gl}{i:Nat}(h:i<g.args.length):g.args[i]? =some (arg g i):=by
 unfold arg;rw[List.getD_eq_getElem?_getD,zA h];rfl
theorem pI(g:Gl)(i:Nat):(arg g i).nodes<=Tm.aj g.args+1:=by
 by_cases h:i<g.args.length
 .have:=fK (zE (nv h));omega
 .unfold arg;rw[List.getD_eq_getElem?_getD,zR (by omega)]
  simp[Tm.nodes,Tm.aj]
theorem Kd(g:Gl)(u:Bool)(hl:g.args.length<=4000000000)(hu0:Fun Tryz.prog 59 [(arg g 0).avw,(arg g 1).avw] (.bool u)):Fun Tryz.prog 29 [g.av] (.int .i64 (Dx g u)):=by
 have hte:=BV g (by omega)
 have hrg:=sP g (by omega)
 unfold Dx
 cases ht:g.test with
 |false=>
  rw[ht] at hte;rw[if_neg Za]
  by_cases h1:g.op=1
  .rw [decide_eq_true h1,za];refine Fun.of (bB (by simp) ?_) rfl rfl
   conv=>whnf
   repeat' (first|(refine gF ?_;first|refine aa.fn (hte) ?_|refine aa.fn (hrg) ?_|refine aa.fn (bE _) ?_)|(refine gC ?_;first|refine cN ?_|refine .not ?_|refine gD (cI ?_))|refine ae.nrm ?_)<;>conv=>whnf
   all_goals rfl
  .rw [decide_eq_false h1,zw];refine Fun.of (bB (by simp) ?_) rfl rfl
   conv=>whnf
   repeat' (first|(refine gF ?_;first|refine aa.fn (hte) ?_|refine aa.fn (bE _) ?_)|(refine gC ?_;first|refine cN ?_|refine .not ?_|refine gD (cJ ?_))|refine ae.nrm ?_)<;>conv=>whnf
   all_goals rfl
 |true=>
 rw[ht] at hte;rw[if_pos rfl];obtain⟨hop,hlen⟩:=Dw ht;unfold arG at hlen;rw[if_neg (by omega)] at hlen
 unfold Ht;have hg0:0<g.args.length:=by split at hlen<;>omega
 have a0:=nv hg0;have ga:=tR (arg g 0)
 by_cases h11:g.op=11
 .rw [if_pos h11]
  by_cases hk:(arg g 0).kind=1
  .rw [if_pos hk];refine Fun.of (bB (by simp) ?_) rfl rfl
   conv=>whnf
   repeat' (first|refine gF (aa.fn (hte) ?_)|(refine gC ?_;first|refine cY ?_|refine .not ?_|refine gD (cI ?_))|refine gI (gT (iA ?_))|refine ae.nrm ?_)<;>conv=>whnf
   all_goals rfl
  .rw [if_neg hk];refine Fun.of (bB (by simp) ?_) rfl rfl
   conv=>whnf
   repeat' (first|(refine gF ?_;first|refine aa.fn (hte) ?_|refine aa.fn (bE _) ?_)|(refine gC ?_;first|refine cY ?_|refine .not ?_|(refine gD ?_;first|refine cI ?_|refine cJ ?_))|refine gI (gT (iA ?_))|refine ae.nrm ?_)<;>conv=>whnf
   all_goals rfl
 rw[if_neg h11]
 by_cases h12:g.op=12
 .rw [if_pos h12]
  cases hgn:(arg g 0).gnd with
  |true=>
   rw[show decide ((arg g 0).vs=[])=(arg g 0).gnd from rfl,hgn] at ga;rw[if_pos rfl];refine Fun.of (bB (by simp) ?_) rfl rfl
   conv=>whnf
   repeat' (first|(refine gF ?_;first|refine aa.fn (hte) ?_|refine aa.fn (ga) ?_)|(refine gC ?_;first|refine cY ?_|refine .not ?_|(refine gD ?_;first|refine cI ?_|refine cJ ?_))|refine gI (gT (iA ?_))|refine ae.nrm ?_)<;>conv=>whnf
   all_goals rfl
  |false=>
   rw[show decide ((arg g 0).vs=[])=(arg g 0).gnd from rfl,hgn] at ga;rw[if_neg Za];refine Fun.of (bB (by simp) ?_) rfl rfl
   conv=>whnf
   repeat' (first|(refine gF ?_;first|refine aa.fn (hte) ?_|refine aa.fn (ga) ?_)|(refine gC ?_;first|refine cY ?_|refine cN ?_|refine .not ?_|(refine gD ?_;first|refine cI ?_|refine cJ ?_))|refine gI (gT (iA ?_))|refine ae.nrm ?_)<;>conv=>whnf
   all_goals rfl
 rw[if_neg h12];rw[if_neg (by omega)] at hlen
 have hg1:1<g.args.length:=by omega
 have a1:=nv hg1;have hsa:=gh (arg g 0) (arg g 1);have hun:=hu0;have hco:=Fc g.op (arg g 0) (arg g 1)
 by_cases h56:g.op=5\/g.op=6
 rotate_left
 .rw [if_neg h56];refine Fun.of (bB (by simp) ?_) rfl rfl
  conv=>whnf
  repeat' (first|refine gF (aa.fn (hte) ?_)|refine gG (aX.fn (hco) ?_)|(refine gC ?_;first|refine cY ?_|refine .not ?_|refine gD (cJ ?_))|refine gI (gT (iA ?_))|refine ae.nrm ?_)<;>conv=>whnf
  all_goals rfl
 rw[if_pos h56]
 by_cases hc:(arg g 0).cmp (arg g 1)=0
 .rw [if_pos hc];rw[decide_eq_true hc] at hsa;rcases h56 with h5|h5
  .rw [decide_eq_true h5];refine Fun.of (bB (by simp) ?_) rfl rfl
   conv=>whnf
   repeat' (first|(refine gF ?_;first|refine aa.fn (hte) ?_|refine aa.fn (bE _) ?_)|refine gG (aX.fn (hsa) ?_)|(refine gC ?_;first|refine cY ?_|refine .not ?_|(refine gD ?_;first|refine cI ?_|refine cJ ?_))|refine gI (gT (iA ?_))|refine ae.nrm ?_)<;>conv=>whnf
   all_goals (rw[h5];rfl)
  .rw [decide_eq_false (show¬g.op=5 by omega)]
   refine Fun.of (bB (by simp) ?_) rfl rfl
   conv=>whnf
   repeat' (first|(refine gF ?_;first|refine aa.fn (hte) ?_|refine aa.fn (bE _) ?_)|refine gG (aX.fn (hsa) ?_)|(refine gC ?_;first|refine cY ?_|refine .not ?_|(refine gD ?_;first|refine cI ?_|refine cJ ?_))|refine gI (gT (iA ?_))|refine ae.nrm ?_)<;>conv=>whnf
   all_goals (rw[h5];rfl)
 rw[if_neg hc];rw[decide_eq_false hc] at hsa
 cases hu:u with
 |true=>
  rw[hu] at hun;rw[if_pos rfl];refine Fun.of (bB (by simp) ?_) rfl rfl
  conv=>whnf
  repeat' (first|refine gF (aa.fn (hte) ?_)|(refine gG ?_;first|refine aX.fn (hsa) ?_|refine aX.fn (hun) ?_)|(refine gC ?_;first|refine cY ?_|refine cN ?_|refine .not ?_|(refine gD ?_;first|refine cI ?_|refine cJ ?_)|refine al.dec (λhc=>?_) (λhc=>?_))|refine gI (gT (iA ?_))|refine ae.nrm ?_)<;>conv=>whnf
  all_goals rfl
 |false=>
  rw[hu] at hun;rw[if_neg Za];rcases h56 with h5|h5
  .rw [decide_eq_false (show¬g.op=6 by omega)]
   refine Fun.of (bB (by simp) ?_) rfl rfl
   conv=>whnf
   repeat' (first|(refine gF ?_;first|refine aa.fn (hte) ?_|refine aa.fn (bE _) ?_)|(refine gG ?_;first|refine aX.fn (hsa) ?_|refine aX.fn (hun) ?_)|(refine gC ?_;first|refine cY ?_|refine cN ?_|refine .not ?_|(refine gD ?_;first|refine cI ?_|refine cJ ?_))|refine gI (gT (iA ?_))|refine ae.nrm ?_)<;>conv=>whnf
   all_goals (rw[h5];rfl)
  .rw [decide_eq_true h5];refine Fun.of (bB (by simp) ?_) rfl rfl
   conv=>whnf
   repeat' (first|(refine gF ?_;first|refine aa.fn (hte) ?_|refine aa.fn (bE _) ?_)|(refine gG ?_;first|refine aX.fn (hsa) ?_|refine aX.fn (hun) ?_)|(refine gC ?_;first|refine cY ?_|refine cN ?_|refine .not ?_|(refine gD ?_;first|refine cI ?_|refine cJ ?_))|refine gI (gT (iA ?_))|refine ae.nrm ?_)<;>conv=>whnf
   all_goals (rw[h5];rfl)
theorem Nq(g:Gl)(hN:Tm.aj g.args<=90000)(hl:g.args.length<=4000000000):Fun Tryz.prog 29 [g.av] (.int .i64 (jr g)):=by
 have n0:=pI g 0;have n1:=pI g 1;exact Kd g _ hl (Mk (a:=arg g 0) (b:=arg g 1) (by omega))
theorem Gk(g:Gl)(hN:Tm.aj g.args<=90000)(hl:g.args.length<=4000000000):Fun Tryz.prog 33 [g.av] (.int .i64 (jr g)):=by
 have n0:=pI g 0;have n1:=pI g 1;have v0:=vf (arg g 0);have v1:=vf (arg g 1);have hte:=Jp g (by omega) (by omega)
 have hrg:=nF g (by omega) (by omega)
 have hu0:=Mj (a:=arg g 0) (b:=arg g 1) (by omega)
 unfold jr;generalize uni (arg g 0) (arg g 1)=u at hu0;unfold Dx
 cases ht:g.test with
 |false=>
  rw[ht] at hte;rw[if_neg Za]
  by_cases h1:g.op=1
  .rw [decide_eq_true h1,za];refine Fun.of (aw (by simp) ?_) rfl rfl
   conv=>whnf
   repeat' (first|(refine gF ?_;first|refine aa.fn (hte) ?_|refine aa.fn (hrg) ?_|refine aa.fn (dA _) ?_)|(refine gC ?_;first|refine cN ?_|refine .not ?_|refine gD (cI ?_))|refine ae.nrm ?_)<;>conv=>whnf
   all_goals rfl
  .rw [decide_eq_false h1,zw];refine Fun.of (aw (by simp) ?_) rfl rfl
   conv=>whnf
   repeat' (first|(refine gF ?_;first|refine aa.fn (hte) ?_|refine aa.fn (dA _) ?_)|(refine gC ?_;first|refine cN ?_|refine .not ?_|refine gD (cJ ?_))|refine ae.nrm ?_)<;>conv=>whnf
   all_goals rfl
 |true=>
 rw[ht] at hte;rw[if_pos rfl];obtain⟨hop,hlen⟩:=Dw ht;unfold arG at hlen;rw[if_neg (by omega)] at hlen
 unfold Ht;have hg0:0<g.args.length:=by split at hlen<;>omega
 have a0:=nv hg0;have ga:=mB (t:=arg g 0) (by omega)
 by_cases h11:g.op=11
 .rw [if_pos h11]
  by_cases hk:(arg g 0).kind=1
  .rw [if_pos hk];refine Fun.of (aw (by simp) ?_) rfl rfl
   conv=>whnf
   repeat' (first|refine gF (aa.fn (hte) ?_)|(refine gC ?_;first|refine cY ?_|refine .not ?_|refine gD (cI ?_))|refine gI (gT (iA ?_))|refine ae.nrm ?_)<;>conv=>whnf
   all_goals rfl
  .rw [if_neg hk];refine Fun.of (aw (by simp) ?_) rfl rfl
   conv=>whnf
   repeat' (first|(refine gF ?_;first|refine aa.fn (hte) ?_|refine aa.fn (dA _) ?_)|(refine gC ?_;first|refine cY ?_|refine .not ?_|(refine gD ?_;first|refine cI ?_|refine cJ ?_))|refine gI (gT (iA ?_))|refine ae.nrm ?_)<;>conv=>whnf
   all_goals rfl
 rw[if_neg h11]
 by_cases h12:g.op=12
 .rw [if_pos h12]
  cases hgn:(arg g 0).gnd with
  |true=>
   rw[show decide ((arg g 0).vs=[])=(arg g 0).gnd from rfl,hgn] at ga;rw[if_pos rfl];refine Fun.of (aw (by simp) ?_) rfl rfl
   conv=>whnf
   repeat' (first|(refine gF ?_;first|refine aa.fn (hte) ?_|refine aa.fn (ga) ?_)|(refine gC ?_;first|refine cY ?_|refine .not ?_|(refine gD ?_;first|refine cI ?_|refine cJ ?_))|refine gI (gT (iA ?_))|refine ae.nrm ?_)<;>conv=>whnf
   all_goals rfl
  |false=>
   rw[show decide ((arg g 0).vs=[])=(arg g 0).gnd from rfl,hgn] at ga;rw[if_neg Za];refine Fun.of (aw (by simp) ?_) rfl rfl
   conv=>whnf
   repeat' (first|(refine gF ?_;first|refine aa.fn (hte) ?_|refine aa.fn (ga) ?_)|(refine gC ?_;first|refine cY ?_|refine cN ?_|refine .not ?_|(refine gD ?_;first|refine cI ?_|refine cJ ?_))|refine gI (gT (iA ?_))|refine ae.nrm ?_)<;>conv=>whnf
   all_goals rfl
 rw[if_neg h12];rw[if_neg (by omega)] at hlen
 have hg1:1<g.args.length:=by omega
 have a1:=nv hg1;have hsa:=Kw (arg g 0) (arg g 1);have hun:=hu0;have hco:=Cc g.op (arg g 0) (arg g 1) (by omega) (by omega)
 by_cases h56:g.op=5\/g.op=6
 rotate_left
 .rw [if_neg h56];refine Fun.of (aw (by simp) ?_) rfl rfl
  conv=>whnf
  repeat' (first|(refine gF ?_;first|refine aa.fn (hte) ?_|refine aa.fn (hco) ?_)|(refine gC ?_;first|refine cY ?_|refine .not ?_|refine gD (cJ ?_))|refine gI (gT (iA ?_))|refine ae.nrm ?_)<;>conv=>whnf
  all_goals rfl
 rw[if_pos h56]
 by_cases hc:(arg g 0).cmp (arg g 1)=0
 .rw [if_pos hc];rw[decide_eq_true hc] at hsa;rcases h56 with h5|h5
  .rw [decide_eq_true h5];refine Fun.of (aw (by simp) ?_) rfl rfl
   conv=>whnf
   repeat' (first|(refine gF ?_;first|refine aa.fn (hte) ?_|refine aa.fn (hsa) ?_|refine aa.fn (dA _) ?_)|(refine gC ?_;first|refine cY ?_|refine cN ?_|refine .not ?_|(refine gD ?_;first|refine cI ?_|refine cJ ?_))|refine gI (gT (iA ?_))|refine ae.nrm ?_)<;>conv=>whnf
   all_goals (rw[h5];rfl)
  .rw [decide_eq_false (show¬g.op=5 by omega)]
   refine Fun.of (aw (by simp) ?_) rfl rfl
   conv=>whnf
   repeat' (first|(refine gF ?_;first|refine aa.fn (hte) ?_|refine aa.fn (hsa) ?_|refine aa.fn (dA _) ?_)|(refine gC ?_;first|refine cY ?_|refine .not ?_|(refine gD ?_;first|refine cI ?_|refine cJ ?_))|refine gI (gT (iA ?_))|refine ae.nrm ?_)<;>conv=>whnf
   all_goals (rw[h5];rfl)
 rw[if_neg hc];rw[decide_eq_false hc] at hsa
 cases hu:u with
 |true=>
  rw[hu] at hun;rw[if_pos rfl];refine Fun.of (aw (by simp) ?_) rfl rfl
  conv=>whnf
  repeat' (first|(refine gF ?_;first|refine aa.fn (hte) ?_|refine aa.fn (hsa) ?_|refine aa.fn (hun) ?_)|(refine gC ?_;first|refine cY ?_|refine cN ?_|refine .not ?_|(refine gD ?_;first|refine cI ?_|refine cJ ?_)|refine al.dec (λhc=>?_) (λhc=>?_))|refine gI (gT (iA ?_))|refine ae.nrm ?_)<;>conv=>whnf
  all_goals rfl
 |false=>
  rw[hu] at hun;rw[if_neg Za];rcases h56 with h5|h5
  .rw [decide_eq_false (show¬g.op=6 by omega)]
   refine Fun.of (aw (by simp) ?_) rfl rfl
   conv=>whnf
   repeat' (first|(refine gF ?_;first|refine aa.fn (hte) ?_|refine aa.fn (hsa) ?_|refine aa.fn (hun) ?_|refine aa.fn (dA _) ?_)|(refine gC ?_;first|refine cY ?_|refine cN ?_|refine .not ?_|(refine gD ?_;first|refine cI ?_|refine cJ ?_))|refine gI (gT (iA ?_))|refine ae.nrm ?_)<;>conv=>whnf
   all_goals (rw[h5];rfl)
  .rw [decide_eq_true h5];refine Fun.of (aw (by simp) ?_) rfl rfl
   conv=>whnf
   repeat' (first|(refine gF ?_;first|refine aa.fn (hte) ?_|refine aa.fn (hsa) ?_|refine aa.fn (hun) ?_|refine aa.fn (dA _) ?_)|(refine gC ?_;first|refine cY ?_|refine cN ?_|refine .not ?_|(refine gD ?_;first|refine cI ?_|refine cJ ?_))|refine gI (gT (iA ?_))|refine ae.nrm ?_)<;>conv=>whnf
   all_goals (rw[h5];rfl)
end Go.CK
set_option maxRecDepth 100000
namespace Go.CK
open Go.AM Go.Proofs
end Go.CK
set_option maxRecDepth 100000
namespace Go.CK
open Go.AM Go.Proofs
end Go.CK
set_option maxRecDepth 100000
namespace Go.CK
open Go.AM Go.Proofs
def ruB(x y:Int)(c:Bool):Bool:=match c with
 |false=>decide (x=7/\y=8\/x=7/\y=10\/x=9/\y=8)
 |true=>decide (x=7/\y=10\/x=9/\y=8\/x=9/\y=9\/x=10/\y=10\/x=5/\y=5\/x=6/\y=6)
theorem vm{cs:List AV}{ks:List FK}:∀{l:List (List AV×AV)} {b:Bool},(∀e∈l,e.2=.bool true/\∃q,fD ks cs e.1=some q)->(b=true↔∃e∈l,fD ks cs e.1=some true)->nD ks cs l=some (match b with|true=>some (.bool true)|false=>none)
 |[],b,_,hb=>by
  cases b with
  |true=>obtain⟨e,he,_⟩:=hb.1 rfl;cases he
  |false=>rfl
 |(k,x)::l,b,h,hb=>by
  obtain⟨h1,q,h2⟩:=h _ (zV ..);dsimp only at h1 h2;simp only[nD,h2]
  cases q with
  |true=>
   have:b=true:=hb.2 ⟨_,zV ..,h2⟩
   rw[this,h1]
  |false=>
   refine vm (λe he=>h e (zQ _ he)) (hb.trans ⟨?_,?_⟩)
   .rintro ⟨e,he,h3⟩;rcases zI.1 he with rfl|he
    .rw [h2] at h3;cases h3
    .exact ⟨e,he,h3⟩
   .rintro ⟨e,he,h3⟩;exact⟨e,zQ _ he,h3⟩
theorem NL(x y a b:Int)(c d:Bool):fD [.i,.i,.b] (kk x y c) (kk a b d)=some (decide (x=a)&&(decide (y=b)&&(decide (c=d)&&true))):=rfl
theorem Ma{k:List AV}(h:k∈RKs):∃a b c,k=kk a b c:=by
 simp only[RKs,zI,yh,or_false] at h;rcases h with rfl|rfl|rfl|rfl|rfl|rfl|rfl|rfl|rfl<;>exact⟨_,_,_,rfl⟩
theorem Gd{l:List (List AV×AV)}(h:Dk l)(x y:Int)(c:Bool):nD [.i,.i,.b] (kk x y c) l=some (match ruB x y c with|true=>some (.bool true)|false=>none):=by
 refine vm (λe he=>⟨(h.1 e he).1,?_⟩) ?_
 .obtain ⟨a,b,d,hk⟩:=Ma (h.1 e he).2;rw[hk];exact⟨_,NL ..⟩
 .have h1:(∃e∈l,fD [.i,.i,.b] (kk x y c) e.1=some true)↔∃k∈RKs,fD [.i,.i,.b] (kk x y c) k=some true:=by
   constructor
   .rintro ⟨e,he,h3⟩;exact⟨e.1,(h.1 e he).2,h3⟩
   .rintro ⟨k,hk,h3⟩;obtain⟨e,he,rfl⟩:=h.2 k hk;exact⟨e,he,h3⟩
  rw[h1];simp only[RKs,zI,yh,or_false,exists_eq_or_imp,NL,exists_eq_left,zN,Bool.and_true,zD,decide_eq_true_eq];cases c<;>simp[ruB]
theorem vr{l:List (List AV×AV)}(h:Dk l):I2 l:=λe he=>by
 obtain⟨h1,h2⟩:=h.1 e he;obtain⟨a,b,d,hk⟩:=Ma h2;rw[h1,hk];exact⟨rfl,rfl⟩
theorem SgN.rules{s:St}{m k:AV}{K:AV->Prop}{l:List (List AV×AV)}(h:Dk l)(b:Nat)(x y:Int)(c:Bool)(hm:m=.mpt b)(hk:k=.agg (kk x y c))(hb:s.bs[b]? =some (.loop (mLB (skE 0 l) l.length)))(hK:K (.bool (ruB x y c))):SgN [.i,.i,.b] false (.bool false) s m k K:=by
 have hf:=Gd h x y c
 cases hr:ruB x y c with
 |true=>
  rw[hr] at hf hK
  exact⟨b,kk x y c,l,_,some (.bool true),hm,hk,hb,rfl,⟨rfl,rfl⟩,vr h,hf,λy hy=>by cases hy;exact hK,λe=>by cases e⟩
 |false=>
  rw[hr] at hf hK;exact⟨b,kk x y c,l,_,none,hm,hk,hb,rfl,⟨rfl,rfl⟩,vr h,hf,(λy hy=>by cases hy),λ_=>hK⟩
def O2(a g:Gl):Bool:=decide ((arg a 0).cmp (arg g 0)=0)&&decide ((arg a 1).cmp (arg g 1)=0)
def Pw(a g:Gl):Bool:=decide ((arg a 0).cmp (arg g 1)=0)&&decide ((arg a 1).cmp (arg g 0)=0)
def CQ(a g:Gl):Bool:=
 if a.test=true/\g.test=true then
  if a.same g=true then true
  else if a.args.length=2/\g.args.length=2 then O2 a g&&ruB a.op g.op false||Pw a g&&ruB a.op g.op true
  else false
 else false
set_option maxHeartbeats 2000000 in
theorem Ho(a g:Gl)(hla:a.args.length<=4000000000)(hlg:g.args.length<=4000000000):Fun Tryz.prog 44 [a.av,g.av] (.bool (CQ a g)):=by
 have ta:=BV a (by omega)
 have tg:=BV g (by omega)
 have sg:=nB a g;unfold CQ
 cases hta:a.test with
 |false=>
  rw[hta] at ta;rw[if_neg (by simp)]
  refine Fun.of (cC (by simp) ?_) rfl rfl
  conv=>whnf
  repeat' (first|refine gF (aa.fn (ta) ?_)|(refine gC ?_;first|refine cY ?_|refine cN ?_|refine .not ?_)|refine ae.nrm ?_)<;>conv=>whnf
 |true=>
 rw[hta] at ta
 cases htg:g.test with
 |false=>
  rw[htg] at tg;rw[if_neg (by simp)]
  refine Fun.of (cC (by simp) ?_) rfl rfl
  conv=>whnf
  repeat' (first|(refine gF ?_;first|refine aa.fn (ta) ?_|refine aa.fn (tg) ?_)|(refine gC ?_;first|refine cY ?_|refine cN ?_|refine .not ?_)|refine ae.nrm ?_)<;>conv=>whnf
 |true=>
 rw[htg] at tg;rw[if_pos ⟨rfl,rfl⟩]
 cases hsg:a.same g with
 |true=>
  rw[hsg] at sg;rw[if_pos rfl];refine Fun.of (cC (by simp) ?_) rfl rfl
  conv=>whnf
  repeat' (first|(refine gF ?_;first|refine aa.fn (ta) ?_|refine aa.fn (tg) ?_|refine aa.fn (sg) ?_)|(refine gC ?_;first|refine cY ?_|refine .not ?_)|refine ae.nrm ?_)<;>conv=>whnf
 |false=>
 rw[hsg] at sg;rw[if_neg Za]
 by_cases h2:a.args.length=2
 rotate_left
 .rw [if_neg (λe=>h2 e.1)];refine Fun.of (cC (by simp) ?_) rfl rfl
  conv=>whnf
  repeat' (first|(refine gF ?_;first|refine aa.fn (ta) ?_|refine aa.fn (tg) ?_|refine aa.fn (sg) ?_)|(refine gC ?_;first|refine cY ?_|refine cN ?_|refine .not ?_|refine gD (cJ ?_))|refine gL (.map ?_)|refine ae.nrm ?_)<;>conv=>whnf
 by_cases h3:g.args.length=2
 rotate_left
 .rw [if_neg (λe=>h3 e.2)];refine Fun.of (cC (by simp) ?_) rfl rfl
  conv=>whnf
  repeat' (first|(refine gF ?_;first|refine aa.fn (ta) ?_|refine aa.fn (tg) ?_|refine aa.fn (sg) ?_)|(refine gC ?_;first|refine cY ?_|refine cN ?_|refine .not ?_|(refine gD ?_;first|refine cI ?_|refine cJ ?_))|refine gL (.map ?_)|refine ae.nrm ?_)<;>conv=>whnf
 rw[if_pos ⟨h2,h3⟩];have a0:=nv (g:=a) (i:=0) (by omega)
 have a1:=nv (g:=a) (i:=1) (by omega)
 have g0:=nv (g:=g) (i:=0) (by omega)
 have g1:=nv (g:=g) (i:=1) (by omega)
 have s00:=gh (arg a 0) (arg g 0);have s11:=gh (arg a 1) (arg g 1);have s01:=gh (arg a 0) (arg g 1);have s10:=gh (arg a 1) (arg g 0);unfold O2 Pw;generalize decide ((arg a 0).cmp (arg g 0)=0)=b00 at s00;generalize decide ((arg a 1).cmp (arg g 1)=0)=b11 at s11;generalize decide ((arg a 0).cmp (arg g 1)=0)=b01 at s01;generalize decide ((arg a 1).cmp (arg g 0)=0)=b10 at s10;refine Fun.of (cC (by simp) ?_) rfl rfl
 conv=>whnf
 repeat' (first|(refine gF ?_;first|refine aa.fn (ta) ?_|refine aa.fn (tg) ?_|refine aa.fn (sg) ?_)|(refine gC ?_;first|refine cY ?_|refine cN ?_|refine .not ?_|refine gD (cI ?_))|refine gL (.map ?_))<;>conv=>whnf
 refine aa.raw (KC _) ?_;rintro r bs' ⟨l,hl,rfl,rfl⟩;cases b00<;>cases b11<;>cases b01<;>cases b10
 all_goals
  conv=>whnf
  repeat' (first|(refine gG ?_;first|refine aX.fn (s00) ?_|refine aX.fn (s11) ?_|refine aX.fn (s01) ?_|refine aX.fn (s10) ?_)|(refine gC ?_;first|refine cY ?_|refine cN ?_)|refine gI (gT (iA ?_)))<;>conv=>whnf
 all_goals try refine SgN.rules hl 2 a.op g.op _ rfl rfl rfl ?_
 all_goals
  conv=>whnf
  repeat' (refine gC ?_;first|refine cY ?_|refine cN ?_|(refine gD ?_;first|refine cI ?_|refine cJ ?_)|refine al.dec (λhc=>?_) (λhc=>?_))<;>conv=>whnf
 all_goals try refine SgN.rules hl 2 a.op g.op _ rfl rfl rfl ?_
 all_goals
  conv=>whnf
  repeat' (first|(refine gC ?_;first|refine cY ?_|refine gD (cJ ?_))|refine ae.nrm ?_)<;>conv=>whnf
 all_goals (simp_all[ruB]<;>omega)
end Go.CK
set_option maxRecDepth 100000
namespace Go.CK
open Go.AM Go.Proofs
def g2(op:Int)(x y:Tm):Gl:=⟨op,⟨⟨[]⟩⟩,[x,y]⟩
end Go.CK
set_option maxRecDepth 100000
namespace Go.CK
open Go.AM Go.Proofs
def CJ(n:Int):Tm:=.mk 0 n ⟨⟨[]⟩⟩ []
theorem IK(n:Int):Fun Tryz.prog 37 [.int .i64 n] (bc n).avw:=by
 refine Fun.of (mR (by simp) ?_) rfl rfl
 conv=>whnf
 repeat' refine ae.nrm ?_<;>conv=>whnf
 all_goals rfl
theorem Dp(n:Int):Fun Tryz.prog 38 [.int .i64 n] (CJ n).avw:=by
 refine Fun.of (mT (by simp) ?_) rfl rfl
 conv=>whnf
 repeat' refine ae.nrm ?_<;>conv=>whnf
 all_goals rfl
end Go.CK
set_option maxRecDepth 100000
namespace Go.CK
open Go.AM Go.Proofs
theorem CW(b:Bool):uQ b=1\/uQ b=2:=by cases b<;>simp[uQ]
end Go.CK
set_option maxRecDepth 100000
namespace Go.CK
open Go.AM Go.Proofs
theorem M9(op:Int)(a b:Tm):sK op a b=0\/sK op a b=1\/sK op a b=2:=by
 unfold sK;split
 .exact .inr (CW _)
 .unfold nZ;split
  .split
   .exact .inr (CW _)
   .exact .inl rfl
  .exact .inr (.inr rfl)
theorem Hs(g:Gl):jr g=0\/jr g=1\/jr g=2:=by
 unfold jr Dx Ht
 repeat' split
 all_goals first|exact .inl rfl|exact .inr (.inl rfl)|exact .inr (CW _)|exact M9 _ _ _
end Go.CK
set_option maxRecDepth 100000
namespace Go.CK
open Go.AM Go.Proofs
end Go.CK
