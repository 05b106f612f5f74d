/-
  Texts of this aQ joined (wip/gen/bundle.py),those declarations only that are needed:AskD AskE AskF AskG AskH AskI AskJ AskK AskL AskM AskN. By an AI agent.
-/
import Derived.Test.YtahnpgfkkngimaaGreatBcb
set_option linter.unusedSimpArgs false
set_option linter.unusedVariables false
set_option maxRecDepth 100000
namespace Go.CK
open Go.AM Go.Proofs
def Tm.gnd(t:Tm):Bool:=decide (t.vs=[])
def MU(a b:Tm):Int×Int×Int:=
 if a.Mm=true/\b.Mm=true then
  if a.gnd=true/\b.gnd=true then ((aR a).1,(aR b).1,NO (decide ((aR a).2=0/\(aR b).2=0)))
  else (0,0,0)
 else (0,0,2)
def N7(a b:Tm):AV:=.tup [.int .i64 (MU a b).1,.int .i64 (MU a b).2.1,.int .i64 (MU a b).2.2]
theorem Oo(a b:Tm):Fun Tryz.prog 99 [a.avw,b.avw] (N7 a b):=by
 have na:=NI a;have nb:=NI b;have ga:=Nb a;have gb:=Nb b;rw[show decide (a.vs=[])=a.gnd from rfl] at ga;rw[show decide (b.vs=[])=b.gnd from rfl] at gb;obtain⟨x,e,hx⟩:∃x e,aR a=(x,e):=⟨_,_,rfl⟩;obtain⟨y,f,hy⟩:∃y f,aR b=(y,f):=⟨_,_,rfl⟩;have ea:=Jq a;rw[lV hx] at ea;have eb:=Jq b;rw[lV hy] at eb;unfold N7 MU;rw[hx,hy];cases h1:a.Mm<;>rw[h1] at na
 .simp only[YZ,false_and,if_false];refine Fun.of (LV (by simp) ?_) rfl rfl
  conv=>whnf
  repeat' (first|refine gF (ab.fn (na) ?_)|(refine gC ?_;first|refine cY ?_|refine cN ?_|refine .not ?_)|refine af.nrm ?_)<;>conv=>whnf
 cases h2:b.Mm<;>rw[h2] at nb
 .simp only[YZ,and_false,if_false];refine Fun.of (LV (by simp) ?_) rfl rfl
  conv=>whnf
  repeat' (first|(refine gF ?_;first|refine ab.fn (na) ?_|refine ab.fn (nb) ?_)|(refine gC ?_;first|refine cY ?_|refine cN ?_|refine .not ?_)|refine af.nrm ?_)<;>conv=>whnf
 cases h3:a.gnd<;>rw[h3] at ga
 .simp only[YZ,and_false,false_and,if_false,and_self,if_true];refine Fun.of (LV (by simp) ?_) rfl rfl
  conv=>whnf
  repeat' (first|(refine gF ?_;first|refine ab.fn (na) ?_|refine ab.fn (nb) ?_|refine ab.fn (ga) ?_)|(refine gC ?_;first|refine cY ?_|refine cN ?_|refine .not ?_)|refine af.nrm ?_)<;>conv=>whnf
 cases h4:b.gnd<;>rw[h4] at gb
 .simp only[YZ,and_false,false_and,if_false,and_self,if_true];refine Fun.of (LV (by simp) ?_) rfl rfl
  conv=>whnf
  repeat' (first|(refine gF ?_;first|refine ab.fn (na) ?_|refine ab.fn (nb) ?_|refine ab.fn (ga) ?_|refine ab.fn (gb) ?_)|(refine gC ?_;first|refine cY ?_|refine cN ?_|refine .not ?_)|refine af.nrm ?_)<;>conv=>whnf
 simp only[and_self,if_true]
 by_cases he:e=0
 .rw [show decide (e=0/\f=0)=decide (f=0) by rw[decide_eq_decide];exact⟨λq=>q.2,λq=>⟨he,q⟩⟩]
  refine Fun.of (LV (by simp) ?_) rfl rfl
  conv=>whnf
  repeat' (first|(refine gF ?_;first|refine ab.fn (na) ?_|refine ab.fn (nb) ?_|refine ab.fn (ga) ?_|refine ab.fn (gb) ?_|refine ab.fn (ea) ?_|refine ab.fn (eb) ?_|refine ab.fn (LP _) ?_)|(refine gC ?_;first|refine cY ?_|refine .not ?_|refine gD (cI ?_))|refine af.nrm ?_)<;>conv=>whnf
 .rw [decide_eq_false (λq=>he q.1)];refine Fun.of (LV (by simp) ?_) rfl rfl
  conv=>whnf
  repeat' (first|(refine gF ?_;first|refine ab.fn (na) ?_|refine ab.fn (nb) ?_|refine ab.fn (ga) ?_|refine ab.fn (gb) ?_|refine ab.fn (ea) ?_|refine ab.fn (eb) ?_|refine ab.fn (LP false) ?_)|(refine gC ?_;first|refine cY ?_|refine .not ?_|refine gD (cJ ?_))|refine af.nrm ?_)<;>conv=>whnf
def OX(op x y:Int):Bool:=if op=7 then decide (x<y) else if op=8 then decide (x<=y) else if op=9 then decide (x=y) else !decide (x=y)
def N3(op:Int)(a b:Tm):Int:=if (MU a b).2.2=1 then NO (OX op (MU a b).1 (MU a b).2.1) else (MU a b).2.2
theorem N2(opn:Int)(a b:Tm):Fun Tryz.prog 61 [.int .i64 opn,a.avw,b.avw] (.int .i64 (N3 opn a b)):=by
 have hv:=Oo a b;unfold N7 at hv;unfold N3;generalize MU a b=q at hv;obtain⟨x,y,r⟩:=q;dsimp only at hv|-
 by_cases hr:r=1
 rotate_left
 .rw [if_neg hr];refine Fun.of (LU (by simp) ?_) rfl rfl
  conv=>whnf
  repeat' (first|refine gF (ab.fn (hv) ?_)|(refine gC ?_;first|refine .not ?_|refine gD (cJ ?_))|refine af.nrm ?_)<;>conv=>whnf
 rw[if_pos hr];unfold OX
 by_cases h7:opn=7
 .rw [if_pos h7];refine Fun.of (LU (by simp) ?_) rfl rfl
  conv=>whnf
  repeat' (first|(refine gF ?_;first|refine ab.fn (hv) ?_|refine ab.fn (LP _) ?_)|(refine gC ?_;first|refine .not ?_|refine gD (cI ?_))|refine af.nrm ?_)<;>conv=>whnf
  all_goals rfl
 rw[if_neg h7]
 by_cases h8:opn=8
 .rw [if_pos h8];refine Fun.of (LU (by simp) ?_) rfl rfl
  conv=>whnf
  repeat' (first|(refine gF ?_;first|refine ab.fn (hv) ?_|refine ab.fn (LP _) ?_)|(refine gC ?_;first|refine .not ?_|(refine gD ?_;first|refine cI ?_|refine cJ ?_))|refine af.nrm ?_)<;>conv=>whnf
  all_goals rfl
 rw[if_neg h8]
 by_cases h9:opn=9
 .rw [if_pos h9];refine Fun.of (LU (by simp) ?_) rfl rfl
  conv=>whnf
  repeat' (first|(refine gF ?_;first|refine ab.fn (hv) ?_|refine ab.fn (LP _) ?_)|(refine gC ?_;first|refine .not ?_|(refine gD ?_;first|refine cI ?_|refine cJ ?_))|refine af.nrm ?_)<;>conv=>whnf
  all_goals rfl
 rw[if_neg h9];refine Fun.of (LU (by simp) ?_) rfl rfl
 conv=>whnf
 repeat' (first|(refine gF ?_;first|refine ab.fn (hv) ?_|refine ab.fn (LP _) ?_)|(refine gC ?_;first|refine .not ?_|(refine gD ?_;first|refine cI ?_|refine cJ ?_))|refine af.nrm ?_)<;>conv=>whnf
 all_goals rfl
theorem NN(opn:Int)(a b:Tm)(ha:a.vs.length<=100000)(hb:b.vs.length<=100000):Fun Tryz.prog 65 [.int .i64 opn,a.avw,b.avw] (.int .i64 (N3 opn a b)):=by
 have na:=Nw a;have nb:=Nw b;have ga:=MC ha;have gb:=MC hb;rw[show decide (a.vs=[])=a.gnd from rfl] at ga;rw[show decide (b.vs=[])=b.gnd from rfl] at gb;obtain⟨x,e,hx⟩:∃x e,aR a=(x,e):=⟨_,_,rfl⟩;obtain⟨y,f,hy⟩:∃y f,aR b=(y,f):=⟨_,_,rfl⟩;have ea:=LM a;rw[lV hx] at ea;have eb:=LM b;rw[lV hy] at eb;unfold N3 MU;rw[hx,hy];cases h1:a.Mm<;>rw[h1] at na
 .simp only[YZ,false_and,if_false];rw[if_neg (by decide)]
  refine Fun.of (sa (by simp) ?_) rfl rfl
  conv=>whnf
  repeat' (first|refine gF (ab.fn (na) ?_)|(refine gC ?_;first|refine cY ?_|refine cN ?_|refine .not ?_)|refine af.nrm ?_)<;>conv=>whnf
 cases h2:b.Mm<;>rw[h2] at nb
 .simp only[YZ,and_false,if_false];rw[if_neg (by decide)]
  refine Fun.of (sa (by simp) ?_) rfl rfl
  conv=>whnf
  repeat' (first|(refine gF ?_;first|refine ab.fn (na) ?_|refine ab.fn (nb) ?_)|(refine gC ?_;first|refine cY ?_|refine cN ?_|refine .not ?_)|refine af.nrm ?_)<;>conv=>whnf
 cases h3:a.gnd<;>rw[h3] at ga
 .simp only[YZ,and_false,false_and,if_false,and_self,if_true];rw[if_neg (by decide)]
  refine Fun.of (sa (by simp) ?_) rfl rfl
  conv=>whnf
  repeat' (first|(refine gF ?_;first|refine ab.fn (na) ?_|refine ab.fn (nb) ?_|refine ab.fn (ga) ?_)|(refine gC ?_;first|refine cY ?_|refine cN ?_|refine .not ?_)|refine af.nrm ?_)<;>conv=>whnf
 cases h4:b.gnd<;>rw[h4] at gb
 .simp only[YZ,and_false,false_and,if_false,and_self,if_true];rw[if_neg (by decide)]
  refine Fun.of (sa (by simp) ?_) rfl rfl
  conv=>whnf
  repeat' (first|(refine gF ?_;first|refine ab.fn (na) ?_|refine ab.fn (nb) ?_|refine ab.fn (ga) ?_|refine ab.fn (gb) ?_)|(refine gC ?_;first|refine cY ?_|refine cN ?_|refine .not ?_)|refine af.nrm ?_)<;>conv=>whnf
 simp only[and_self,if_true]
 by_cases he:e=0
 .by_cases hf:f=0
  .rw [decide_eq_true (show e=0/\f=0 from ⟨he,hf⟩),if_pos (show NO true=1 from rfl)];unfold OX
   by_cases h7:opn=7
   .rw [if_pos h7];refine Fun.of (sa (by simp) ?_) rfl rfl
    conv=>whnf
    repeat' (first|(refine gF ?_;first|refine ab.fn (na) ?_|refine ab.fn (nb) ?_|refine ab.fn (ga) ?_|refine ab.fn (gb) ?_|refine ab.fn (ea) ?_|refine ab.fn (eb) ?_|refine ab.fn (LY _) ?_)|(refine gC ?_;first|refine cY ?_|refine .not ?_|refine gD (cI ?_))|refine af.nrm ?_)<;>conv=>whnf
    all_goals rfl
   rw[if_neg h7]
   by_cases h8:opn=8
   .rw [if_pos h8];refine Fun.of (sa (by simp) ?_) rfl rfl
    conv=>whnf
    repeat' (first|(refine gF ?_;first|refine ab.fn (na) ?_|refine ab.fn (nb) ?_|refine ab.fn (ga) ?_|refine ab.fn (gb) ?_|refine ab.fn (ea) ?_|refine ab.fn (eb) ?_|refine ab.fn (LY _) ?_)|(refine gC ?_;first|refine cY ?_|refine .not ?_|(refine gD ?_;first|refine cI ?_|refine cJ ?_))|refine af.nrm ?_)<;>conv=>whnf
    all_goals rfl
   rw[if_neg h8]
   by_cases h9:opn=9
   .rw [if_pos h9];refine Fun.of (sa (by simp) ?_) rfl rfl
    conv=>whnf
    repeat' (first|(refine gF ?_;first|refine ab.fn (na) ?_|refine ab.fn (nb) ?_|refine ab.fn (ga) ?_|refine ab.fn (gb) ?_|refine ab.fn (ea) ?_|refine ab.fn (eb) ?_|refine ab.fn (LY _) ?_)|(refine gC ?_;first|refine cY ?_|refine .not ?_|(refine gD ?_;first|refine cI ?_|refine cJ ?_))|refine af.nrm ?_)<;>conv=>whnf
    all_goals rfl
   rw[if_neg h9];refine Fun.of (sa (by simp) ?_) rfl rfl
   conv=>whnf
   repeat' (first|(refine gF ?_;first|refine ab.fn (na) ?_|refine ab.fn (nb) ?_|refine ab.fn (ga) ?_|refine ab.fn (gb) ?_|refine ab.fn (ea) ?_|refine ab.fn (eb) ?_|refine ab.fn (LY _) ?_)|(refine gC ?_;first|refine cY ?_|refine .not ?_|(refine gD ?_;first|refine cI ?_|refine cJ ?_))|refine af.nrm ?_)<;>conv=>whnf
   all_goals rfl
  .rw [decide_eq_false (λq=>hf q.2),if_neg (by decide)]
   refine Fun.of (sa (by simp) ?_) rfl rfl
   conv=>whnf
   repeat' (first|(refine gF ?_;first|refine ab.fn (na) ?_|refine ab.fn (nb) ?_|refine ab.fn (ga) ?_|refine ab.fn (gb) ?_|refine ab.fn (ea) ?_|refine ab.fn (eb) ?_)|(refine gC ?_;first|refine cY ?_|refine .not ?_|(refine gD ?_;first|refine cI ?_|refine cJ ?_))|refine af.nrm ?_)<;>conv=>whnf
   all_goals rfl
 .rw [decide_eq_false (λq=>he q.1),if_neg (by decide)]
  refine Fun.of (sa (by simp) ?_) rfl rfl
  conv=>whnf
  repeat' (first|(refine gF ?_;first|refine ab.fn (na) ?_|refine ab.fn (nb) ?_|refine ab.fn (ga) ?_|refine ab.fn (gb) ?_|refine ab.fn (ea) ?_|refine ab.fn (eb) ?_)|(refine gC ?_;first|refine cY ?_|refine .not ?_|refine gD (cJ ?_))|refine af.nrm ?_)<;>conv=>whnf
  all_goals rfl
theorem MM(a b:Gl):Fun Tryz.prog 67 [a.av,b.av] (.bool (a.same b)):=by
 unfold Gl.same
 by_cases h1:a.op=b.op
 rotate_left
 .rw [decide_eq_false h1,Zu];refine Fun.of (LZ (by simp) ?_) rfl rfl
  conv=>whnf
  repeat' (first|(refine gC ?_;first|refine cN ?_|refine gD (cJ ?_))|refine af.nrm ?_)<;>conv=>whnf
  all_goals rfl
 rw[decide_eq_true h1,Za]
 by_cases h2:a.name=b.name
 rotate_left
 .rw [decide_eq_false h2,Zu];refine Fun.of (LZ (by simp) ?_) rfl rfl
  conv=>whnf
  repeat' (first|(refine gC ?_;first|refine cN ?_|(refine gD ?_;first|refine cI ?_|refine cJ ?_))|refine af.nrm ?_)<;>conv=>whnf
  all_goals rfl
 rw[decide_eq_true h2,Za]
 by_cases h3:a.args.length=b.args.length
 rotate_left
 .rw [decide_eq_false h3,Zu];refine Fun.of (LZ (by simp) ?_) rfl rfl
  conv=>whnf
  repeat' (first|(refine gC ?_;(refine gD ?_;first|refine cI ?_|refine cJ ?_))|refine gL (.map ?_)|refine af.nrm ?_)<;>conv=>whnf
  all_goals rfl
 rw[decide_eq_true h3,Za];have hl:=ON h3;refine Fun.of (LZ (by simp) ?_) rfl rfl
 conv=>whnf
 repeat' (first|refine gF (ab.fn (hl) ?_)|refine gC (gD (cI ?_))|refine gL (.map ?_)|refine af.nrm ?_)<;>conv=>whnf
 all_goals rfl
def Nh(b:List Bnd)(g:Gl):Gl:=⟨g.op,g.name,g.args.map (cR b)⟩
theorem M6(b:List Bnd)(g:Gl)(hN:Tm.ai g.args<=1000000)(hb:b.length<=4000000000):Fun Tryz.prog 77 [.sl .no (b.map Bnd.av),g.av] (Nh b g).av:=by
 have h:=C7 (b:=b) (l:=g.args) (by have:=bF g.args;omega) fun x hx=>vr b hb x (by have:=kP hx;omega);refine Fun.of (MY (by simp) ?_) rfl rfl
 conv=>whnf
 repeat' (first|refine gF (ab.fn (h) ?_)|refine af.nrm ?_)<;>conv=>whnf
 all_goals rfl
def uni(a b:Tm):Bool:=match wH fN fF [a] [b] with
 |some (_,e)=>L7 e
 |none=>false
theorem Oy{a b:Tm}(hN:a.nodes+b.nodes<=100000000):Fun Tryz.prog 60 [a.avw,b.avw] (.bool (uni a b))/\Fun Tryz.prog 66 [a.avw,b.avw] (.bool (uni a b)):=by
 obtain⟨out,e,h1,h2⟩:=OI (a:=[a]) (b:=[b]) (by simp only[Tm.ai];omega)
 have hu:uni a b=L7 e:=by unfold uni;rw[h1]
 rw[hu];exact⟨ML h1 (by omega),N4 h2 (by omega)⟩
def L2:List (List Tm×ByteArray)->Int->Bool
 |[],most=>decide (most<0)
 |a::l,most=>if most<0 then true else L2 l (LR a.1 (most-1-(a.2.size:Int).tdiv 8) 64)
theorem Ny(l:List (List Tm×ByteArray)){most:Int}(h:most<0):L2 l most=true:=by
 cases l with
 |nil=>simpa[L2] using h
 |cons a l=>rw[L2,if_pos h]
theorem N0{l:List (List Tm×ByteArray)}{j:Nat}{x:List Tm×ByteArray}(hx:l[j]? =some x){most:Int}(h:0<=most):L2 (l.drop j) most=L2 (l.drop (j+1)) (LR x.1 (most-1-(x.2.size:Int).tdiv 8) 64):=by
 obtain⟨h1,rfl⟩:=ZB.1 hx;rw[ZH h1,L2,if_neg (by omega)]
def gl2(a:Gl):List Tm×ByteArray:=(a.args,a.name)
theorem ND{l:List Gl}{most:Int}(b1:-1<=most)(b2:most<=100000):Fun Tryz.prog 22 [slA Gl.av l,.int .i64 most] (.bool (L2 (l.map gl2) most)):=by
 refine Fun.assume rfl λhg0=>?_;have hgs:=bH (hg0 (slA Gl.av l) (by simp))
 have hg:=hgs.1;have hml:(l.map gl2).length=l.length:=by simp
 refine Fun.of (Ma (by simp) ?_) rfl rfl
 conv=>whnf
 skip;refine aw.by (fb:=true) (λs (q:Nat×Int)=>s.zG [(1,.int .i64 q.2),(5,.int .i64 q.1)]) (λq=>q.1<=l.length/\(-1<=q.2/\q.2<=100000)/\L2 ((l.map gl2).drop q.1) q.2=L2 (l.map gl2) most) (λq=>l.length-q.1) (0,most) ⟨ZJ _,by simp only;omega,rfl⟩ ?_ ?_
 .exact au
 .rintro ⟨j,r⟩ ⟨hj,hr,he⟩;dsimp only at hj hr he|-
  by_cases hlt:j<l.length
  .obtain ⟨x,hx⟩:∃x,l[j]? =some x:=⟨_,ZA hlt⟩;have hx2:(l.map gl2)[j]? =some (gl2 x):=by rw[YD,hx];rfl
   have hxs:=(Gl.good (hgs.2 x (ZE hx))).1
   by_cases hr0:0<=r
   .rw [N0 hx2 hr0,show (gl2 x).1=x.args from rfl,show (gl2 x).2=x.name from rfl] at he;have hw:=NU (.mk 0 0 .empty x.args) (r-1-(x.name.size:Int).tdiv 8) 64;rw[show (Tm.mk 0 0 .empty x.args).args=x.args from rfl] at hw;have h8:=NG x.name.size
    conv=>whnf
    repeat' (first|(refine gG ?_;refine aM.fn (Ow (by omega) (by omega) (by omega) (by omega)) ?_)|refine gC (gD (cI ?_))|refine gW (wI ?_)|refine gL (.map ?_)|refine gN (nS ?_)|refine gI (gM (iE ?_)))<;>conv=>whnf
    refine⟨(j+1,LR x.args (r-1-(x.name.size:Int).tdiv 8) 64),⟨⟨hlt,?_,he⟩,by simp only;omega⟩,?_⟩
    .simp only;omega
    .exact au
   .rw [Ny _ (by omega)] at he
    conv=>whnf
    repeat' (first|(refine gC ?_;(refine gD ?_;first|refine cI ?_|refine cJ ?_))|refine gL (.map ?_)|refine af.nrm ?_)<;>conv=>whnf
    rw[<-he];simp;omega
  .have hje:j=l.length:=by omega
   subst hje;rw[<-hml,Zj,L2] at he
   conv=>whnf
   repeat' (first|(refine gC ?_;first|refine cN ?_|refine gD (cJ ?_))|refine gL (.map ?_)|refine af.nrm ?_)<;>conv=>whnf
   rw[<-he]
theorem Ou(t:Tm):∀left deep:Int,0<=t.wgh left deep->(t.nodes:Int)<=left-t.wgh left deep:=by
 induction t using Tm.bD with
 |h k m s l ih=>
  have hl:∀(r:List Tm),(∀t∈r,t∈l)->∀left deep:Int,0<=left->0<=Tm.Mh r left deep->(Tm.ai r:Int)<=left-Tm.Mh r left deep:=λr=>by
   induction r with
   |nil=>intro _ left deep h1 h2;simp only[Tm.Mh,Tm.ai] at*;omega
   |cons t r ihr=>
    intro hm left deep h1 h2;rw[Tm.Mh,if_neg (by omega)] at h2|-
    by_cases h3:0<=t.wgh left deep
    .have h4:=ih t (hm t (by simp)) left deep h3
     have h5:=ihr (λx hx=>hm x (by simp[hx])) (t.wgh left deep) deep h3 h2
     rw[Tm.ai];omega
    .rw [Nj _ (by omega)] at h2;omega
  intro left deep h;rw[Tm.wgh] at h|-;have h8:=NG s.size;split at h
  .omega
  .rename_i hc;rw[if_neg hc];have h2:=hl l (λt h=>h) (left-1-(s.size:Int).tdiv 8) (deep-1) (by omega) h
   rw[Tm.nodes];omega
theorem NT{l:List Tm}{left deep:Int}(h:0<=LR l left deep):(l.length:Int)<=left/\(Tm.ai l:Int)<=left/\LR l left deep<=left:=by
 by_cases hc:deep=0\/left<l.length
 .rw [LR,if_pos hc] at h;omega
 .rw [LR,if_neg hc] at h|-
  have:∀(r:List Tm) (left:Int),0<=left->0<=Tm.Mh r left deep->(Tm.ai r:Int)<=left-Tm.Mh r left deep:=λr=>by
   induction r with
   |nil=>intro left h1 h2;simp only[Tm.Mh,Tm.ai] at*;omega
   |cons t r ihr=>
    intro left h1 h2;rw[Tm.Mh,if_neg (by omega)] at h2|-
    by_cases h3:0<=t.wgh left deep
    .have h4:=Ou t left deep h3;have h5:=ihr (t.wgh left deep) h3 h2;rw[Tm.ai];omega
    .rw [Nj _ (by omega)] at h2;omega
  have:=this l left (by omega) h
  omega
theorem NJ:∀{l:List (List Tm×ByteArray)} {most:Int},L2 l most=false->∀y∈l,(y.1.length:Int)<=most/\(Tm.ai y.1:Int)<=most
 |[],_,_,y,hy=>by cases hy
 |a::l,most,h,y,hy=>by
  rw[L2] at h;split at h
  .cases h
  .have h8:=NG a.2.size
   have h0:0<=LR a.1 (most-1-(a.2.size:Int).tdiv 8) 64:=by
    rcases Int.lt_or_le (LR a.1 (most-1-(a.2.size:Int).tdiv 8) 64) 0 with h1|h1
    .rw [Ny _ h1] at h;cases h
    .exact h1
   have h2:=NT h0;rcases ZI.1 hy with rfl|hy
   .omega
   .have:=NJ h y hy;omega
theorem NZ{l:List Gl}{most:Int}(h:L2 (l.map gl2) most=false):∀g∈l,(g.args.length:Int)<=most/\(Tm.ai g.args:Int)<=most:=λg hg=>NJ h (gl2 g) (YV hg)
end Go.CK
set_option maxRecDepth 100000
namespace Go.CK
open Go.AM Go.Proofs
def Oz(op:Int)(a b:Tm)(u:Bool):Int:=
 if op=11 then (if a.kind=1 then 0 else NO (decide (a.kind=0)))
 else if op=12 then (if a.gnd=true then 1 else 0)
 else if op=5\/op=6 then (if a.cmp b=0 then NO (decide (op=5)) else if u=true then 0 else NO (decide (op=6)))
 else N3 op a b
def arg(g:Gl)(i:Nat):Tm:=g.args.getD i (.mk 0 0 ⟨⟨[]⟩⟩ [])
def NF(g:Gl)(u:Bool):Int:=if g.test=true then Oz g.op (arg g 0) (arg g 1) u else NO (decide (g.op=1)&&g.right)
def MQ(g:Gl):Int:=NF g (uni (arg g 0) (arg g 1))
theorem NV{g:Gl}(h:g.test=true):(5<=g.op/\g.op<=12)/\(g.args.length:Int)=arG g.op:=by
 unfold Gl.test at h;rw[ZD,decide_eq_true_eq] at h;refine⟨h.1,?_⟩;have h2:=h.2;unfold Gl.right at h2;rw[if_neg (by omega)] at h2
 simp only[ZD,decide_eq_true_eq] at h2;exact h2.2.2.1
theorem MK{g:Gl}{i:Nat}(h:i<g.args.length):g.args[i]? =some (arg g i):=by
 unfold arg;rw[List.getD_eq_getElem?_getD,ZA h];rfl
theorem MS(g:Gl)(i:Nat):(arg g i).nodes<=Tm.ai g.args+1:=by
 by_cases h:i<g.args.length
 .have:=kP (ZE (MK h));omega
 .unfold arg;rw[List.getD_eq_getElem?_getD,ZR (by omega)]
  simp[Tm.nodes,Tm.ai]
theorem Nk(g:Gl)(u:Bool)(hl:g.args.length<=4000000000)(hu0:Fun Tryz.prog 60 [(arg g 0).avw,(arg g 1).avw] (.bool u)):Fun Tryz.prog 24 [g.av] (.int .i64 (NF g u)):=by
 have hte:=Ni g (by omega)
 have hrg:=M9 g (by omega)
 unfold NF
 cases ht:g.test with
 |false=>
  rw[ht] at hte;rw[if_neg YY]
  by_cases h1:g.op=1
  .rw [decide_eq_true h1,Za];refine Fun.of (LO (by simp) ?_) rfl rfl
   conv=>whnf
   repeat' (first|(refine gF ?_;first|refine ab.fn (hte) ?_|refine ab.fn (hrg) ?_|refine ab.fn (LP _) ?_)|(refine gC ?_;first|refine cN ?_|refine .not ?_|refine gD (cI ?_))|refine af.nrm ?_)<;>conv=>whnf
   all_goals rfl
  .rw [decide_eq_false h1,Zu];refine Fun.of (LO (by simp) ?_) rfl rfl
   conv=>whnf
   repeat' (first|(refine gF ?_;first|refine ab.fn (hte) ?_|refine ab.fn (LP _) ?_)|(refine gC ?_;first|refine cN ?_|refine .not ?_|refine gD (cJ ?_))|refine af.nrm ?_)<;>conv=>whnf
   all_goals rfl
 |true=>
 rw[ht] at hte;rw[if_pos rfl];obtain⟨hop,hlen⟩:=NV ht;unfold arG at hlen;rw[if_neg (by omega)] at hlen
 unfold Oz;have hg0:0<g.args.length:=by split at hlen<;>omega
 have a0:=MK hg0;have ga:=Nb (arg g 0)
 by_cases h11:g.op=11
 .rw [if_pos h11]
  by_cases hk:(arg g 0).kind=1
  .rw [if_pos hk];refine Fun.of (LO (by simp) ?_) rfl rfl
   conv=>whnf
   repeat' (first|refine gF (ab.fn (hte) ?_)|(refine gC ?_;first|refine cY ?_|refine .not ?_|refine gD (cI ?_))|refine gI (gT (iA ?_))|refine af.nrm ?_)<;>conv=>whnf
   all_goals rfl
  .rw [if_neg hk];refine Fun.of (LO (by simp) ?_) rfl rfl
   conv=>whnf
   repeat' (first|(refine gF ?_;first|refine ab.fn (hte) ?_|refine ab.fn (LP _) ?_)|(refine gC ?_;first|refine cY ?_|refine .not ?_|(refine gD ?_;first|refine cI ?_|refine cJ ?_))|refine gI (gT (iA ?_))|refine af.nrm ?_)<;>conv=>whnf
   all_goals rfl
 rw[if_neg h11]
 by_cases h12:g.op=12
 .rw [if_pos h12]
  cases hgn:(arg g 0).gnd with
  |true=>
   rw[show decide ((arg g 0).vs=[])=(arg g 0).gnd from rfl,hgn] at ga;rw[if_pos rfl];refine Fun.of (LO (by simp) ?_) rfl rfl
   conv=>whnf
   repeat' (first|(refine gF ?_;first|refine ab.fn (hte) ?_|refine ab.fn (ga) ?_)|(refine gC ?_;first|refine cY ?_|refine .not ?_|(refine gD ?_;first|refine cI ?_|refine cJ ?_))|refine gI (gT (iA ?_))|refine af.nrm ?_)<;>conv=>whnf
   all_goals rfl
  |false=>
   rw[show decide ((arg g 0).vs=[])=(arg g 0).gnd from rfl,hgn] at ga;rw[if_neg YY];refine Fun.of (LO (by simp) ?_) rfl rfl
   conv=>whnf
   repeat' (first|(refine gF ?_;first|refine ab.fn (hte) ?_|refine ab.fn (ga) ?_)|(refine gC ?_;first|refine cY ?_|refine cN ?_|refine .not ?_|(refine gD ?_;first|refine cI ?_|refine cJ ?_))|refine gI (gT (iA ?_))|refine af.nrm ?_)<;>conv=>whnf
   all_goals rfl
 rw[if_neg h12];rw[if_neg (by omega)] at hlen
 have hg1:1<g.args.length:=by omega
 have a1:=MK hg1;have hsa:=zz (arg g 0) (arg g 1);have hun:=hu0;have hco:=N2 g.op (arg g 0) (arg g 1)
 by_cases h56:g.op=5\/g.op=6
 rotate_left
 .rw [if_neg h56];refine Fun.of (LO (by simp) ?_) rfl rfl
  conv=>whnf
  repeat' (first|refine gF (ab.fn (hte) ?_)|refine gG (aM.fn (hco) ?_)|(refine gC ?_;first|refine cY ?_|refine .not ?_|refine gD (cJ ?_))|refine gI (gT (iA ?_))|refine af.nrm ?_)<;>conv=>whnf
  all_goals rfl
 rw[if_pos h56]
 by_cases hc:(arg g 0).cmp (arg g 1)=0
 .rw [if_pos hc];rw[decide_eq_true hc] at hsa;rcases h56 with h5|h5
  .rw [decide_eq_true h5];refine Fun.of (LO (by simp) ?_) rfl rfl
   conv=>whnf
   repeat' (first|(refine gF ?_;first|refine ab.fn (hte) ?_|refine ab.fn (LP _) ?_)|refine gG (aM.fn (hsa) ?_)|(refine gC ?_;first|refine cY ?_|refine .not ?_|(refine gD ?_;first|refine cI ?_|refine cJ ?_))|refine gI (gT (iA ?_))|refine af.nrm ?_)<;>conv=>whnf
   all_goals (rw[h5];rfl)
  .rw [decide_eq_false (show¬g.op=5 by omega)]
   refine Fun.of (LO (by simp) ?_) rfl rfl
   conv=>whnf
   repeat' (first|(refine gF ?_;first|refine ab.fn (hte) ?_|refine ab.fn (LP _) ?_)|refine gG (aM.fn (hsa) ?_)|(refine gC ?_;first|refine cY ?_|refine .not ?_|(refine gD ?_;first|refine cI ?_|refine cJ ?_))|refine gI (gT (iA ?_))|refine af.nrm ?_)<;>conv=>whnf
   all_goals (rw[h5];rfl)
 rw[if_neg hc];rw[decide_eq_false hc] at hsa
 cases hu:u with
 |true=>
  rw[hu] at hun;rw[if_pos rfl];refine Fun.of (LO (by simp) ?_) rfl rfl
  conv=>whnf
  repeat' (first|refine gF (ab.fn (hte) ?_)|(refine gG ?_;first|refine aM.fn (hsa) ?_|refine aM.fn (hun) ?_)|(refine gC ?_;first|refine cY ?_|refine cN ?_|refine .not ?_|(refine gD ?_;first|refine cI ?_|refine cJ ?_)|refine aq.dec (λhc=>?_) (λhc=>?_))|refine gI (gT (iA ?_))|refine af.nrm ?_)<;>conv=>whnf
  all_goals rfl
 |false=>
  rw[hu] at hun;rw[if_neg YY];rcases h56 with h5|h5
  .rw [decide_eq_false (show¬g.op=6 by omega)]
   refine Fun.of (LO (by simp) ?_) rfl rfl
   conv=>whnf
   repeat' (first|(refine gF ?_;first|refine ab.fn (hte) ?_|refine ab.fn (LP _) ?_)|(refine gG ?_;first|refine aM.fn (hsa) ?_|refine aM.fn (hun) ?_)|(refine gC ?_;first|refine cY ?_|refine cN ?_|refine .not ?_|(refine gD ?_;first|refine cI ?_|refine cJ ?_))|refine gI (gT (iA ?_))|refine af.nrm ?_)<;>conv=>whnf
   all_goals (rw[h5];rfl)
  .rw [decide_eq_true h5];refine Fun.of (LO (by simp) ?_) rfl rfl
   conv=>whnf
   repeat' (first|(refine gF ?_;first|refine ab.fn (hte) ?_|refine ab.fn (LP _) ?_)|(refine gG ?_;first|refine aM.fn (hsa) ?_|refine aM.fn (hun) ?_)|(refine gC ?_;first|refine cY ?_|refine cN ?_|refine .not ?_|(refine gD ?_;first|refine cI ?_|refine cJ ?_))|refine gI (gT (iA ?_))|refine af.nrm ?_)<;>conv=>whnf
   all_goals (rw[h5];rfl)
theorem M8(g:Gl)(hN:Tm.ai g.args<=10000)(hl:g.args.length<=4000000000):Fun Tryz.prog 24 [g.av] (.int .i64 (MQ g)):=by
 have n0:=MS g 0;have n1:=MS g 1;exact Nk g _ hl (Oy (a:=arg g 0) (b:=arg g 1) (by omega)).1
theorem Ob(g:Gl)(hN:Tm.ai g.args<=10000)(hl:g.args.length<=4000000000):Fun Tryz.prog 25 [g.av] (.int .i64 (MQ g)):=by
 have n0:=MS g 0;have n1:=MS g 1;have v0:=zw (arg g 0);have v1:=zw (arg g 1);have hte:=Ov g (by omega) (by omega)
 have hrg:=MP g (by omega) (by omega)
 have hu0:=(Oy (a:=arg g 0) (b:=arg g 1) (by omega)).2
 unfold MQ;generalize uni (arg g 0) (arg g 1)=u at hu0;unfold NF
 cases ht:g.test with
 |false=>
  rw[ht] at hte;rw[if_neg YY]
  by_cases h1:g.op=1
  .rw [decide_eq_true h1,Za];refine Fun.of (kr (by simp) ?_) rfl rfl
   conv=>whnf
   repeat' (first|(refine gF ?_;first|refine ab.fn (hte) ?_|refine ab.fn (hrg) ?_|refine ab.fn (LY _) ?_)|(refine gC ?_;first|refine cN ?_|refine .not ?_|refine gD (cI ?_))|refine af.nrm ?_)<;>conv=>whnf
   all_goals rfl
  .rw [decide_eq_false h1,Zu];refine Fun.of (kr (by simp) ?_) rfl rfl
   conv=>whnf
   repeat' (first|(refine gF ?_;first|refine ab.fn (hte) ?_|refine ab.fn (LY _) ?_)|(refine gC ?_;first|refine cN ?_|refine .not ?_|refine gD (cJ ?_))|refine af.nrm ?_)<;>conv=>whnf
   all_goals rfl
 |true=>
 rw[ht] at hte;rw[if_pos rfl];obtain⟨hop,hlen⟩:=NV ht;unfold arG at hlen;rw[if_neg (by omega)] at hlen
 unfold Oz;have hg0:0<g.args.length:=by split at hlen<;>omega
 have a0:=MK hg0;have ga:=MC (t:=arg g 0) (by omega)
 by_cases h11:g.op=11
 .rw [if_pos h11]
  by_cases hk:(arg g 0).kind=1
  .rw [if_pos hk];refine Fun.of (kr (by simp) ?_) rfl rfl
   conv=>whnf
   repeat' (first|refine gF (ab.fn (hte) ?_)|(refine gC ?_;first|refine cY ?_|refine .not ?_|refine gD (cI ?_))|refine gI (gT (iA ?_))|refine af.nrm ?_)<;>conv=>whnf
   all_goals rfl
  .rw [if_neg hk];refine Fun.of (kr (by simp) ?_) rfl rfl
   conv=>whnf
   repeat' (first|(refine gF ?_;first|refine ab.fn (hte) ?_|refine ab.fn (LY _) ?_)|(refine gC ?_;first|refine cY ?_|refine .not ?_|(refine gD ?_;first|refine cI ?_|refine cJ ?_))|refine gI (gT (iA ?_))|refine af.nrm ?_)<;>conv=>whnf
   all_goals rfl
 rw[if_neg h11]
 by_cases h12:g.op=12
 .rw [if_pos h12]
  cases hgn:(arg g 0).gnd with
  |true=>
   rw[show decide ((arg g 0).vs=[])=(arg g 0).gnd from rfl,hgn] at ga;rw[if_pos rfl];refine Fun.of (kr (by simp) ?_) rfl rfl
   conv=>whnf
   repeat' (first|(refine gF ?_;first|refine ab.fn (hte) ?_|refine ab.fn (ga) ?_)|(refine gC ?_;first|refine cY ?_|refine .not ?_|(refine gD ?_;first|refine cI ?_|refine cJ ?_))|refine gI (gT (iA ?_))|refine af.nrm ?_)<;>conv=>whnf
   all_goals rfl
  |false=>
   rw[show decide ((arg g 0).vs=[])=(arg g 0).gnd from rfl,hgn] at ga;rw[if_neg YY];refine Fun.of (kr (by simp) ?_) rfl rfl
   conv=>whnf
   repeat' (first|(refine gF ?_;first|refine ab.fn (hte) ?_|refine ab.fn (ga) ?_)|(refine gC ?_;first|refine cY ?_|refine cN ?_|refine .not ?_|(refine gD ?_;first|refine cI ?_|refine cJ ?_))|refine gI (gT (iA ?_))|refine af.nrm ?_)<;>conv=>whnf
   all_goals rfl
 rw[if_neg h12];rw[if_neg (by omega)] at hlen
 have hg1:1<g.args.length:=by omega
 have a1:=MK hg1;have hsa:=zN (arg g 0) (arg g 1);have hun:=hu0;have hco:=NN g.op (arg g 0) (arg g 1) (by omega) (by omega)
 by_cases h56:g.op=5\/g.op=6
 rotate_left
 .rw [if_neg h56];refine Fun.of (kr (by simp) ?_) rfl rfl
  conv=>whnf
  repeat' (first|(refine gF ?_;first|refine ab.fn (hte) ?_|refine ab.fn (hco) ?_)|(refine gC ?_;first|refine cY ?_|refine .not ?_|refine gD (cJ ?_))|refine gI (gT (iA ?_))|refine af.nrm ?_)<;>conv=>whnf
  all_goals rfl
 rw[if_pos h56]
 by_cases hc:(arg g 0).cmp (arg g 1)=0
 .rw [if_pos hc];rw[decide_eq_true hc] at hsa;rcases h56 with h5|h5
  .rw [decide_eq_true h5];refine Fun.of (kr (by simp) ?_) rfl rfl
   conv=>whnf
   repeat' (first|(refine gF ?_;first|refine ab.fn (hte) ?_|refine ab.fn (hsa) ?_|refine ab.fn (LY _) ?_)|(refine gC ?_;first|refine cY ?_|refine cN ?_|refine .not ?_|(refine gD ?_;first|refine cI ?_|refine cJ ?_))|refine gI (gT (iA ?_))|refine af.nrm ?_)<;>conv=>whnf
   all_goals (rw[h5];rfl)
  .rw [decide_eq_false (show¬g.op=5 by omega)]
   refine Fun.of (kr (by simp) ?_) rfl rfl
   conv=>whnf
   repeat' (first|(refine gF ?_;first|refine ab.fn (hte) ?_|refine ab.fn (hsa) ?_|refine ab.fn (LY _) ?_)|(refine gC ?_;first|refine cY ?_|refine .not ?_|(refine gD ?_;first|refine cI ?_|refine cJ ?_))|refine gI (gT (iA ?_))|refine af.nrm ?_)<;>conv=>whnf
   all_goals (rw[h5];rfl)
 rw[if_neg hc];rw[decide_eq_false hc] at hsa
 cases hu:u with
 |true=>
  rw[hu] at hun;rw[if_pos rfl];refine Fun.of (kr (by simp) ?_) rfl rfl
  conv=>whnf
  repeat' (first|(refine gF ?_;first|refine ab.fn (hte) ?_|refine ab.fn (hsa) ?_|refine ab.fn (hun) ?_)|(refine gC ?_;first|refine cY ?_|refine cN ?_|refine .not ?_|(refine gD ?_;first|refine cI ?_|refine cJ ?_)|refine aq.dec (λhc=>?_) (λhc=>?_))|refine gI (gT (iA ?_))|refine af.nrm ?_)<;>conv=>whnf
  all_goals rfl
 |false=>
  rw[hu] at hun;rw[if_neg YY];rcases h56 with h5|h5
  .rw [decide_eq_false (show¬g.op=6 by omega)]
   refine Fun.of (kr (by simp) ?_) rfl rfl
   conv=>whnf
   repeat' (first|(refine gF ?_;first|refine ab.fn (hte) ?_|refine ab.fn (hsa) ?_|refine ab.fn (hun) ?_|refine ab.fn (LY _) ?_)|(refine gC ?_;first|refine cY ?_|refine cN ?_|refine .not ?_|(refine gD ?_;first|refine cI ?_|refine cJ ?_))|refine gI (gT (iA ?_))|refine af.nrm ?_)<;>conv=>whnf
   all_goals (rw[h5];rfl)
  .rw [decide_eq_true h5];refine Fun.of (kr (by simp) ?_) rfl rfl
   conv=>whnf
   repeat' (first|(refine gF ?_;first|refine ab.fn (hte) ?_|refine ab.fn (hsa) ?_|refine ab.fn (hun) ?_|refine ab.fn (LY _) ?_)|(refine gC ?_;first|refine cY ?_|refine cN ?_|refine .not ?_|(refine gD ?_;first|refine cI ?_|refine cJ ?_))|refine gI (gT (iA ?_))|refine af.nrm ?_)<;>conv=>whnf
   all_goals (rw[h5];rfl)
end Go.CK
set_option maxRecDepth 100000
namespace Go.CK
open Go.AM Go.Proofs
def inK(b:List Bnd)(known:List Gl)(h:Gl):Bool:=h.test&&known.any λk=>(Nh b k).same h
def inG(b:List Bnd)(known:List Gl)(g:Gl)(r:Int):Int:=if inK b known (Nh b g)=true then 1 else r
theorem OS{b:List Bnd}{known:List Gl}{g:Gl}{r:Int}(hb:b.length<=4000000000)(hl:g.args.length<=4000000000)(hgN:Tm.ai g.args<=1000000)(hkN:∀x∈known,Tm.ai x.args<=1000000)(hT:Fun Tryz.prog 24 [(Nh b g).av] (.int .i64 r)):Fun Tryz.prog 32 [.sl .no (b.map Bnd.av),.sl .no (known.map Gl.av),g.av] (.int .i64 (inG b known g r)):=by
 refine Fun.of (Sem.assume λhg0 _=>?_) rfl rfl;have hg:=(bH (hg0 (.sl .no (known.map Gl.av)) (by simp) rfl)).1
 have ha:=M6 b g hgN hb;have ht:=Ni (Nh b g) (by show (g.args.map _).length<=_;rw[ZF];omega)
 unfold inG inK;generalize hh:Nh b g=h at ha ht hT
 cases htt:h.test with
 |false=>
  rw[htt] at ht;rw[Zu,if_neg YY];refine NH (by simp) ?_
  conv=>whnf
  repeat' (first|(refine gF ?_;first|refine ab.fn (ha) ?_|refine ab.fn (ht) ?_|refine ab.fn (hT) ?_)|refine gC (cN ?_)|refine af.nrm ?_)<;>conv=>whnf
  all_goals rfl
 |true=>
 rw[htt] at ht;rw[Za];refine NH (by simp) ?_
 conv=>whnf
 repeat' (first|(refine gF ?_;first|refine ab.fn (ha) ?_|refine ab.fn (ht) ?_)|refine gC (cY ?_)|refine gL (.map ?_))<;>conv=>whnf
 refine aw.by (fb:=true) (λ_ (j:Nat)=>⟨[(0,.sl .no (b.map Bnd.av)),(5,.ptr 0 0),(14,.sl .no (known.map Gl.av)),(15,.int .i64 (known.length:Int)),(16,.int .i64 (j:Int))],[.cells [.int .i64 h.op,.str h.name,.sl .no (h.args.map Tm.av)]],0⟩) (λj=>j<=known.length/\((known.drop j).any λk=>(Nh b k).same h)=known.any λk=>(Nh b k).same h) (λj=>known.length-j) 0 ⟨ZJ _,rfl⟩ ?_ ?_
 .exact au
 .rintro j ⟨q1,q2⟩
  by_cases hj:j<known.length
  .obtain ⟨x,hx⟩:∃x,known[j]? =some x:=⟨_,ZA hj⟩;rw[ZH hj,(ZB.1 hx).2,List.any_cons] at q2;have hs:=MM (Nh b x) h;have hax:=M6 b x (hkN x (ZE hx)) hb
   cases hc:(Nh b x).same h with
   |true=>
    rw[hc] at hs;rw[hc,Bool.true_or] at q2;rw[<-q2,if_pos rfl]
    conv=>whnf
    repeat' (first|(refine gG ?_;first|refine aM.fn (hax) ?_|refine aM.fn (hs) ?_)|(refine gC ?_;first|refine cY ?_|refine gD (cI ?_))|refine gI (gM (iE ?_))|refine af.nrm ?_)<;>conv=>whnf
    all_goals rfl
   |false=>
    rw[hc] at hs;rw[hc,Bool.false_or] at q2
    conv=>whnf
    repeat' (first|(refine gG ?_;first|refine aM.fn (hax) ?_|refine aM.fn (hs) ?_)|(refine gC ?_;first|refine cN ?_|refine gD (cI ?_))|refine gW (wI ?_)|refine gI (gM (iE ?_)))<;>conv=>whnf
    refine⟨j+1,⟨⟨hj,q2⟩,by omega⟩,?_⟩
    refine ah.lay [some 0] oko ?_
    conv=>whnf
    exact au
  .obtain rfl:j=known.length:=by omega
   rw[Zj,List.any_nil] at q2;rw[<-q2,if_neg YY]
   conv=>whnf
   repeat' (first|refine gF (ab.fn (hT) ?_)|refine gC (gD (cJ ?_))|refine af.nrm ?_)<;>conv=>whnf
   all_goals rfl
end Go.CK
set_option maxRecDepth 100000
namespace Go.CK
open Go.AM Go.Proofs
end Go.CK
set_option maxRecDepth 100000
namespace Go.CK
open Go.AM Go.Proofs
def ruB(x y:Int)(c:Bool):Bool:=match c with
 |false=>decide (x=7/\y=8\/x=7/\y=10\/x=9/\y=8)
 |true=>decide (x=7/\y=10\/x=9/\y=8\/x=9/\y=9\/x=10/\y=10\/x=5/\y=5\/x=6/\y=6)
theorem Nn{cs:List AV}{ks:List FK}:∀{l:List (List AV×AV)} {b:Bool},(∀e∈l,e.2=.bool true/\∃q,mC ks cs e.1=some q)->(b=true↔∃e∈l,mC ks cs e.1=some true)->MN ks cs l=some (match b with|true=>some (.bool true)|false=>none)
 |[],b,_,hb=>by
  cases b with
  |true=>obtain⟨e,he,_⟩:=hb.1 rfl;cases he
  |false=>rfl
 |(k,x)::l,b,h,hb=>by
  obtain⟨h1,q,h2⟩:=h _ (ZV ..);dsimp only at h1 h2;simp only[MN,h2]
  cases q with
  |true=>
   have:b=true:=hb.2 ⟨_,ZV ..,h2⟩
   rw[this,h1]
  |false=>
   refine Nn (λe he=>h e (ZQ _ he)) (hb.trans ⟨?_,?_⟩)
   .rintro ⟨e,he,h3⟩;rcases ZI.1 he with rfl|he
    .rw [h2] at h3;cases h3
    .exact ⟨e,he,h3⟩
   .rintro ⟨e,he,h3⟩;exact⟨e,ZQ _ he,h3⟩
theorem OR(x y a b:Int)(c d:Bool):mC [.i,.i,.b] (kk x y c) (kk a b d)=some (decide (x=a)&&(decide (y=b)&&(decide (c=d)&&true))):=rfl
theorem OL{k:List AV}(h:k∈RKs):∃a b c,k=kk a b c:=by
 simp only[RKs,ZI,Xg,or_false] at h;rcases h with rfl|rfl|rfl|rfl|rfl|rfl|rfl|rfl|rfl<;>exact⟨_,_,_,rfl⟩
theorem N9{l:List (List AV×AV)}(h:NQ l)(x y:Int)(c:Bool):MN [.i,.i,.b] (kk x y c) l=some (match ruB x y c with|true=>some (.bool true)|false=>none):=by
 refine Nn (λe he=>⟨(h.1 e he).1,?_⟩) ?_
 .obtain ⟨a,b,d,hk⟩:=OL (h.1 e he).2;rw[hk];exact⟨_,OR ..⟩
 .have h1:(∃e∈l,mC [.i,.i,.b] (kk x y c) e.1=some true)↔∃k∈RKs,mC [.i,.i,.b] (kk x y c) k=some true:=by
   constructor
   .rintro ⟨e,he,h3⟩;exact⟨e.1,(h.1 e he).2,h3⟩
   .rintro ⟨k,hk,h3⟩;obtain⟨e,he,rfl⟩:=h.2 k hk;exact⟨e,he,h3⟩
  rw[h1];simp only[RKs,ZI,Xg,or_false,exists_eq_or_imp,OR,exists_eq_left,ZN,Bool.and_true,ZD,decide_eq_true_eq];cases c<;>simp[ruB]
theorem No{l:List (List AV×AV)}(h:NQ l):Oq l:=λe he=>by
 obtain⟨h1,h2⟩:=h.1 e he;obtain⟨a,b,d,hk⟩:=OL h2;rw[h1,hk];exact⟨rfl,rfl⟩
theorem SgN.rules{s:St}{m k:AV}{K:AV->Prop}{l:List (List AV×AV)}(h:NQ l)(b:Nat)(x y:Int)(c:Bool)(hm:m=.mpt b)(hk:k=.agg (kk x y c))(hb:s.bs[b]? =some (.loop (mLB (skE 0 l) l.length)))(hK:K (.bool (ruB x y c))):SgN [.i,.i,.b] false (.bool false) s m k K:=by
 have hf:=N9 h x y c
 cases hr:ruB x y c with
 |true=>
  rw[hr] at hf hK
  exact⟨b,kk x y c,l,_,some (.bool true),hm,hk,hb,rfl,⟨rfl,rfl⟩,No h,hf,λy hy=>by cases hy;exact hK,λe=>by cases e⟩
 |false=>
  rw[hr] at hf hK;exact⟨b,kk x y c,l,_,none,hm,hk,hb,rfl,⟨rfl,rfl⟩,No h,hf,(λy hy=>by cases hy),λ_=>hK⟩
def OY(a g:Gl):Bool:=decide ((arg a 0).cmp (arg g 0)=0)&&decide ((arg a 1).cmp (arg g 1)=0)
def O2(a g:Gl):Bool:=decide ((arg a 0).cmp (arg g 1)=0)&&decide ((arg a 1).cmp (arg g 0)=0)
def OO(a g:Gl):Bool:=
 if a.test=true/\g.test=true then
  if a.same g=true then true
  else if a.args.length=2/\g.args.length=2 then OY a g&&ruB a.op g.op false||O2 a g&&ruB a.op g.op true
  else false
 else false
set_option maxHeartbeats 2000000 in
theorem NA(a g:Gl)(hla:a.args.length<=4000000000)(hlg:g.args.length<=4000000000):Fun Tryz.prog 26 [a.av,g.av] (.bool (OO a g)):=by
 have ta:=Ni a (by omega)
 have tg:=Ni g (by omega)
 have sg:=MM a g;unfold OO
 cases hta:a.test with
 |false=>
  rw[hta] at ta;rw[if_neg (by simp)]
  refine Fun.of (LS (by simp) ?_) rfl rfl
  conv=>whnf
  repeat' (first|refine gF (ab.fn (ta) ?_)|(refine gC ?_;first|refine cY ?_|refine cN ?_|refine .not ?_)|refine af.nrm ?_)<;>conv=>whnf
 |true=>
 rw[hta] at ta
 cases htg:g.test with
 |false=>
  rw[htg] at tg;rw[if_neg (by simp)]
  refine Fun.of (LS (by simp) ?_) rfl rfl
  conv=>whnf
  repeat' (first|(refine gF ?_;first|refine ab.fn (ta) ?_|refine ab.fn (tg) ?_)|(refine gC ?_;first|refine cY ?_|refine cN ?_|refine .not ?_)|refine af.nrm ?_)<;>conv=>whnf
 |true=>
 rw[htg] at tg;rw[if_pos ⟨rfl,rfl⟩]
 cases hsg:a.same g with
 |true=>
  rw[hsg] at sg;rw[if_pos rfl];refine Fun.of (LS (by simp) ?_) rfl rfl
  conv=>whnf
  repeat' (first|(refine gF ?_;first|refine ab.fn (ta) ?_|refine ab.fn (tg) ?_|refine ab.fn (sg) ?_)|(refine gC ?_;first|refine cY ?_|refine .not ?_)|refine af.nrm ?_)<;>conv=>whnf
 |false=>
 rw[hsg] at sg;rw[if_neg YY]
 by_cases h2:a.args.length=2
 rotate_left
 .rw [if_neg (λe=>h2 e.1)];refine Fun.of (LS (by simp) ?_) rfl rfl
  conv=>whnf
  repeat' (first|(refine gF ?_;first|refine ab.fn (ta) ?_|refine ab.fn (tg) ?_|refine ab.fn (sg) ?_)|(refine gC ?_;first|refine cY ?_|refine cN ?_|refine .not ?_|refine gD (cJ ?_))|refine gL (.map ?_)|refine af.nrm ?_)<;>conv=>whnf
 by_cases h3:g.args.length=2
 rotate_left
 .rw [if_neg (λe=>h3 e.2)];refine Fun.of (LS (by simp) ?_) rfl rfl
  conv=>whnf
  repeat' (first|(refine gF ?_;first|refine ab.fn (ta) ?_|refine ab.fn (tg) ?_|refine ab.fn (sg) ?_)|(refine gC ?_;first|refine cY ?_|refine cN ?_|refine .not ?_|(refine gD ?_;first|refine cI ?_|refine cJ ?_))|refine gL (.map ?_)|refine af.nrm ?_)<;>conv=>whnf
 rw[if_pos ⟨h2,h3⟩];have a0:=MK (g:=a) (i:=0) (by omega)
 have a1:=MK (g:=a) (i:=1) (by omega)
 have g0:=MK (g:=g) (i:=0) (by omega)
 have g1:=MK (g:=g) (i:=1) (by omega)
 have s00:=zz (arg a 0) (arg g 0);have s11:=zz (arg a 1) (arg g 1);have s01:=zz (arg a 0) (arg g 1);have s10:=zz (arg a 1) (arg g 0);unfold OY O2;generalize decide ((arg a 0).cmp (arg g 0)=0)=b00 at s00;generalize decide ((arg a 1).cmp (arg g 1)=0)=b11 at s11;generalize decide ((arg a 0).cmp (arg g 1)=0)=b01 at s01;generalize decide ((arg a 1).cmp (arg g 0)=0)=b10 at s10;refine Fun.of (LS (by simp) ?_) rfl rfl
 conv=>whnf
 repeat' (first|(refine gF ?_;first|refine ab.fn (ta) ?_|refine ab.fn (tg) ?_|refine ab.fn (sg) ?_)|(refine gC ?_;first|refine cY ?_|refine cN ?_|refine .not ?_|refine gD (cI ?_))|refine gL (.map ?_))<;>conv=>whnf
 refine ab.raw (OB _) ?_;rintro r bs' ⟨l,hl,rfl,rfl⟩;cases b00<;>cases b11<;>cases b01<;>cases b10
 all_goals
  conv=>whnf
  repeat' (first|(refine gG ?_;first|refine aM.fn (s00) ?_|refine aM.fn (s11) ?_|refine aM.fn (s01) ?_|refine aM.fn (s10) ?_)|(refine gC ?_;first|refine cY ?_|refine cN ?_)|refine gI (gT (iA ?_)))<;>conv=>whnf
 all_goals try refine SgN.rules hl 2 a.op g.op _ rfl rfl rfl ?_
 all_goals
  conv=>whnf
  repeat' (refine gC ?_;first|refine cY ?_|refine cN ?_|(refine gD ?_;first|refine cI ?_|refine cJ ?_)|refine aq.dec (λhc=>?_) (λhc=>?_))<;>conv=>whnf
 all_goals try refine SgN.rules hl 2 a.op g.op _ rfl rfl rfl ?_
 all_goals
  conv=>whnf
  repeat' (first|(refine gC ?_;first|refine cY ?_|refine gD (cJ ?_))|refine af.nrm ?_)<;>conv=>whnf
 all_goals (simp_all[ruB]<;>omega)
end Go.CK
set_option maxRecDepth 100000
namespace Go.CK
open Go.AM Go.Proofs
def g2(op:Int)(x y:Tm):Gl:=⟨op,⟨⟨[]⟩⟩,[x,y]⟩
end Go.CK
set_option maxRecDepth 100000
namespace Go.CK
open Go.AM Go.Proofs
def MT(n:Int):Tm:=.mk 0 n ⟨⟨[]⟩⟩ []
theorem Ol(n:Int):Fun Tryz.prog 53 [.int .i64 n] (az n).avw:=by
 refine Fun.of (MG (by simp) ?_) rfl rfl
 conv=>whnf
 repeat' refine af.nrm ?_<;>conv=>whnf
 all_goals rfl
theorem NS(n:Int):Fun Tryz.prog 54 [.int .i64 n] (MT n).avw:=by
 refine Fun.of (MH (by simp) ?_) rfl rfl
 conv=>whnf
 repeat' refine af.nrm ?_<;>conv=>whnf
 all_goals rfl
theorem Om(s:ByteArray)(l:List Tm)(hl:l.length<=1000):Fun Tryz.prog 55 [.str s,.sl .no (l.map Tm.av)] (Tm.mk 2 0 s l).avw:=by
 refine Fun.of (MJ (by simp) ?_) rfl rfl
 conv=>whnf
 repeat' (first|refine gN (nS ?_)|refine af.nrm ?_)<;>conv=>whnf
 all_goals first|rfl|(simp [lim,glim];omega)
theorem L4(op:Int)(x y:Tm):Fun Tryz.prog 34 [.int .i64 op,x.avw,y.avw] (g2 op x y).av:=by
 refine Fun.of (MA (by simp) ?_) rfl rfl
 conv=>whnf
 repeat' refine af.nrm ?_<;>conv=>whnf
 all_goals (simp[g2,Gl.av,Tm.nK,Tm.avw])
theorem xu1:allI 10 100 [az 0] [.mk 2 0 ⟨⟨[102]⟩⟩ [az 0]]=some ([],13):=by kernel_rfl
theorem xu2:allI 10 100 [az 0] [.mk 2 0 ⟨⟨[97]⟩⟩ []]=some ([⟨0,.mk 2 0 ⟨⟨[97]⟩⟩ []⟩],0):=by kernel_rfl
theorem xe1:MQ (g2 7 (MT 3) (MT 5))=1:=by
 unfold MQ;generalize uni _ _=u;cases u<;>kernel_rfl
theorem xe2:MQ (g2 6 (az 0) (az 0))=2:=by
 unfold MQ;generalize uni _ _=u;cases u<;>kernel_rfl
theorem xe3:NF (g2 5 (az 0) (.mk 2 0 ⟨⟨[102]⟩⟩ [az 0])) false=2:=by kernel_rfl
theorem xe4:NF (g2 5 (az 0) (.mk 2 0 ⟨⟨[97]⟩⟩ [])) true=0:=by kernel_rfl
def xeb:List Bnd:=[⟨1,MT 5⟩]
def xek:List Gl:=[g2 7 (az 0) (az 1)]
theorem xe5:inG xeb xek (g2 7 (az 0) (MT 5)) (MQ (Nh xeb (g2 7 (az 0) (MT 5))))=1:=by
 unfold MQ;generalize uni _ _=u;cases u<;>kernel_rfl
theorem xe6:inG xeb xek (g2 7 (az 0) (MT 6)) (MQ (Nh xeb (g2 7 (az 0) (MT 6))))=0:=by
 unfold MQ;generalize uni _ _=u;cases u<;>kernel_rfl
theorem xe7:OO (g2 7 (az 0) (az 1)) (g2 8 (az 0) (az 1))=true:=by kernel_rfl
theorem xe8:OO (g2 7 (az 0) (az 1)) (g2 8 (az 1) (az 0))=false:=by kernel_rfl
set_option maxHeartbeats 4000000 in
theorem Nz:Fun Tryz.prog 23 [] (.bool true):=by
 have v0:=Ol 0;have v1:=Ol 1;have i5:=NS 5;have i3:=NS 3;have i6:=NS 6;have ff:=Om ⟨⟨[102]⟩⟩ [az 0] (by decide)
 have fa:=Om ⟨⟨[97]⟩⟩ [] (by decide)
 have k1:=L4 7 (az 0) (az 1);have k2:=L4 7 (MT 3) (MT 5);have k3:=L4 6 (az 0) (az 0);have k4:=L4 5 (az 0) (.mk 2 0 ⟨⟨[102]⟩⟩ [az 0]);have k5:=L4 5 (az 0) (.mk 2 0 ⟨⟨[97]⟩⟩ []);have k6:=L4 7 (az 0) (MT 5);have k7:=L4 7 (az 0) (MT 6);have k8:=L4 8 (az 0) (az 1);have k9:=L4 8 (az 1) (az 0);have t1:=M8 (g2 7 (MT 3) (MT 5)) (by decide) (by decide)
 rw[xe1] at t1;have t2:=M8 (g2 6 (az 0) (az 0)) (by decide) (by decide)
 rw[xe2] at t2;have u3:=ML ((rT _ _ _ _).trans xu1) (by decide)
 have t3:=Nk (g2 5 (az 0) (.mk 2 0 ⟨⟨[102]⟩⟩ [az 0])) false (by decide) u3
 rw[xe3] at t3;have u4:=ML ((rT _ _ _ _).trans xu2) (by decide)
 have t4:=Nk (g2 5 (az 0) (.mk 2 0 ⟨⟨[97]⟩⟩ [])) true (by decide) u4
 rw[xe4] at t4;have n1:=OS (b:=xeb) (known:=xek) (g:=g2 7 (az 0) (MT 5)) (by decide) (by decide) (by decide) (by decide) (M8 _ (by decide) (by decide))
 rw[xe5] at n1;have n2:=OS (b:=xeb) (known:=xek) (g:=g2 7 (az 0) (MT 6)) (by decide) (by decide) (by decide) (by decide) (M8 _ (by decide) (by decide))
 rw[xe6] at n2;have f1:=NA (g2 7 (az 0) (az 1)) (g2 8 (az 0) (az 1)) (by decide) (by decide)
 rw[xe7] at f1;have f2:=NA (g2 7 (az 0) (az 1)) (g2 8 (az 1) (az 0)) (by decide) (by decide)
 rw[xe8] at f2;refine Fun.of (L6 (by simp) ?_) rfl rfl
 conv=>whnf
 repeat' (first|(refine gF ?_;first|refine ab.fn (v0) ?_|refine ab.fn (v1) ?_|refine ab.fn (i5) ?_|refine ab.fn (k1) ?_)|(refine gG ?_;first|refine aM.fn (i3) ?_|refine aM.fn (i6) ?_|refine aM.fn (ff) ?_|refine aM.fn (fa) ?_|refine aM.fn (k2) ?_|refine aM.fn (k3) ?_|refine aM.fn (k4) ?_|refine aM.fn (k5) ?_|refine aM.fn (k6) ?_|refine aM.fn (k7) ?_|refine aM.fn (k8) ?_|refine aM.fn (k9) ?_|refine aM.fn (t1) ?_|refine aM.fn (t2) ?_|refine aM.fn (t3) ?_|refine aM.fn (t4) ?_|refine aM.fn (n1) ?_|refine aM.fn (n2) ?_|refine aM.fn (f1) ?_|refine aM.fn (f2) ?_)|(refine gC ?_;first|refine cY ?_|refine gD (cI ?_))|refine gI (iJ ?_)|refine af.nrm ?_)<;>conv=>whnf
 all_goals rfl
end Go.CK
set_option maxRecDepth 100000
namespace Go.CK
open Go.AM Go.Proofs
end Go.CK
set_option maxRecDepth 100000
namespace Go.CK
open Go.AM Go.Proofs
theorem N5(g:Gl):Fun Tryz.prog 6 [g.av] (.bool true):=by
 have hgr:=ND (l:=[g]) (most:=450) (by decide) (by decide)
 cases hg:L2 ([g].map gl2) 450 with
 |true=>
  rw[hg] at hgr;refine Fun.of (LX (by simp) ?_) rfl rfl
  conv=>whnf
  repeat' (first|(refine gF ?_;first|refine ab.fn (hgr) ?_|refine ab.fn (Nz) ?_)|refine gC (cY ?_)|refine af.nrm ?_)<;>conv=>whnf
 |false=>
  rw[hg] at hgr;have hb:=NZ hg g (by simp)
  have t1:=M8 g (by omega) (by omega)
  have t2:=Ob g (by omega) (by omega)
  refine Fun.of (LX (by simp) ?_) rfl rfl
  conv=>whnf
  repeat' (first|refine gF (ab.fn (hgr) ?_)|(refine gG ?_;first|refine aM.fn (t1) ?_|refine aM.fn (t2) ?_|refine aM.fn (Nz) ?_)|(refine gC ?_;first|refine cN ?_|refine gD (cI ?_))|refine af.nrm ?_)<;>conv=>whnf
end Go.CK
set_option maxRecDepth 100000
namespace Go.CK
open Go.AM Go.Proofs
end Go.CK
namespace Go.CK
open Go.AM Go.Proofs
theorem NP{g:Gl}:Fun Tryz.prog 6 [g.av] (.bool true):=N5 g
end Go.CK
