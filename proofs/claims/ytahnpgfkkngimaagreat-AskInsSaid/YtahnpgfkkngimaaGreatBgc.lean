/- A part. By an AI agent. -/
import Derived.Test.YtahnpgfkkngimaaGreatBgb
set_option linter.unusedSimpArgs false
set_option linter.unusedVariables false
set_option maxRecDepth 100000
namespace Go.CK
open Go.AM Go.Proofs
def Tm.gnd(t:Tm):Bool:=decide (t.vs=[])
def MU(a b:Tm):Int×Int×Int:=
 if a.Mm=true/\b.Mm=true then
  if a.gnd=true/\b.gnd=true then ((aR a).1,(aR b).1,NO (decide ((aR a).2=0/\(aR b).2=0)))
  else (0,0,0)
 else (0,0,2)
def N7(a b:Tm):AV:=.tup [.int .i64 (MU a b).1,.int .i64 (MU a b).2.1,.int .i64 (MU a b).2.2]
theorem Oo(a b:Tm):Fun Tryz.prog 99 [a.avw,b.avw] (N7 a b):=by
 have na:=NI a;have nb:=NI b;have ga:=Nb a;have gb:=Nb b;rw[show decide (a.vs=[])=a.gnd from rfl] at ga;rw[show decide (b.vs=[])=b.gnd from rfl] at gb;obtain⟨x,e,hx⟩:∃x e,aR a=(x,e):=⟨_,_,rfl⟩;obtain⟨y,f,hy⟩:∃y f,aR b=(y,f):=⟨_,_,rfl⟩;have ea:=Jq a;rw[lV hx] at ea;have eb:=Jq b;rw[lV hy] at eb;unfold N7 MU;rw[hx,hy];cases h1:a.Mm<;>rw[h1] at na
 .simp only[YZ,false_and,if_false];refine Fun.of (LV (by simp) ?_) rfl rfl
  conv=>whnf
  repeat' (first|refine gF (ab.fn (na) ?_)|(refine gC ?_;first|refine cY ?_|refine cN ?_|refine .not ?_)|refine af.nrm ?_)<;>conv=>whnf
 cases h2:b.Mm<;>rw[h2] at nb
 .simp only[YZ,and_false,if_false];refine Fun.of (LV (by simp) ?_) rfl rfl
  conv=>whnf
  repeat' (first|(refine gF ?_;first|refine ab.fn (na) ?_|refine ab.fn (nb) ?_)|(refine gC ?_;first|refine cY ?_|refine cN ?_|refine .not ?_)|refine af.nrm ?_)<;>conv=>whnf
 cases h3:a.gnd<;>rw[h3] at ga
 .simp only[YZ,and_false,false_and,if_false,and_self,if_true];refine Fun.of (LV (by simp) ?_) rfl rfl
  conv=>whnf
  repeat' (first|(refine gF ?_;first|refine ab.fn (na) ?_|refine ab.fn (nb) ?_|refine ab.fn (ga) ?_)|(refine gC ?_;first|refine cY ?_|refine cN ?_|refine .not ?_)|refine af.nrm ?_)<;>conv=>whnf
 cases h4:b.gnd<;>rw[h4] at gb
 .simp only[YZ,and_false,false_and,if_false,and_self,if_true];refine Fun.of (LV (by simp) ?_) rfl rfl
  conv=>whnf
  repeat' (first|(refine gF ?_;first|refine ab.fn (na) ?_|refine ab.fn (nb) ?_|refine ab.fn (ga) ?_|refine ab.fn (gb) ?_)|(refine gC ?_;first|refine cY ?_|refine cN ?_|refine .not ?_)|refine af.nrm ?_)<;>conv=>whnf
 simp only[and_self,if_true]
 by_cases he:e=0
 .rw [show decide (e=0/\f=0)=decide (f=0) by rw[decide_eq_decide];exact⟨λq=>q.2,λq=>⟨he,q⟩⟩]
  refine Fun.of (LV (by simp) ?_) rfl rfl
  conv=>whnf
  repeat' (first|(refine gF ?_;first|refine ab.fn (na) ?_|refine ab.fn (nb) ?_|refine ab.fn (ga) ?_|refine ab.fn (gb) ?_|refine ab.fn (ea) ?_|refine ab.fn (eb) ?_|refine ab.fn (LP _) ?_)|(refine gC ?_;first|refine cY ?_|refine .not ?_|refine gD (cI ?_))|refine af.nrm ?_)<;>conv=>whnf
 .rw [decide_eq_false (λq=>he q.1)];refine Fun.of (LV (by simp) ?_) rfl rfl
  conv=>whnf
  repeat' (first|(refine gF ?_;first|refine ab.fn (na) ?_|refine ab.fn (nb) ?_|refine ab.fn (ga) ?_|refine ab.fn (gb) ?_|refine ab.fn (ea) ?_|refine ab.fn (eb) ?_|refine ab.fn (LP false) ?_)|(refine gC ?_;first|refine cY ?_|refine .not ?_|refine gD (cJ ?_))|refine af.nrm ?_)<;>conv=>whnf
def OX(op x y:Int):Bool:=if op=7 then decide (x<y) else if op=8 then decide (x<=y) else if op=9 then decide (x=y) else !decide (x=y)
def N3(op:Int)(a b:Tm):Int:=if (MU a b).2.2=1 then NO (OX op (MU a b).1 (MU a b).2.1) else (MU a b).2.2
theorem N2(opn:Int)(a b:Tm):Fun Tryz.prog 61 [.int .i64 opn,a.avw,b.avw] (.int .i64 (N3 opn a b)):=by
 have hv:=Oo a b;unfold N7 at hv;unfold N3;generalize MU a b=q at hv;obtain⟨x,y,r⟩:=q;dsimp only at hv|-
 by_cases hr:r=1
 rotate_left
 .rw [if_neg hr];refine Fun.of (LU (by simp) ?_) rfl rfl
  conv=>whnf
  repeat' (first|refine gF (ab.fn (hv) ?_)|(refine gC ?_;first|refine .not ?_|refine gD (cJ ?_))|refine af.nrm ?_)<;>conv=>whnf
 rw[if_pos hr];unfold OX
 by_cases h7:opn=7
 .rw [if_pos h7];refine Fun.of (LU (by simp) ?_) rfl rfl
  conv=>whnf
  repeat' (first|(refine gF ?_;first|refine ab.fn (hv) ?_|refine ab.fn (LP _) ?_)|(refine gC ?_;first|refine .not ?_|refine gD (cI ?_))|refine af.nrm ?_)<;>conv=>whnf
  all_goals rfl
 rw[if_neg h7]
 by_cases h8:opn=8
 .rw [if_pos h8];refine Fun.of (LU (by simp) ?_) rfl rfl
  conv=>whnf
  repeat' (first|(refine gF ?_;first|refine ab.fn (hv) ?_|refine ab.fn (LP _) ?_)|(refine gC ?_;first|refine .not ?_|(refine gD ?_;first|refine cI ?_|refine cJ ?_))|refine af.nrm ?_)<;>conv=>whnf
  all_goals rfl
 rw[if_neg h8]
 by_cases h9:opn=9
 .rw [if_pos h9];refine Fun.of (LU (by simp) ?_) rfl rfl
  conv=>whnf
  repeat' (first|(refine gF ?_;first|refine ab.fn (hv) ?_|refine ab.fn (LP _) ?_)|(refine gC ?_;first|refine .not ?_|(refine gD ?_;first|refine cI ?_|refine cJ ?_))|refine af.nrm ?_)<;>conv=>whnf
  all_goals rfl
 rw[if_neg h9];refine Fun.of (LU (by simp) ?_) rfl rfl
 conv=>whnf
 repeat' (first|(refine gF ?_;first|refine ab.fn (hv) ?_|refine ab.fn (LP _) ?_)|(refine gC ?_;first|refine .not ?_|(refine gD ?_;first|refine cI ?_|refine cJ ?_))|refine af.nrm ?_)<;>conv=>whnf
 all_goals rfl
theorem NN(opn:Int)(a b:Tm)(ha:a.vs.length<=100000)(hb:b.vs.length<=100000):Fun Tryz.prog 65 [.int .i64 opn,a.avw,b.avw] (.int .i64 (N3 opn a b)):=by
 have na:=Nw a;have nb:=Nw b;have ga:=MC ha;have gb:=MC hb;rw[show decide (a.vs=[])=a.gnd from rfl] at ga;rw[show decide (b.vs=[])=b.gnd from rfl] at gb;obtain⟨x,e,hx⟩:∃x e,aR a=(x,e):=⟨_,_,rfl⟩;obtain⟨y,f,hy⟩:∃y f,aR b=(y,f):=⟨_,_,rfl⟩;have ea:=LM a;rw[lV hx] at ea;have eb:=LM b;rw[lV hy] at eb;unfold N3 MU;rw[hx,hy];cases h1:a.Mm<;>rw[h1] at na
 .simp only[YZ,false_and,if_false];rw[if_neg (by decide)]
  refine Fun.of (sa (by simp) ?_) rfl rfl
  conv=>whnf
  repeat' (first|refine gF (ab.fn (na) ?_)|(refine gC ?_;first|refine cY ?_|refine cN ?_|refine .not ?_)|refine af.nrm ?_)<;>conv=>whnf
 cases h2:b.Mm<;>rw[h2] at nb
 .simp only[YZ,and_false,if_false];rw[if_neg (by decide)]
  refine Fun.of (sa (by simp) ?_) rfl rfl
  conv=>whnf
  repeat' (first|(refine gF ?_;first|refine ab.fn (na) ?_|refine ab.fn (nb) ?_)|(refine gC ?_;first|refine cY ?_|refine cN ?_|refine .not ?_)|refine af.nrm ?_)<;>conv=>whnf
 cases h3:a.gnd<;>rw[h3] at ga
 .simp only[YZ,and_false,false_and,if_false,and_self,if_true];rw[if_neg (by decide)]
  refine Fun.of (sa (by simp) ?_) rfl rfl
  conv=>whnf
  repeat' (first|(refine gF ?_;first|refine ab.fn (na) ?_|refine ab.fn (nb) ?_|refine ab.fn (ga) ?_)|(refine gC ?_;first|refine cY ?_|refine cN ?_|refine .not ?_)|refine af.nrm ?_)<;>conv=>whnf
 cases h4:b.gnd<;>rw[h4] at gb
 .simp only[YZ,and_false,false_and,if_false,and_self,if_true];rw[if_neg (by decide)]
  refine Fun.of (sa (by simp) ?_) rfl rfl
  conv=>whnf
  repeat' (first|(refine gF ?_;first|refine ab.fn (na) ?_|refine ab.fn (nb) ?_|refine ab.fn (ga) ?_|refine ab.fn (gb) ?_)|(refine gC ?_;first|refine cY ?_|refine cN ?_|refine .not ?_)|refine af.nrm ?_)<;>conv=>whnf
 simp only[and_self,if_true]
 by_cases he:e=0
 .by_cases hf:f=0
  .rw [decide_eq_true (show e=0/\f=0 from ⟨he,hf⟩),if_pos (show NO true=1 from rfl)];unfold OX
   by_cases h7:opn=7
   .rw [if_pos h7];refine Fun.of (sa (by simp) ?_) rfl rfl
    conv=>whnf
    repeat' (first|(refine gF ?_;first|refine ab.fn (na) ?_|refine ab.fn (nb) ?_|refine ab.fn (ga) ?_|refine ab.fn (gb) ?_|refine ab.fn (ea) ?_|refine ab.fn (eb) ?_|refine ab.fn (LY _) ?_)|(refine gC ?_;first|refine cY ?_|refine .not ?_|refine gD (cI ?_))|refine af.nrm ?_)<;>conv=>whnf
    all_goals rfl
   rw[if_neg h7]
   by_cases h8:opn=8
   .rw [if_pos h8];refine Fun.of (sa (by simp) ?_) rfl rfl
    conv=>whnf
    repeat' (first|(refine gF ?_;first|refine ab.fn (na) ?_|refine ab.fn (nb) ?_|refine ab.fn (ga) ?_|refine ab.fn (gb) ?_|refine ab.fn (ea) ?_|refine ab.fn (eb) ?_|refine ab.fn (LY _) ?_)|(refine gC ?_;first|refine cY ?_|refine .not ?_|(refine gD ?_;first|refine cI ?_|refine cJ ?_))|refine af.nrm ?_)<;>conv=>whnf
    all_goals rfl
   rw[if_neg h8]
   by_cases h9:opn=9
   .rw [if_pos h9];refine Fun.of (sa (by simp) ?_) rfl rfl
    conv=>whnf
    repeat' (first|(refine gF ?_;first|refine ab.fn (na) ?_|refine ab.fn (nb) ?_|refine ab.fn (ga) ?_|refine ab.fn (gb) ?_|refine ab.fn (ea) ?_|refine ab.fn (eb) ?_|refine ab.fn (LY _) ?_)|(refine gC ?_;first|refine cY ?_|refine .not ?_|(refine gD ?_;first|refine cI ?_|refine cJ ?_))|refine af.nrm ?_)<;>conv=>whnf
    all_goals rfl
   rw[if_neg h9];refine Fun.of (sa (by simp) ?_) rfl rfl
   conv=>whnf
   repeat' (first|(refine gF ?_;first|refine ab.fn (na) ?_|refine ab.fn (nb) ?_|refine ab.fn (ga) ?_|refine ab.fn (gb) ?_|refine ab.fn (ea) ?_|refine ab.fn (eb) ?_|refine ab.fn (LY _) ?_)|(refine gC ?_;first|refine cY ?_|refine .not ?_|(refine gD ?_;first|refine cI ?_|refine cJ ?_))|refine af.nrm ?_)<;>conv=>whnf
   all_goals rfl
  .rw [decide_eq_false (λq=>hf q.2),if_neg (by decide)]
   refine Fun.of (sa (by simp) ?_) rfl rfl
   conv=>whnf
   repeat' (first|(refine gF ?_;first|refine ab.fn (na) ?_|refine ab.fn (nb) ?_|refine ab.fn (ga) ?_|refine ab.fn (gb) ?_|refine ab.fn (ea) ?_|refine ab.fn (eb) ?_)|(refine gC ?_;first|refine cY ?_|refine .not ?_|(refine gD ?_;first|refine cI ?_|refine cJ ?_))|refine af.nrm ?_)<;>conv=>whnf
   all_goals rfl
 .rw [decide_eq_false (λq=>he q.1),if_neg (by decide)]
  refine Fun.of (sa (by simp) ?_) rfl rfl
  conv=>whnf
  repeat' (first|(refine gF ?_;first|refine ab.fn (na) ?_|refine ab.fn (nb) ?_|refine ab.fn (ga) ?_|refine ab.fn (gb) ?_|refine ab.fn (ea) ?_|refine ab.fn (eb) ?_)|(refine gC ?_;first|refine cY ?_|refine .not ?_|refine gD (cJ ?_))|refine af.nrm ?_)<;>conv=>whnf
  all_goals rfl
theorem MM(a b:Gl):Fun Tryz.prog 67 [a.av,b.av] (.bool (a.same b)):=by
 unfold Gl.same
 by_cases h1:a.op=b.op
 rotate_left
 .rw [decide_eq_false h1,Zu];refine Fun.of (LZ (by simp) ?_) rfl rfl
  conv=>whnf
  repeat' (first|(refine gC ?_;first|refine cN ?_|refine gD (cJ ?_))|refine af.nrm ?_)<;>conv=>whnf
  all_goals rfl
 rw[decide_eq_true h1,Za]
 by_cases h2:a.name=b.name
 rotate_left
 .rw [decide_eq_false h2,Zu];refine Fun.of (LZ (by simp) ?_) rfl rfl
  conv=>whnf
  repeat' (first|(refine gC ?_;first|refine cN ?_|(refine gD ?_;first|refine cI ?_|refine cJ ?_))|refine af.nrm ?_)<;>conv=>whnf
  all_goals rfl
 rw[decide_eq_true h2,Za]
 by_cases h3:a.args.length=b.args.length
 rotate_left
 .rw [decide_eq_false h3,Zu];refine Fun.of (LZ (by simp) ?_) rfl rfl
  conv=>whnf
  repeat' (first|(refine gC ?_;(refine gD ?_;first|refine cI ?_|refine cJ ?_))|refine gL (.map ?_)|refine af.nrm ?_)<;>conv=>whnf
  all_goals rfl
 rw[decide_eq_true h3,Za];have hl:=ON h3;refine Fun.of (LZ (by simp) ?_) rfl rfl
 conv=>whnf
 repeat' (first|refine gF (ab.fn (hl) ?_)|refine gC (gD (cI ?_))|refine gL (.map ?_)|refine af.nrm ?_)<;>conv=>whnf
 all_goals rfl
def Nh(b:List Bnd)(g:Gl):Gl:=⟨g.op,g.name,g.args.map (cR b)⟩
theorem M6(b:List Bnd)(g:Gl)(hN:Tm.ai g.args<=1000000)(hb:b.length<=4000000000):Fun Tryz.prog 77 [.sl .no (b.map Bnd.av),g.av] (Nh b g).av:=by
 have h:=C7 (b:=b) (l:=g.args) (by have:=bF g.args;omega) fun x hx=>vr b hb x (by have:=kP hx;omega);refine Fun.of (MY (by simp) ?_) rfl rfl
 conv=>whnf
 repeat' (first|refine gF (ab.fn (h) ?_)|refine af.nrm ?_)<;>conv=>whnf
 all_goals rfl
theorem Pn(b:List Bnd)(g:Gl)(hN:Tm.ai g.args<=1000000):Fun Tryz.prog 31 [.sl .no (b.map Bnd.av),g.av] (Nh b g).av:=by
 have h:=wG (b:=b) (l:=g.args) (by have:=bF g.args;omega) fun x hx=>x5 b x (by have:=kP hx;omega);refine Fun.of (Pb (by simp) ?_) rfl rfl
 conv=>whnf
 repeat' (first|refine gG (aM.fn (h) ?_)|refine af.nrm ?_)<;>conv=>whnf
 all_goals rfl
def uni(a b:Tm):Bool:=match wH fN fF [a] [b] with
 |some (_,e)=>L7 e
 |none=>false
theorem Oy{a b:Tm}(hN:a.nodes+b.nodes<=100000000):Fun Tryz.prog 60 [a.avw,b.avw] (.bool (uni a b))/\Fun Tryz.prog 66 [a.avw,b.avw] (.bool (uni a b)):=by
 obtain⟨out,e,h1,h2⟩:=OI (a:=[a]) (b:=[b]) (by simp only[Tm.ai];omega)
 have hu:uni a b=L7 e:=by unfold uni;rw[h1]
 rw[hu];exact⟨ML h1 (by omega),N4 h2 (by omega)⟩
def L2:List (List Tm×ByteArray)->Int->Bool
 |[],most=>decide (most<0)
 |a::l,most=>if most<0 then true else L2 l (LR a.1 (most-1-(a.2.size:Int).tdiv 8) 64)
theorem Ny(l:List (List Tm×ByteArray)){most:Int}(h:most<0):L2 l most=true:=by
 cases l with
 |nil=>simpa[L2] using h
 |cons a l=>rw[L2,if_pos h]
theorem N0{l:List (List Tm×ByteArray)}{j:Nat}{x:List Tm×ByteArray}(hx:l[j]? =some x){most:Int}(h:0<=most):L2 (l.drop j) most=L2 (l.drop (j+1)) (LR x.1 (most-1-(x.2.size:Int).tdiv 8) 64):=by
 obtain⟨h1,rfl⟩:=ZB.1 hx;rw[ZH h1,L2,if_neg (by omega)]
def gl2(a:Gl):List Tm×ByteArray:=(a.args,a.name)
theorem ND{l:List Gl}{most:Int}(b1:-1<=most)(b2:most<=100000):Fun Tryz.prog 22 [slA Gl.av l,.int .i64 most] (.bool (L2 (l.map gl2) most)):=by
 refine Fun.assume rfl λhg0=>?_;have hgs:=bH (hg0 (slA Gl.av l) (by simp))
 have hg:=hgs.1;have hml:(l.map gl2).length=l.length:=by simp
 refine Fun.of (Ma (by simp) ?_) rfl rfl
 conv=>whnf
 skip;refine aw.by (fb:=true) (λs (q:Nat×Int)=>s.zG [(1,.int .i64 q.2),(5,.int .i64 q.1)]) (λq=>q.1<=l.length/\(-1<=q.2/\q.2<=100000)/\L2 ((l.map gl2).drop q.1) q.2=L2 (l.map gl2) most) (λq=>l.length-q.1) (0,most) ⟨ZJ _,by simp only;omega,rfl⟩ ?_ ?_
 .exact au
 .rintro ⟨j,r⟩ ⟨hj,hr,he⟩;dsimp only at hj hr he|-
  by_cases hlt:j<l.length
  .obtain ⟨x,hx⟩:∃x,l[j]? =some x:=⟨_,ZA hlt⟩;have hx2:(l.map gl2)[j]? =some (gl2 x):=by rw[YD,hx];rfl
   have hxs:=(Gl.good (hgs.2 x (ZE hx))).1
   by_cases hr0:0<=r
   .rw [N0 hx2 hr0,show (gl2 x).1=x.args from rfl,show (gl2 x).2=x.name from rfl] at he;have hw:=NU (.mk 0 0 .empty x.args) (r-1-(x.name.size:Int).tdiv 8) 64;rw[show (Tm.mk 0 0 .empty x.args).args=x.args from rfl] at hw;have h8:=NG x.name.size
    conv=>whnf
    repeat' (first|(refine gG ?_;refine aM.fn (Ow (by omega) (by omega) (by omega) (by omega)) ?_)|refine gC (gD (cI ?_))|refine gW (wI ?_)|refine gL (.map ?_)|refine gN (nS ?_)|refine gI (gM (iE ?_)))<;>conv=>whnf
    refine⟨(j+1,LR x.args (r-1-(x.name.size:Int).tdiv 8) 64),⟨⟨hlt,?_,he⟩,by simp only;omega⟩,?_⟩
    .simp only;omega
    .exact au
   .rw [Ny _ (by omega)] at he
    conv=>whnf
    repeat' (first|(refine gC ?_;(refine gD ?_;first|refine cI ?_|refine cJ ?_))|refine gL (.map ?_)|refine af.nrm ?_)<;>conv=>whnf
    rw[<-he];simp;omega
  .have hje:j=l.length:=by omega
   subst hje;rw[<-hml,Zj,L2] at he
   conv=>whnf
   repeat' (first|(refine gC ?_;first|refine cN ?_|refine gD (cJ ?_))|refine gL (.map ?_)|refine af.nrm ?_)<;>conv=>whnf
   rw[<-he]
theorem Ou(t:Tm):∀left deep:Int,0<=t.wgh left deep->(t.nodes:Int)<=left-t.wgh left deep:=by
 induction t using Tm.bD with
 |h k m s l ih=>
  have hl:∀(r:List Tm),(∀t∈r,t∈l)->∀left deep:Int,0<=left->0<=Tm.Mh r left deep->(Tm.ai r:Int)<=left-Tm.Mh r left deep:=λr=>by
   induction r with
   |nil=>intro _ left deep h1 h2;simp only[Tm.Mh,Tm.ai] at*;omega
   |cons t r ihr=>
    intro hm left deep h1 h2;rw[Tm.Mh,if_neg (by omega)] at h2|-
    by_cases h3:0<=t.wgh left deep
    .have h4:=ih t (hm t (by simp)) left deep h3
     have h5:=ihr (λx hx=>hm x (by simp[hx])) (t.wgh left deep) deep h3 h2
     rw[Tm.ai];omega
    .rw [Nj _ (by omega)] at h2;omega
  intro left deep h;rw[Tm.wgh] at h|-;have h8:=NG s.size;split at h
  .omega
  .rename_i hc;rw[if_neg hc];have h2:=hl l (λt h=>h) (left-1-(s.size:Int).tdiv 8) (deep-1) (by omega) h
   rw[Tm.nodes];omega
theorem NT{l:List Tm}{left deep:Int}(h:0<=LR l left deep):(l.length:Int)<=left/\(Tm.ai l:Int)<=left/\LR l left deep<=left:=by
 by_cases hc:deep=0\/left<l.length
 .rw [LR,if_pos hc] at h;omega
 .rw [LR,if_neg hc] at h|-
  have:∀(r:List Tm) (left:Int),0<=left->0<=Tm.Mh r left deep->(Tm.ai r:Int)<=left-Tm.Mh r left deep:=λr=>by
   induction r with
   |nil=>intro left h1 h2;simp only[Tm.Mh,Tm.ai] at*;omega
   |cons t r ihr=>
    intro left h1 h2;rw[Tm.Mh,if_neg (by omega)] at h2|-
    by_cases h3:0<=t.wgh left deep
    .have h4:=Ou t left deep h3;have h5:=ihr (t.wgh left deep) h3 h2;rw[Tm.ai];omega
    .rw [Nj _ (by omega)] at h2;omega
  have:=this l left (by omega) h
  omega
theorem NJ:∀{l:List (List Tm×ByteArray)} {most:Int},L2 l most=false->∀y∈l,(y.1.length:Int)<=most/\(Tm.ai y.1:Int)<=most
 |[],_,_,y,hy=>by cases hy
 |a::l,most,h,y,hy=>by
  rw[L2] at h;split at h
  .cases h
  .have h8:=NG a.2.size
   have h0:0<=LR a.1 (most-1-(a.2.size:Int).tdiv 8) 64:=by
    rcases Int.lt_or_le (LR a.1 (most-1-(a.2.size:Int).tdiv 8) 64) 0 with h1|h1
    .rw [Ny _ h1] at h;cases h
    .exact h1
   have h2:=NT h0;rcases ZI.1 hy with rfl|hy
   .omega
   .have:=NJ h y hy;omega
theorem NZ{l:List Gl}{most:Int}(h:L2 (l.map gl2) most=false):∀g∈l,(g.args.length:Int)<=most/\(Tm.ai g.args:Int)<=most:=λg hg=>NJ h (gl2 g) (YV hg)
def Oz(op:Int)(a b:Tm)(u:Bool):Int:=
 if op=11 then (if a.kind=1 then 0 else NO (decide (a.kind=0)))
 else if op=12 then (if a.gnd=true then 1 else 0)
 else if op=5\/op=6 then (if a.cmp b=0 then NO (decide (op=5)) else if u=true then 0 else NO (decide (op=6)))
 else N3 op a b
def arg(g:Gl)(i:Nat):Tm:=g.args.getD i (.mk 0 0 ⟨⟨[]⟩⟩ [])
def NF(g:Gl)(u:Bool):Int:=if g.test=true then Oz g.op (arg g 0) (arg g 1) u else NO (decide (g.op=1)&&g.right)
def MQ(g:Gl):Int:=NF g (uni (arg g 0) (arg g 1))
theorem NV{g:Gl}(h:g.test=true):(5<=g.op/\g.op<=12)/\(g.args.length:Int)=arG g.op:=by
 unfold Gl.test at h;rw[ZD,decide_eq_true_eq] at h;refine⟨h.1,?_⟩;have h2:=h.2;unfold Gl.right at h2;rw[if_neg (by omega)] at h2
 simp only[ZD,decide_eq_true_eq] at h2;exact h2.2.2.1
theorem MK{g:Gl}{i:Nat}(h:i<g.args.length):g.args[i]? =some (arg g i):=by
 unfold arg;rw[List.getD_eq_getElem?_getD,ZA h];rfl
theorem MS(g:Gl)(i:Nat):(arg g i).nodes<=Tm.ai g.args+1:=by
 by_cases h:i<g.args.length
 .have:=kP (ZE (MK h));omega
 .unfold arg;rw[List.getD_eq_getElem?_getD,ZR (by omega)]
  simp[Tm.nodes,Tm.ai]
theorem Nk(g:Gl)(u:Bool)(hl:g.args.length<=4000000000)(hu0:Fun Tryz.prog 60 [(arg g 0).avw,(arg g 1).avw] (.bool u)):Fun Tryz.prog 24 [g.av] (.int .i64 (NF g u)):=by
 have hte:=Ni g (by omega)
 have hrg:=M9 g (by omega)
 unfold NF
 cases ht:g.test with
 |false=>
  rw[ht] at hte;rw[if_neg YY]
  by_cases h1:g.op=1
  .rw [decide_eq_true h1,Za];refine Fun.of (LO (by simp) ?_) rfl rfl
   conv=>whnf
   repeat' (first|(refine gF ?_;first|refine ab.fn (hte) ?_|refine ab.fn (hrg) ?_|refine ab.fn (LP _) ?_)|(refine gC ?_;first|refine cN ?_|refine .not ?_|refine gD (cI ?_))|refine af.nrm ?_)<;>conv=>whnf
   all_goals rfl
  .rw [decide_eq_false h1,Zu];refine Fun.of (LO (by simp) ?_) rfl rfl
   conv=>whnf
   repeat' (first|(refine gF ?_;first|refine ab.fn (hte) ?_|refine ab.fn (LP _) ?_)|(refine gC ?_;first|refine cN ?_|refine .not ?_|refine gD (cJ ?_))|refine af.nrm ?_)<;>conv=>whnf
   all_goals rfl
 |true=>
 rw[ht] at hte;rw[if_pos rfl];obtain⟨hop,hlen⟩:=NV ht;unfold arG at hlen;rw[if_neg (by omega)] at hlen
 unfold Oz;have hg0:0<g.args.length:=by split at hlen<;>omega
 have a0:=MK hg0;have ga:=Nb (arg g 0)
 by_cases h11:g.op=11
 .rw [if_pos h11]
  by_cases hk:(arg g 0).kind=1
  .rw [if_pos hk];refine Fun.of (LO (by simp) ?_) rfl rfl
   conv=>whnf
   repeat' (first|refine gF (ab.fn (hte) ?_)|(refine gC ?_;first|refine cY ?_|refine .not ?_|refine gD (cI ?_))|refine gI (gT (iA ?_))|refine af.nrm ?_)<;>conv=>whnf
   all_goals rfl
  .rw [if_neg hk];refine Fun.of (LO (by simp) ?_) rfl rfl
   conv=>whnf
   repeat' (first|(refine gF ?_;first|refine ab.fn (hte) ?_|refine ab.fn (LP _) ?_)|(refine gC ?_;first|refine cY ?_|refine .not ?_|(refine gD ?_;first|refine cI ?_|refine cJ ?_))|refine gI (gT (iA ?_))|refine af.nrm ?_)<;>conv=>whnf
   all_goals rfl
 rw[if_neg h11]
 by_cases h12:g.op=12
 .rw [if_pos h12]
  cases hgn:(arg g 0).gnd with
  |true=>
   rw[show decide ((arg g 0).vs=[])=(arg g 0).gnd from rfl,hgn] at ga;rw[if_pos rfl];refine Fun.of (LO (by simp) ?_) rfl rfl
   conv=>whnf
   repeat' (first|(refine gF ?_;first|refine ab.fn (hte) ?_|refine ab.fn (ga) ?_)|(refine gC ?_;first|refine cY ?_|refine .not ?_|(refine gD ?_;first|refine cI ?_|refine cJ ?_))|refine gI (gT (iA ?_))|refine af.nrm ?_)<;>conv=>whnf
   all_goals rfl
  |false=>
   rw[show decide ((arg g 0).vs=[])=(arg g 0).gnd from rfl,hgn] at ga;rw[if_neg YY];refine Fun.of (LO (by simp) ?_) rfl rfl
   conv=>whnf
   repeat' (first|(refine gF ?_;first|refine ab.fn (hte) ?_|refine ab.fn (ga) ?_)|(refine gC ?_;first|refine cY ?_|refine cN ?_|refine .not ?_|(refine gD ?_;first|refine cI ?_|refine cJ ?_))|refine gI (gT (iA ?_))|refine af.nrm ?_)<;>conv=>whnf
   all_goals rfl
 rw[if_neg h12];rw[if_neg (by omega)] at hlen
 have hg1:1<g.args.length:=by omega
 have a1:=MK hg1;have hsa:=zz (arg g 0) (arg g 1);have hun:=hu0;have hco:=N2 g.op (arg g 0) (arg g 1)
 by_cases h56:g.op=5\/g.op=6
 rotate_left
 .rw [if_neg h56];refine Fun.of (LO (by simp) ?_) rfl rfl
  conv=>whnf
  repeat' (first|refine gF (ab.fn (hte) ?_)|refine gG (aM.fn (hco) ?_)|(refine gC ?_;first|refine cY ?_|refine .not ?_|refine gD (cJ ?_))|refine gI (gT (iA ?_))|refine af.nrm ?_)<;>conv=>whnf
  all_goals rfl
 rw[if_pos h56]
 by_cases hc:(arg g 0).cmp (arg g 1)=0
 .rw [if_pos hc];rw[decide_eq_true hc] at hsa;rcases h56 with h5|h5
  .rw [decide_eq_true h5];refine Fun.of (LO (by simp) ?_) rfl rfl
   conv=>whnf
   repeat' (first|(refine gF ?_;first|refine ab.fn (hte) ?_|refine ab.fn (LP _) ?_)|refine gG (aM.fn (hsa) ?_)|(refine gC ?_;first|refine cY ?_|refine .not ?_|(refine gD ?_;first|refine cI ?_|refine cJ ?_))|refine gI (gT (iA ?_))|refine af.nrm ?_)<;>conv=>whnf
   all_goals (rw[h5];rfl)
  .rw [decide_eq_false (show¬g.op=5 by omega)]
   refine Fun.of (LO (by simp) ?_) rfl rfl
   conv=>whnf
   repeat' (first|(refine gF ?_;first|refine ab.fn (hte) ?_|refine ab.fn (LP _) ?_)|refine gG (aM.fn (hsa) ?_)|(refine gC ?_;first|refine cY ?_|refine .not ?_|(refine gD ?_;first|refine cI ?_|refine cJ ?_))|refine gI (gT (iA ?_))|refine af.nrm ?_)<;>conv=>whnf
   all_goals (rw[h5];rfl)
 rw[if_neg hc];rw[decide_eq_false hc] at hsa
 cases hu:u with
 |true=>
  rw[hu] at hun;rw[if_pos rfl];refine Fun.of (LO (by simp) ?_) rfl rfl
  conv=>whnf
  repeat' (first|refine gF (ab.fn (hte) ?_)|(refine gG ?_;first|refine aM.fn (hsa) ?_|refine aM.fn (hun) ?_)|(refine gC ?_;first|refine cY ?_|refine cN ?_|refine .not ?_|(refine gD ?_;first|refine cI ?_|refine cJ ?_)|refine aq.dec (λhc=>?_) (λhc=>?_))|refine gI (gT (iA ?_))|refine af.nrm ?_)<;>conv=>whnf
  all_goals rfl
 |false=>
  rw[hu] at hun;rw[if_neg YY];rcases h56 with h5|h5
  .rw [decide_eq_false (show¬g.op=6 by omega)]
   refine Fun.of (LO (by simp) ?_) rfl rfl
   conv=>whnf
   repeat' (first|(refine gF ?_;first|refine ab.fn (hte) ?_|refine ab.fn (LP _) ?_)|(refine gG ?_;first|refine aM.fn (hsa) ?_|refine aM.fn (hun) ?_)|(refine gC ?_;first|refine cY ?_|refine cN ?_|refine .not ?_|(refine gD ?_;first|refine cI ?_|refine cJ ?_))|refine gI (gT (iA ?_))|refine af.nrm ?_)<;>conv=>whnf
   all_goals (rw[h5];rfl)
  .rw [decide_eq_true h5];refine Fun.of (LO (by simp) ?_) rfl rfl
   conv=>whnf
   repeat' (first|(refine gF ?_;first|refine ab.fn (hte) ?_|refine ab.fn (LP _) ?_)|(refine gG ?_;first|refine aM.fn (hsa) ?_|refine aM.fn (hun) ?_)|(refine gC ?_;first|refine cY ?_|refine cN ?_|refine .not ?_|(refine gD ?_;first|refine cI ?_|refine cJ ?_))|refine gI (gT (iA ?_))|refine af.nrm ?_)<;>conv=>whnf
   all_goals (rw[h5];rfl)
theorem M8(g:Gl)(hN:Tm.ai g.args<=10000)(hl:g.args.length<=4000000000):Fun Tryz.prog 24 [g.av] (.int .i64 (MQ g)):=by
 have n0:=MS g 0;have n1:=MS g 1;exact Nk g _ hl (Oy (a:=arg g 0) (b:=arg g 1) (by omega)).1
theorem Ob(g:Gl)(hN:Tm.ai g.args<=10000)(hl:g.args.length<=4000000000):Fun Tryz.prog 25 [g.av] (.int .i64 (MQ g)):=by
 have n0:=MS g 0;have n1:=MS g 1;have v0:=zw (arg g 0);have v1:=zw (arg g 1);have hte:=Ov g (by omega) (by omega)
 have hrg:=MP g (by omega) (by omega)
 have hu0:=(Oy (a:=arg g 0) (b:=arg g 1) (by omega)).2
 unfold MQ;generalize uni (arg g 0) (arg g 1)=u at hu0;unfold NF
 cases ht:g.test with
 |false=>
  rw[ht] at hte;rw[if_neg YY]
  by_cases h1:g.op=1
  .rw [decide_eq_true h1,Za];refine Fun.of (kr (by simp) ?_) rfl rfl
   conv=>whnf
   repeat' (first|(refine gF ?_;first|refine ab.fn (hte) ?_|refine ab.fn (hrg) ?_|refine ab.fn (LY _) ?_)|(refine gC ?_;first|refine cN ?_|refine .not ?_|refine gD (cI ?_))|refine af.nrm ?_)<;>conv=>whnf
   all_goals rfl
  .rw [decide_eq_false h1,Zu];refine Fun.of (kr (by simp) ?_) rfl rfl
   conv=>whnf
   repeat' (first|(refine gF ?_;first|refine ab.fn (hte) ?_|refine ab.fn (LY _) ?_)|(refine gC ?_;first|refine cN ?_|refine .not ?_|refine gD (cJ ?_))|refine af.nrm ?_)<;>conv=>whnf
   all_goals rfl
 |true=>
 rw[ht] at hte;rw[if_pos rfl];obtain⟨hop,hlen⟩:=NV ht;unfold arG at hlen;rw[if_neg (by omega)] at hlen
 unfold Oz;have hg0:0<g.args.length:=by split at hlen<;>omega
 have a0:=MK hg0;have ga:=MC (t:=arg g 0) (by omega)
 by_cases h11:g.op=11
 .rw [if_pos h11]
  by_cases hk:(arg g 0).kind=1
  .rw [if_pos hk];refine Fun.of (kr (by simp) ?_) rfl rfl
   conv=>whnf
   repeat' (first|refine gF (ab.fn (hte) ?_)|(refine gC ?_;first|refine cY ?_|refine .not ?_|refine gD (cI ?_))|refine gI (gT (iA ?_))|refine af.nrm ?_)<;>conv=>whnf
   all_goals rfl
  .rw [if_neg hk];refine Fun.of (kr (by simp) ?_) rfl rfl
   conv=>whnf
   repeat' (first|(refine gF ?_;first|refine ab.fn (hte) ?_|refine ab.fn (LY _) ?_)|(refine gC ?_;first|refine cY ?_|refine .not ?_|(refine gD ?_;first|refine cI ?_|refine cJ ?_))|refine gI (gT (iA ?_))|refine af.nrm ?_)<;>conv=>whnf
   all_goals rfl
 rw[if_neg h11]
 by_cases h12:g.op=12
 .rw [if_pos h12]
  cases hgn:(arg g 0).gnd with
  |true=>
   rw[show decide ((arg g 0).vs=[])=(arg g 0).gnd from rfl,hgn] at ga;rw[if_pos rfl];refine Fun.of (kr (by simp) ?_) rfl rfl
   conv=>whnf
   repeat' (first|(refine gF ?_;first|refine ab.fn (hte) ?_|refine ab.fn (ga) ?_)|(refine gC ?_;first|refine cY ?_|refine .not ?_|(refine gD ?_;first|refine cI ?_|refine cJ ?_))|refine gI (gT (iA ?_))|refine af.nrm ?_)<;>conv=>whnf
   all_goals rfl
  |false=>
   rw[show decide ((arg g 0).vs=[])=(arg g 0).gnd from rfl,hgn] at ga;rw[if_neg YY];refine Fun.of (kr (by simp) ?_) rfl rfl
   conv=>whnf
   repeat' (first|(refine gF ?_;first|refine ab.fn (hte) ?_|refine ab.fn (ga) ?_)|(refine gC ?_;first|refine cY ?_|refine cN ?_|refine .not ?_|(refine gD ?_;first|refine cI ?_|refine cJ ?_))|refine gI (gT (iA ?_))|refine af.nrm ?_)<;>conv=>whnf
   all_goals rfl
 rw[if_neg h12];rw[if_neg (by omega)] at hlen
 have hg1:1<g.args.length:=by omega
 have a1:=MK hg1;have hsa:=zN (arg g 0) (arg g 1);have hun:=hu0;have hco:=NN g.op (arg g 0) (arg g 1) (by omega) (by omega)
 by_cases h56:g.op=5\/g.op=6
 rotate_left
 .rw [if_neg h56];refine Fun.of (kr (by simp) ?_) rfl rfl
  conv=>whnf
  repeat' (first|(refine gF ?_;first|refine ab.fn (hte) ?_|refine ab.fn (hco) ?_)|(refine gC ?_;first|refine cY ?_|refine .not ?_|refine gD (cJ ?_))|refine gI (gT (iA ?_))|refine af.nrm ?_)<;>conv=>whnf
  all_goals rfl
 rw[if_pos h56]
 by_cases hc:(arg g 0).cmp (arg g 1)=0
 .rw [if_pos hc];rw[decide_eq_true hc] at hsa;rcases h56 with h5|h5
  .rw [decide_eq_true h5];refine Fun.of (kr (by simp) ?_) rfl rfl
   conv=>whnf
   repeat' (first|(refine gF ?_;first|refine ab.fn (hte) ?_|refine ab.fn (hsa) ?_|refine ab.fn (LY _) ?_)|(refine gC ?_;first|refine cY ?_|refine cN ?_|refine .not ?_|(refine gD ?_;first|refine cI ?_|refine cJ ?_))|refine gI (gT (iA ?_))|refine af.nrm ?_)<;>conv=>whnf
   all_goals (rw[h5];rfl)
  .rw [decide_eq_false (show¬g.op=5 by omega)]
   refine Fun.of (kr (by simp) ?_) rfl rfl
   conv=>whnf
   repeat' (first|(refine gF ?_;first|refine ab.fn (hte) ?_|refine ab.fn (hsa) ?_|refine ab.fn (LY _) ?_)|(refine gC ?_;first|refine cY ?_|refine .not ?_|(refine gD ?_;first|refine cI ?_|refine cJ ?_))|refine gI (gT (iA ?_))|refine af.nrm ?_)<;>conv=>whnf
   all_goals (rw[h5];rfl)
 rw[if_neg hc];rw[decide_eq_false hc] at hsa
 cases hu:u with
 |true=>
  rw[hu] at hun;rw[if_pos rfl];refine Fun.of (kr (by simp) ?_) rfl rfl
  conv=>whnf
  repeat' (first|(refine gF ?_;first|refine ab.fn (hte) ?_|refine ab.fn (hsa) ?_|refine ab.fn (hun) ?_)|(refine gC ?_;first|refine cY ?_|refine cN ?_|refine .not ?_|(refine gD ?_;first|refine cI ?_|refine cJ ?_)|refine aq.dec (λhc=>?_) (λhc=>?_))|refine gI (gT (iA ?_))|refine af.nrm ?_)<;>conv=>whnf
  all_goals rfl
 |false=>
  rw[hu] at hun;rw[if_neg YY];rcases h56 with h5|h5
  .rw [decide_eq_false (show¬g.op=6 by omega)]
   refine Fun.of (kr (by simp) ?_) rfl rfl
   conv=>whnf
   repeat' (first|(refine gF ?_;first|refine ab.fn (hte) ?_|refine ab.fn (hsa) ?_|refine ab.fn (hun) ?_|refine ab.fn (LY _) ?_)|(refine gC ?_;first|refine cY ?_|refine cN ?_|refine .not ?_|(refine gD ?_;first|refine cI ?_|refine cJ ?_))|refine gI (gT (iA ?_))|refine af.nrm ?_)<;>conv=>whnf
   all_goals (rw[h5];rfl)
  .rw [decide_eq_true h5];refine Fun.of (kr (by simp) ?_) rfl rfl
   conv=>whnf
   repeat' (first|(refine gF ?_;first|refine ab.fn (hte) ?_|refine ab.fn (hsa) ?_|refine ab.fn (hun) ?_|refine ab.fn (LY _) ?_)|(refine gC ?_;first|refine cY ?_|refine cN ?_|refine .not ?_|(refine gD ?_;first|refine cI ?_|refine cJ ?_))|refine gI (gT (iA ?_))|refine af.nrm ?_)<;>conv=>whnf
   all_goals (rw[h5];rfl)
theorem Qk{x y:Int}:orI x y=0↔x=0/\y=0:=by
 unfold orI;split<;>omega
theorem Qf:∀(l m:List Tm),(∀x∈l,∀y:Tm,x.cmp y=0->y.cmp x=0)->Tm.nD l m=0->Tm.nD m l=0
 |[],[],_,_=>rfl
 |[],y::m,_,h=>by
  rw[Tm.nD,KB] at h
  simp only[ZX] at h;omega
 |x::l,[],_,h=>by rw[Tm.nD] at h;cases h
 |x::l,y::m,hx,h=>by
  rw[Tm.nD,Qk] at h|-;exact⟨hx x (by simp) y h.1,Qf l m (λz hz=>hx z (by simp[hz])) h.2⟩
theorem Qh(a:Tm):∀b:Tm,a.cmp b=0->b.cmp a=0:=by
 induction a using Tm.bD with
 |h k n s l ih=>
 intro b h;rw[Tm.cmp_eq] at h|-;rw[Qk,KB] at h;obtain⟨h1,h2⟩:=h;rw[Qk,KB];refine⟨h1.symm,?_⟩;rw[<-h1];split at h2
 .rename_i hc;rw[if_pos hc];rw[KB] at h2|-;exact h2.symm
 .rename_i hc;rw[if_neg hc];split at h2
  .rename_i hd;rw[if_pos hd];simp only[Qk,KB,PY] at h2|-;exact⟨h2.1.symm,h2.2.1.symm,Qf l b.args ih h2.2.2⟩
  .rename_i hd;rw[if_neg hd];simp only[Qk,KB,PY] at h2|-;exact⟨h2.1.symm,h2.2.1.symm,h2.2.2.symm⟩
theorem QU(l m:List Tm):Tm.nD l m=0↔Tm.nD m l=0:=⟨Qf l m λx _=>Qh x,Qf m l λx _=>Qh x⟩
theorem QP(a b:Gl):a.same b=b.same a:=by
 unfold Gl.same;rw[Bool.eq_iff_iff];simp only[ZD,decide_eq_true_eq];rw[QU];constructor<;>rintro⟨h1,h2,h3,h4⟩<;>exact⟨h1.symm,h2.symm,h3.symm,h4⟩
def inK(b:List Bnd)(known:List Gl)(h:Gl):Bool:=h.test&&known.any λk=>(Nh b k).same h
def inG(b:List Bnd)(known:List Gl)(g:Gl)(r:Int):Int:=if inK b known (Nh b g)=true then 1 else r
theorem OS{b:List Bnd}{known:List Gl}{g:Gl}{r:Int}(hb:b.length<=4000000000)(hl:g.args.length<=4000000000)(hgN:Tm.ai g.args<=1000000)(hkN:∀x∈known,Tm.ai x.args<=1000000)(hT:Fun Tryz.prog 24 [(Nh b g).av] (.int .i64 r)):Fun Tryz.prog 32 [.sl .no (b.map Bnd.av),.sl .no (known.map Gl.av),g.av] (.int .i64 (inG b known g r)):=by
 refine Fun.of (Sem.assume λhg0 _=>?_) rfl rfl;have hg:=(bH (hg0 (.sl .no (known.map Gl.av)) (by simp) rfl)).1
 have ha:=M6 b g hgN hb;have ht:=Ni (Nh b g) (by show (g.args.map _).length<=_;rw[ZF];omega)
 unfold inG inK;generalize hh:Nh b g=h at ha ht hT
 cases htt:h.test with
 |false=>
  rw[htt] at ht;rw[Zu,if_neg YY];refine NH (by simp) ?_
  conv=>whnf
  repeat' (first|(refine gF ?_;first|refine ab.fn (ha) ?_|refine ab.fn (ht) ?_|refine ab.fn (hT) ?_)|refine gC (cN ?_)|refine af.nrm ?_)<;>conv=>whnf
  all_goals rfl
 |true=>
 rw[htt] at ht;rw[Za];refine NH (by simp) ?_
 conv=>whnf
 repeat' (first|(refine gF ?_;first|refine ab.fn (ha) ?_|refine ab.fn (ht) ?_)|refine gC (cY ?_)|refine gL (.map ?_))<;>conv=>whnf
 refine aw.by (fb:=true) (λ_ (j:Nat)=>⟨[(0,.sl .no (b.map Bnd.av)),(5,.ptr 0 0),(14,.sl .no (known.map Gl.av)),(15,.int .i64 (known.length:Int)),(16,.int .i64 (j:Int))],[.cells [.int .i64 h.op,.str h.name,.sl .no (h.args.map Tm.av)]],0⟩) (λj=>j<=known.length/\((known.drop j).any λk=>(Nh b k).same h)=known.any λk=>(Nh b k).same h) (λj=>known.length-j) 0 ⟨ZJ _,rfl⟩ ?_ ?_
 .exact au
 .rintro j ⟨q1,q2⟩
  by_cases hj:j<known.length
  .obtain ⟨x,hx⟩:∃x,known[j]? =some x:=⟨_,ZA hj⟩;rw[ZH hj,(ZB.1 hx).2,List.any_cons] at q2;have hs:=MM (Nh b x) h;have hax:=M6 b x (hkN x (ZE hx)) hb
   cases hc:(Nh b x).same h with
   |true=>
    rw[hc] at hs;rw[hc,Bool.true_or] at q2;rw[<-q2,if_pos rfl]
    conv=>whnf
    repeat' (first|(refine gG ?_;first|refine aM.fn (hax) ?_|refine aM.fn (hs) ?_)|(refine gC ?_;first|refine cY ?_|refine gD (cI ?_))|refine gI (gM (iE ?_))|refine af.nrm ?_)<;>conv=>whnf
    all_goals rfl
   |false=>
    rw[hc] at hs;rw[hc,Bool.false_or] at q2
    conv=>whnf
    repeat' (first|(refine gG ?_;first|refine aM.fn (hax) ?_|refine aM.fn (hs) ?_)|(refine gC ?_;first|refine cN ?_|refine gD (cI ?_))|refine gW (wI ?_)|refine gI (gM (iE ?_)))<;>conv=>whnf
    refine⟨j+1,⟨⟨hj,q2⟩,by omega⟩,?_⟩
    refine ah.lay [some 0] oko ?_
    conv=>whnf
    exact au
  .obtain rfl:j=known.length:=by omega
   rw[Zj,List.any_nil] at q2;rw[<-q2,if_neg YY]
   conv=>whnf
   repeat' (first|refine gF (ab.fn (hT) ?_)|refine gC (gD (cJ ?_))|refine af.nrm ?_)<;>conv=>whnf
   all_goals rfl
theorem QX{b:List Bnd}{known:List Gl}{g:Gl}{r:Int}(hb:b.length<=4000000000)(hl:g.args.length<=4000000000)(hgN:Tm.ai g.args<=1000000)(hkN:∀x∈known,Tm.ai x.args<=1000000)(hN:Tm.ai (Nh b g).args<=10000)(hT:Fun Tryz.prog 25 [(Nh b g).av] (.int .i64 r)):Fun Tryz.prog 35 [.sl .no (b.map Bnd.av),.sl .no (known.map Gl.av),g.av] (.int .i64 (inG b known g r)):=by
 refine Fun.of (Sem.assume λhg0 _=>?_) rfl rfl;have hg:=(bH (hg0 (.sl .no (known.map Gl.av)) (by simp) rfl)).1
 have ha:=Pn b g hgN;have ht:=Ov (Nh b g) (by omega) (by show (g.args.map _).length<=_;rw[ZF];omega)
 unfold inG inK;generalize hh:Nh b g=h at ha ht hT;refine QA (by simp) ?_
 conv=>whnf
 repeat' refine gF (ab.fn (ha) ?_)<;>conv=>whnf
 refine aw.by (fb:=true) (λ_ (j:Nat)=>⟨[(0,.sl .no (b.map Bnd.av)),(1,.sl .no (known.map Gl.av)),(7,.ptr 0 0),(8,.int .i64 (j:Int))],[.cells [.int .i64 h.op,.str h.name,.sl .no (h.args.map Tm.av)]],0⟩) (λj=>j<=known.length/\(h.test=true->((known.drop j).any λk=>(Nh b k).same h)=known.any λk=>(Nh b k).same h)) (λj=>known.length-j) 0 ⟨ZJ _,λ_=>rfl⟩ ?_ ?_
 .refine ah.lay [some 1] oko ?_
  conv=>whnf
  exact au
 .rintro j ⟨q1,q2⟩
  by_cases hj:j<known.length
  .obtain ⟨x,hx⟩:∃x,known[j]? =some x:=⟨_,ZA hj⟩;rw[ZH hj,(ZB.1 hx).2,List.any_cons] at q2;have hs:=P0 (a:=h) (b:=Nh b x);rw[QP] at hs;have hax:=Pn b x (hkN x (ZE hx))
   cases htt:h.test with
   |false=>
    rw[htt] at ht
    conv=>whnf
    repeat' (first|refine gG (aM.fn (ht) ?_)|(refine gC ?_;first|refine cN ?_|refine gD (cI ?_))|refine gW (wI ?_)|refine gL (.map ?_))<;>conv=>whnf
    refine⟨j+1,⟨⟨hj,λe=>by cases e⟩,by omega⟩,?_⟩
    exact au
   |true=>
   rw[htt] at ht;have q2:=q2 htt
   cases hc:(Nh b x).same h with
   |true=>
    rw[hc] at hs;rw[hc,Bool.true_or] at q2;rw[<-q2,Bool.and_true,if_pos rfl]
    conv=>whnf
    repeat' (first|(refine gG ?_;first|refine aM.fn (ht) ?_|refine aM.fn (hax) ?_|refine aM.fn (hs) ?_)|(refine gC ?_;first|refine cY ?_|refine gD (cI ?_))|refine gL (.map ?_)|refine gI (gM (iE ?_))|refine af.nrm ?_)<;>conv=>whnf
    all_goals rfl
   |false=>
    rw[hc] at hs;rw[hc,Bool.false_or] at q2
    conv=>whnf
    repeat' (first|(refine gG ?_;first|refine aM.fn (ht) ?_|refine aM.fn (hax) ?_|refine aM.fn (hs) ?_)|(refine gC ?_;first|refine cY ?_|refine cN ?_|refine gD (cI ?_))|refine gW (wI ?_)|refine gL (.map ?_)|refine gI (gM (iE ?_)))<;>conv=>whnf
    refine⟨j+1,⟨⟨hj,λ_=>q2⟩,by omega⟩,?_⟩
    exact au
  .obtain rfl:j=known.length:=by omega
   rw[Zj,List.any_nil] at q2
   have hz:¬(h.test&&known.any λk=>(Nh b k).same h)=true:=λe=>by
    rw[ZD] at e;have:=q2 e.1;rw[e.2] at this;cases this
   rw[if_neg hz]
   conv=>whnf
   repeat' (first|refine gF (ab.fn (hT) ?_)|refine gC (gD (cJ ?_))|refine gL (.map ?_)|refine af.nrm ?_)<;>conv=>whnf
   all_goals rfl
def QH(l:List Int):Int:=if 2∈l then 2 else if 0∈l then 0 else 1
theorem QV(l:List Int)(n:Int)(hn:n=0\/n=1\/n=2):QH (l++[n])=if n=2\/n=0/\QH l=1 then n else QH l:=by
 unfold QH;simp only[ZY,Zp]
 by_cases h2:(2:Int)∈l
 .rcases hn with rfl|rfl|rfl<;>simp[h2]
 .by_cases h0:(0:Int)∈l
  .rcases hn with rfl|rfl|rfl<;>simp[h2,h0]
  .rcases hn with rfl|rfl|rfl<;>simp[h2,h0]
theorem QG(l:List Int)(n v:Int):(((l++[n]).count v:Nat):Int)=(l.count v:Int)+if n=v then 1 else 0:=by
 rw[List.count_append,List.count_singleton]
 by_cases h:n=v
 .subst h;simp
 .simp [h]
theorem QZ(l:List Int):QH l=if 0<(l.count 2:Int) then 2 else if 0<(l.count 0:Int) then 0 else 1:=by
 unfold QH;have h2:0<(l.count 2:Int)↔(2:Int)∈l:=by rw[<-List.count_pos_iff (a:=(2:Int))];omega
 have h0:0<(l.count 0:Int)↔(0:Int)∈l:=by rw[<-List.count_pos_iff (a:=(0:Int))];omega
 by_cases a:(2:Int)∈l
 .rw [if_pos a,if_pos (h2.2 a)]
 .rw [if_neg a,if_neg (λe=>a (h2.1 e))]
  by_cases c:(0:Int)∈l
  .rw [if_pos c,if_pos (h0.2 c)]
  .rw [if_neg c,if_neg (λe=>c (h0.1 e))]
theorem QB{α:Type}{l:List α}{j:Nat}{x:α}(hx:l[j]? =some x)(f:α->Int):(l.take (j+1)).map f=(l.take j).map f++[f x]:=by
 rw[Zz,hx,Zt];rfl
theorem QN(l:List Int)(v:Int)(n:Nat)(h:l.length<=n):(l.count v:Int)<=n:=by
 have:=List.count_le_length (a:=v) (l:=l);omega
theorem Q3{b:List Bnd}{known l:List Gl}{rs:Gl->Int}(hIn:∀g∈l,Fun Tryz.prog 32 [.sl .no (b.map Bnd.av),.sl .no (known.map Gl.av),g.av] (.int .i64 (rs g)))(hr:∀g∈l,rs g=0\/rs g=1\/rs g=2):Fun Tryz.prog 36 [.sl .no (b.map Bnd.av),.sl .no (known.map Gl.av),.sl .no (l.map Gl.av)] (.int .i64 (QH (l.map rs))):=by
 refine Fun.of (Sem.assume λhg0 _=>?_) rfl rfl;have hg:=(bH (hg0 (.sl .no (l.map Gl.av)) (by simp) rfl)).1
 refine QM (by simp) ?_
 conv=>whnf
 repeat' refine gL (.map ?_)<;>conv=>whnf
 refine aw.by (fb:=true) (λ_ (j:Nat)=>⟨[(0,.sl .no (b.map Bnd.av)),(1,.sl .no (known.map Gl.av)),(7,.ptr 0 0),(10,.sl .no (l.map Gl.av)),(11,.int .i64 (l.length:Int)),(12,.int .i64 (j:Int))],[.cells [.int .i64 (((l.take j).map rs).count 0:Nat),.int .i64 (((l.take j).map rs).count 1:Nat),.int .i64 (((l.take j).map rs).count 2:Nat)]],0⟩) (λj=>j<=l.length) (λj=>l.length-j) 0 (ZJ _) ?_ ?_
 .refine ah.at_ ?_ rfl
  conv=>whnf
  refine And.intro ?_ ?_<;>conv=>whnf
  all_goals repeat' (first|(refine gV ?_;first|refine vE ?_|refine vI ?_)|(refine gX ?_;(refine BxN.mk ?_ ?_;(focus (simp[AV.norm,AV.aD,];done))))|exact True.intro)<;>conv=>whnf
 .rintro j q1
  by_cases hj:j<l.length
  .obtain ⟨x,hx⟩:∃x,l[j]? =some x:=⟨_,ZA hj⟩;have h1:=hIn x (ZE hx);have hlen:((l.take j).map rs).length<=j:=by simp;omega
   have c0:=QN _ 0 j hlen;have c1:=QN _ 1 j hlen;have c2:=QN _ 2 j hlen;rcases hr x (ZE hx) with hrx|hrx|hrx
   .rw [hrx] at h1
    conv=>whnf
    repeat' (first|refine gF (ab.fn (h1) ?_)|refine gC (gD (cI ?_))|refine gW (wI ?_)|refine gN (nS ?_)|refine gI (gM (iE ?_)))<;>conv=>whnf
    refine⟨j+1,⟨hj,by omega⟩,?_⟩
    refine ah.lay [some 0] oko ?_
    conv=>whnf
    refine ah.at_ ?_ rfl
    conv=>whnf
    refine And.intro ?_ ?_<;>conv=>whnf
    all_goals repeat' (first|(refine gV ?_;first|refine vE ?_|refine vI ?_)|(refine gX ?_;(refine BxN.mk ?_ ?_;(focus (simp[AV.norm,AV.aD,QB hx,QG,hrx];done))))|exact True.intro)<;>conv=>whnf
   .rw [hrx] at h1
    conv=>whnf
    repeat' (first|refine gF (ab.fn (h1) ?_)|refine gC (gD (cI ?_))|refine gW (wI ?_)|refine gN (nS ?_)|refine gI (gM (iE ?_)))<;>conv=>whnf
    refine⟨j+1,⟨hj,by omega⟩,?_⟩
    refine ah.lay [some 0] oko ?_
    conv=>whnf
    refine ah.at_ ?_ rfl
    conv=>whnf
    refine And.intro ?_ ?_<;>conv=>whnf
    all_goals repeat' (first|(refine gV ?_;first|refine vE ?_|refine vI ?_)|(refine gX ?_;(refine BxN.mk ?_ ?_;(focus (simp[AV.norm,AV.aD,QB hx,QG,hrx];done))))|exact True.intro)<;>conv=>whnf
   .rw [hrx] at h1
    conv=>whnf
    repeat' (first|refine gF (ab.fn (h1) ?_)|refine gC (gD (cI ?_))|refine gW (wI ?_)|refine gN (nS ?_)|refine gI (gM (iE ?_)))<;>conv=>whnf
    refine⟨j+1,⟨hj,by omega⟩,?_⟩
    refine ah.lay [some 0] oko ?_
    conv=>whnf
    refine ah.at_ ?_ rfl
    conv=>whnf
    refine And.intro ?_ ?_<;>conv=>whnf
    all_goals repeat' (first|(refine gV ?_;first|refine vE ?_|refine vI ?_)|(refine gX ?_;(refine BxN.mk ?_ ?_;(focus (simp[AV.norm,AV.aD,QB hx,QG,hrx];done))))|exact True.intro)<;>conv=>whnf
  .obtain rfl:j=l.length:=by omega
   rw[Zw,QZ]
   by_cases h2:0<((l.map rs).count 2:Int)
   .rw [if_pos h2]
    conv=>whnf
    repeat' (first|(refine gC ?_;(refine gD ?_;first|refine cI ?_|refine cJ ?_))|refine gN (nS ?_)|refine af.nrm ?_)<;>conv=>whnf
    all_goals rfl
   .rw [if_neg h2]
    by_cases h0:0<((l.map rs).count 0:Int)
    .rw [if_pos h0]
     conv=>whnf
     repeat' (first|(refine gC ?_;(refine gD ?_;first|refine cI ?_|refine cJ ?_))|refine gN (nS ?_)|refine af.nrm ?_)<;>conv=>whnf
     all_goals rfl
    .rw [if_neg h0]
     conv=>whnf
     repeat' (first|refine gC (gD (cJ ?_))|refine gN (nS ?_)|refine af.nrm ?_)<;>conv=>whnf
     all_goals rfl
theorem QS{b:List Bnd}{known l:List Gl}{rs:Gl->Int}(hIn:∀g∈l,Fun Tryz.prog 35 [.sl .no (b.map Bnd.av),.sl .no (known.map Gl.av),g.av] (.int .i64 (rs g)))(hr:∀g∈l,rs g=0\/rs g=1\/rs g=2):Fun Tryz.prog 37 [.sl .no (b.map Bnd.av),.sl .no (known.map Gl.av),.sl .no (l.map Gl.av)] (.int .i64 (QH (l.map rs))):=by
 refine Fun.of (Sem.assume λhg0 _=>?_) rfl rfl;have hg:=(bH (hg0 (.sl .no (l.map Gl.av)) (by simp) rfl)).1
 refine Qy (by simp) ?_
 conv=>whnf
 skip;refine aw.by (fb:=true) (λ_ (j:Nat)=>⟨[(0,.sl .no (b.map Bnd.av)),(1,.sl .no (known.map Gl.av)),(2,.sl .no (l.map Gl.av)),(7,.int .i64 (QH ((l.take j).map rs))),(8,.int .i64 (j:Int))],[],0⟩) (λj=>j<=l.length) (λj=>l.length-j) 0 (ZJ _) ?_ ?_
 .refine ah.at_ ?_ rfl
  conv=>whnf
  refine And.intro ?_ ?_<;>conv=>whnf
  all_goals repeat' (first|(refine gV ?_;first|refine vE ?_|refine vI ?_|(refine WkN.norm ?_ ?_;(focus (simp[AV.norm,AV.aD,QH];done))))|exact True.intro)<;>conv=>whnf
 .rintro j q1
  by_cases hj:j<l.length
  .obtain ⟨x,hx⟩:∃x,l[j]? =some x:=⟨_,ZA hj⟩;have h1:=hIn x (ZE hx);have hrx:=hr x (ZE hx);have hsn:=QV ((l.take j).map rs) (rs x) hrx;rw[<-QB hx] at hsn
   by_cases hc:rs x=2\/rs x=0/\QH ((l.take j).map rs)=1
   .rw [if_pos hc] at hsn
    conv=>whnf
    repeat' (first|refine gF (ab.fn (h1) ?_)|(refine gC ?_;first|refine cY ?_|(refine gD ?_;first|refine cI ?_|refine cJ ?_)|refine aq.dec (λhc=>?_) (λhc=>?_))|refine gW (wI ?_)|refine gL (.map ?_)|refine gI (gM (iE ?_)))<;>conv=>whnf
    all_goals
     refine⟨j+1,⟨hj,by omega⟩,?_⟩
     refine ah.at_ ?_ rfl
     conv=>whnf
     refine And.intro ?_ ?_<;>conv=>whnf
     all_goals repeat' (first|(refine gV ?_;first|refine vE ?_|refine vI ?_)|exact True.intro)<;>conv=>whnf
   .rw [if_neg hc] at hsn
    conv=>whnf
    repeat' (first|refine gF (ab.fn (h1) ?_)|(refine gC ?_;first|refine cN ?_|(refine gD ?_;first|refine cI ?_|refine cJ ?_)|refine aq.dec (λhc=>?_) (λhc=>?_))|refine gW (wI ?_)|refine gL (.map ?_)|refine gI (gM (iE ?_)))<;>conv=>whnf
    all_goals
     refine⟨j+1,⟨hj,by omega⟩,?_⟩
     refine ah.at_ ?_ rfl
     conv=>whnf
     refine And.intro ?_ ?_<;>conv=>whnf
     all_goals repeat' (first|(refine gV ?_;first|refine vE ?_|refine vI ?_)|exact True.intro)<;>conv=>whnf
  .obtain rfl:j=l.length:=by omega
   rw[Zw]
   conv=>whnf
   repeat' (first|refine gC (gD (cJ ?_))|refine gL (.map ?_)|refine af.nrm ?_)<;>conv=>whnf
   all_goals rfl
end Go.CK
