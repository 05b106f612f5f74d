/-
  Texts of this aX joined (wip/gen/bundle.py),those declarations only that are needed:AskD AskE AskF AskG AskH. By an AI agent.
-/
import Derived.Test.YtpihbplamelcnaaGreatBbg
set_option linter.unusedSimpArgs false
set_option linter.unusedVariables false
set_option maxRecDepth 100000
namespace Go.CK
open Go.AM Go.Proofs
def Tm.gnd(t:Tm):Bool:=decide (t.vs=[])
def cU(a b:Tm):Int×Int×Int:=
 if a.i7=true/\b.i7=true then
  if a.gnd=true/\b.gnd=true then ((aU a).1,(aU b).1,uS (decide ((aU a).2=0/\(aU b).2=0)))
  else (0,0,0)
 else (0,0,2)
def GY(a b:Tm):AV:=.tup [.int .i64 (cU a b).1,.int .i64 (cU a b).2.1,.int .i64 (cU a b).2.2]
theorem JI(a b:Tm):Fun Tryz.prog 91 [a.avw,b.avw] (GY a b):=by
 have na:=Cf a;have nb:=Cf b;have ga:=u6 a;have gb:=u6 b;rw[show decide (a.vs=[])=a.gnd from rfl] at ga;rw[show decide (b.vs=[])=b.gnd from rfl] at gb;obtain⟨x,e,hx⟩:∃x e,aU a=(x,e):=⟨_,_,rfl⟩;obtain⟨y,f,hy⟩:∃y f,aU b=(y,f):=⟨_,_,rfl⟩;have ea:=JE a;rw[kT hx] at ea;have eb:=JE b;rw[kT hy] at eb;unfold GY cU;rw[hx,hy];cases h1:a.i7<;>rw[h1] at na
 .simp only[Zb,false_and,if_false];refine Fun.of (dD (by simp) ?_) rfl rfl
  conv=>whnf
  repeat' (first|refine gF (aa.fn (na) ?_)|(refine gC ?_;first|refine cY ?_|refine cN ?_|refine .not ?_)|refine ae.nrm ?_)<;>conv=>whnf
 cases h2:b.i7<;>rw[h2] at nb
 .simp only[Zb,and_false,if_false];refine Fun.of (dD (by simp) ?_) rfl rfl
  conv=>whnf
  repeat' (first|(refine gF ?_;first|refine aa.fn (na) ?_|refine aa.fn (nb) ?_)|(refine gC ?_;first|refine cY ?_|refine cN ?_|refine .not ?_)|refine ae.nrm ?_)<;>conv=>whnf
 cases h3:a.gnd<;>rw[h3] at ga
 .simp only[Zb,and_false,false_and,if_false,and_self,if_true];refine Fun.of (dD (by simp) ?_) rfl rfl
  conv=>whnf
  repeat' (first|(refine gF ?_;first|refine aa.fn (na) ?_|refine aa.fn (nb) ?_|refine aa.fn (ga) ?_)|(refine gC ?_;first|refine cY ?_|refine cN ?_|refine .not ?_)|refine ae.nrm ?_)<;>conv=>whnf
 cases h4:b.gnd<;>rw[h4] at gb
 .simp only[Zb,and_false,false_and,if_false,and_self,if_true];refine Fun.of (dD (by simp) ?_) rfl rfl
  conv=>whnf
  repeat' (first|(refine gF ?_;first|refine aa.fn (na) ?_|refine aa.fn (nb) ?_|refine aa.fn (ga) ?_|refine aa.fn (gb) ?_)|(refine gC ?_;first|refine cY ?_|refine cN ?_|refine .not ?_)|refine ae.nrm ?_)<;>conv=>whnf
 simp only[and_self,if_true]
 by_cases he:e=0
 .rw [show decide (e=0/\f=0)=decide (f=0) by rw[decide_eq_decide];exact⟨λq=>q.2,λq=>⟨he,q⟩⟩]
  refine Fun.of (dD (by simp) ?_) rfl rfl
  conv=>whnf
  repeat' (first|(refine gF ?_;first|refine aa.fn (na) ?_|refine aa.fn (nb) ?_|refine aa.fn (ga) ?_|refine aa.fn (gb) ?_|refine aa.fn (ea) ?_|refine aa.fn (eb) ?_|refine aa.fn (bU _) ?_)|(refine gC ?_;first|refine cY ?_|refine .not ?_|refine gD (cI ?_))|refine ae.nrm ?_)<;>conv=>whnf
 .rw [decide_eq_false (λq=>he q.1)];refine Fun.of (dD (by simp) ?_) rfl rfl
  conv=>whnf
  repeat' (first|(refine gF ?_;first|refine aa.fn (na) ?_|refine aa.fn (nb) ?_|refine aa.fn (ga) ?_|refine aa.fn (gb) ?_|refine aa.fn (ea) ?_|refine aa.fn (eb) ?_|refine aa.fn (bU false) ?_)|(refine gC ?_;first|refine cY ?_|refine .not ?_|refine gD (cJ ?_))|refine ae.nrm ?_)<;>conv=>whnf
def Eb(op x y:Int):Bool:=if op=7 then decide (x<y) else if op=8 then decide (x<=y) else if op=9 then decide (x=y) else !decide (x=y)
def mR(op:Int)(a b:Tm):Int:=if (cU a b).2.2=1 then uS (Eb op (cU a b).1 (cU a b).2.1) else (cU a b).2.2
theorem Gb(opn:Int)(a b:Tm):Fun Tryz.prog 60 [.int .i64 opn,a.avw,b.avw] (.int .i64 (mR opn a b)):=by
 have hv:=JI a b;unfold GY at hv;unfold mR;generalize cU a b=q at hv;obtain⟨x,y,r⟩:=q;dsimp only at hv|-
 by_cases hr:r=1
 rotate_left
 .rw [if_neg hr];refine Fun.of (du (by simp) ?_) rfl rfl
  conv=>whnf
  repeat' (first|refine gF (aa.fn (hv) ?_)|(refine gC ?_;first|refine .not ?_|refine gD (cJ ?_))|refine ae.nrm ?_)<;>conv=>whnf
 rw[if_pos hr];unfold Eb
 by_cases h7:opn=7
 .rw [if_pos h7];refine Fun.of (du (by simp) ?_) rfl rfl
  conv=>whnf
  repeat' (first|(refine gF ?_;first|refine aa.fn (hv) ?_|refine aa.fn (bU _) ?_)|(refine gC ?_;first|refine .not ?_|refine gD (cI ?_))|refine ae.nrm ?_)<;>conv=>whnf
  all_goals rfl
 rw[if_neg h7]
 by_cases h8:opn=8
 .rw [if_pos h8];refine Fun.of (du (by simp) ?_) rfl rfl
  conv=>whnf
  repeat' (first|(refine gF ?_;first|refine aa.fn (hv) ?_|refine aa.fn (bU _) ?_)|(refine gC ?_;first|refine .not ?_|(refine gD ?_;first|refine cI ?_|refine cJ ?_))|refine ae.nrm ?_)<;>conv=>whnf
  all_goals rfl
 rw[if_neg h8]
 by_cases h9:opn=9
 .rw [if_pos h9];refine Fun.of (du (by simp) ?_) rfl rfl
  conv=>whnf
  repeat' (first|(refine gF ?_;first|refine aa.fn (hv) ?_|refine aa.fn (bU _) ?_)|(refine gC ?_;first|refine .not ?_|(refine gD ?_;first|refine cI ?_|refine cJ ?_))|refine ae.nrm ?_)<;>conv=>whnf
  all_goals rfl
 rw[if_neg h9];refine Fun.of (du (by simp) ?_) rfl rfl
 conv=>whnf
 repeat' (first|(refine gF ?_;first|refine aa.fn (hv) ?_|refine aa.fn (bU _) ?_)|(refine gC ?_;first|refine .not ?_|(refine gD ?_;first|refine cI ?_|refine cJ ?_))|refine ae.nrm ?_)<;>conv=>whnf
 all_goals rfl
theorem iK(a b:Gl):Fun Tryz.prog 32 [a.av,b.av] (.bool (a.same b)):=by
 unfold Gl.same
 by_cases h1:a.op=b.op
 rotate_left
 .rw [decide_eq_false h1,zw];refine Fun.of (eg (by simp) ?_) rfl rfl
  conv=>whnf
  repeat' (first|(refine gC ?_;first|refine cN ?_|refine gD (cJ ?_))|refine ae.nrm ?_)<;>conv=>whnf
  all_goals rfl
 rw[decide_eq_true h1,za]
 by_cases h2:a.name=b.name
 rotate_left
 .rw [decide_eq_false h2,zw];refine Fun.of (eg (by simp) ?_) rfl rfl
  conv=>whnf
  repeat' (first|(refine gC ?_;first|refine cN ?_|(refine gD ?_;first|refine cI ?_|refine cJ ?_))|refine ae.nrm ?_)<;>conv=>whnf
  all_goals rfl
 rw[decide_eq_true h2,za]
 by_cases h3:a.args.length=b.args.length
 rotate_left
 .rw [decide_eq_false h3,zw];refine Fun.of (eg (by simp) ?_) rfl rfl
  conv=>whnf
  repeat' (first|(refine gC ?_;(refine gD ?_;first|refine cI ?_|refine cJ ?_))|refine gL (.map ?_)|refine ae.nrm ?_)<;>conv=>whnf
  all_goals rfl
 rw[decide_eq_true h3,za];have hl:=N4 h3;refine Fun.of (eg (by simp) ?_) rfl rfl
 conv=>whnf
 repeat' (first|refine gF (aa.fn (hl) ?_)|refine gC (gD (cI ?_))|refine gL (.map ?_)|refine ae.nrm ?_)<;>conv=>whnf
 all_goals rfl
def bh(b:List Bnd)(g:Gl):Gl:=⟨g.op,g.name,g.args.map (db b)⟩
theorem tF(b:List Bnd)(g:Gl)(hN:Tm.aj g.args<=1000000)(hb:b.length<=4000000000):Fun Tryz.prog 85 [.sl .no (b.map Bnd.av),g.av] (bh b g).av:=by
 have h:=A2 (b:=b) (l:=g.args) (by have:=gg g.args;omega) fun x hx=>MY b hb x (by have:=gh hx;omega);refine Fun.of (rJ (by simp) ?_) rfl rfl
 conv=>whnf
 repeat' (first|refine gF (aa.fn (h) ?_)|refine ae.nrm ?_)<;>conv=>whnf
 all_goals rfl
theorem om(b:List Bnd)(g:Gl)(hN:Tm.aj g.args<=1000000):Fun Tryz.prog 26 [.sl .no (b.map Bnd.av),g.av] (bh b g).av:=by
 have h:=qS (b:=b) (l:=g.args) (by have:=gg g.args;omega) fun x hx=>KU b x (by have:=gh hx;omega);refine Fun.of (iX (by simp) ?_) rfl rfl
 conv=>whnf
 repeat' (first|refine gG (al.fn (h) ?_)|refine ae.nrm ?_)<;>conv=>whnf
 all_goals rfl
def uni(a b:Tm):Bool:=match GK fN fF [a] [b] with
 |some (_,e)=>jR e
 |none=>false
theorem Nv{a b:Tm}(hN:a.nodes+b.nodes<=100000000):Fun Tryz.prog 59 [a.avw,b.avw] (.bool (uni a b)):=by
 obtain⟨out,e,h1,_⟩:=II (a:=[a]) (b:=[b]) (by simp only[Tm.aj];omega)
 have hu:uni a b=jR e:=by unfold uni;rw[h1]
 rw[hu];exact Eu h1 (by omega)
def a7:List (List Tm×ByteArray)->Int->Bool
 |[],most=>decide (most<0)
 |a::l,most=>if most<0 then true else a7 l (bH a.1 (most-1-(a.2.size:Int).tdiv 8) 64)
theorem dV(l:List (List Tm×ByteArray)){most:Int}(h:most<0):a7 l most=true:=by
 cases l with
 |nil=>simpa[a7] using h
 |cons a l=>rw[a7,if_pos h]
theorem vu{l:List (List Tm×ByteArray)}{j:Nat}{x:List Tm×ByteArray}(hx:l[j]? =some x){most:Int}(h:0<=most):a7 (l.drop j) most=a7 (l.drop (j+1)) (bH x.1 (most-1-(x.2.size:Int).tdiv 8) 64):=by
 obtain⟨h1,rfl⟩:=zB.1 hx;rw[zH h1,a7,if_neg (by omega)]
def gl2(a:Gl):List Tm×ByteArray:=(a.args,a.name)
theorem eM{l:List Gl}{most:Int}(b1:-1<=most)(b2:most<=100000):Fun Tryz.prog 9 [slA Gl.av l,.int .i64 most] (.bool (a7 (l.map gl2) most)):=by
 refine Fun.assume rfl λhg0=>?_;have hgs:=aJ (hg0 (slA Gl.av l) (by simp))
 have hg:=hgs.1;have hml:(l.map gl2).length=l.length:=by simp
 refine Fun.of (iz (by simp) ?_) rfl rfl
 conv=>whnf
 skip;refine ax.by (fb:=true) (λs (q:Nat×Int)=>s.dO [(1,.int .i64 q.2),(5,.int .i64 q.1)]) (λq=>q.1<=l.length/\(-1<=q.2/\q.2<=100000)/\a7 ((l.map gl2).drop q.1) q.2=a7 (l.map gl2) most) (λq=>l.length-q.1) (0,most) ⟨zJ _,by simp only;omega,rfl⟩ ?_ ?_
 .exact aH
 .rintro ⟨j,r⟩ ⟨hj,hr,he⟩;dsimp only at hj hr he|-
  by_cases hlt:j<l.length
  .obtain ⟨x,hx⟩:∃x,l[j]? =some x:=⟨_,zA hlt⟩;have hx2:(l.map gl2)[j]? =some (gl2 x):=by rw[ZF,hx];rfl
   have hxs:=(Gl.good (hgs.2 x (zE hx))).1
   by_cases hr0:0<=r
   .rw [vu hx2 hr0,show (gl2 x).1=x.args from rfl,show (gl2 x).2=x.name from rfl] at he;have hw:=wN (.mk 0 0 .empty x.args) (r-1-(x.name.size:Int).tdiv 8) 64;rw[show (Tm.mk 0 0 .empty x.args).args=x.args from rfl] at hw;have h8:=jS x.name.size
    conv=>whnf
    repeat' (first|(refine gG ?_;refine al.fn (wM (by omega) (by omega) (by omega) (by omega)) ?_)|refine gC (gD (cI ?_))|refine gW (wI ?_)|refine gL (.map ?_)|refine gN (nS ?_)|refine gI (gM (iE ?_)))<;>conv=>whnf
    refine⟨(j+1,bH x.args (r-1-(x.name.size:Int).tdiv 8) 64),⟨⟨hlt,?_,he⟩,by simp only;omega⟩,?_⟩
    .simp only;omega
    .exact aH
   .rw [dV _ (by omega)] at he
    conv=>whnf
    repeat' (first|(refine gC ?_;(refine gD ?_;first|refine cI ?_|refine cJ ?_))|refine gL (.map ?_)|refine ae.nrm ?_)<;>conv=>whnf
    rw[<-he];simp;omega
  .have hje:j=l.length:=by omega
   subst hje;rw[<-hml,zj,a7] at he
   conv=>whnf
   repeat' (first|(refine gC ?_;first|refine cN ?_|refine gD (cJ ?_))|refine gL (.map ?_)|refine ae.nrm ?_)<;>conv=>whnf
   rw[<-he]
theorem J7(t:Tm):∀left deep:Int,0<=t.wgh left deep->(t.nodes:Int)<=left-t.wgh left deep:=by
 induction t using Tm.bK with
 |h k m s l ih=>
  have hl:∀(r:List Tm),(∀t∈r,t∈l)->∀left deep:Int,0<=left->0<=Tm.jj r left deep->(Tm.aj r:Int)<=left-Tm.jj r left deep:=λr=>by
   induction r with
   |nil=>intro _ left deep h1 h2;simp only[Tm.jj,Tm.aj] at*;omega
   |cons t r ihr=>
    intro hm left deep h1 h2;rw[Tm.jj,if_neg (by omega)] at h2|-
    by_cases h3:0<=t.wgh left deep
    .have h4:=ih t (hm t (by simp)) left deep h3
     have h5:=ihr (λx hx=>hm x (by simp[hx])) (t.wgh left deep) deep h3 h2
     rw[Tm.aj];omega
    .rw [wL _ (by omega)] at h2;omega
  intro left deep h;rw[Tm.wgh] at h|-;have h8:=jS s.size;split at h
  .omega
  .rename_i hc;rw[if_neg hc];have h2:=hl l (λt h=>h) (left-1-(s.size:Int).tdiv 8) (deep-1) (by omega) h
   rw[Tm.nodes];omega
theorem dN{l:List Tm}{left deep:Int}(h:0<=bH l left deep):(l.length:Int)<=left/\(Tm.aj l:Int)<=left/\bH l left deep<=left:=by
 by_cases hc:deep=0\/left<l.length
 .rw [bH,if_pos hc] at h;omega
 .rw [bH,if_neg hc] at h|-
  have:∀(r:List Tm) (left:Int),0<=left->0<=Tm.jj r left deep->(Tm.aj r:Int)<=left-Tm.jj r left deep:=λr=>by
   induction r with
   |nil=>intro left h1 h2;simp only[Tm.jj,Tm.aj] at*;omega
   |cons t r ihr=>
    intro left h1 h2;rw[Tm.jj,if_neg (by omega)] at h2|-
    by_cases h3:0<=t.wgh left deep
    .have h4:=J7 t left deep h3;have h5:=ihr (t.wgh left deep) h3 h2;rw[Tm.aj];omega
    .rw [wL _ (by omega)] at h2;omega
  have:=this l left (by omega) h
  omega
theorem jM:∀{l:List (List Tm×ByteArray)} {most:Int},a7 l most=false->∀y∈l,(y.1.length:Int)<=most/\(Tm.aj y.1:Int)<=most
 |[],_,_,y,hy=>by cases hy
 |a::l,most,h,y,hy=>by
  rw[a7] at h;split at h
  .cases h
  .have h8:=jS a.2.size
   have h0:0<=bH a.1 (most-1-(a.2.size:Int).tdiv 8) 64:=by
    rcases Int.lt_or_le (bH a.1 (most-1-(a.2.size:Int).tdiv 8) 64) 0 with h1|h1
    .rw [dV _ h1] at h;cases h
    .exact h1
   have h2:=dN h0;rcases zI.1 hy with rfl|hy
   .omega
   .have:=jM h y hy;omega
theorem dU{l:List Gl}{most:Int}(h:a7 (l.map gl2) most=false):∀g∈l,(g.args.length:Int)<=most/\(Tm.aj g.args:Int)<=most:=λg hg=>jM h (gl2 g) (ZX hg)
end Go.CK
set_option maxRecDepth 100000
namespace Go.CK
open Go.AM Go.Proofs
def og(op:Int)(a b:Tm)(u:Bool):Int:=
 if op=11 then (if a.kind=1 then 0 else uS (decide (a.kind=0)))
 else if op=12 then (if a.gnd=true then 1 else 0)
 else if op=5\/op=6 then (if a.cmp b=0 then uS (decide (op=5)) else if u=true then 0 else uS (decide (op=6)))
 else mR op a b
def arg(g:Gl)(i:Nat):Tm:=g.args.getD i (.mk 0 0 ⟨⟨[]⟩⟩ [])
def BP(g:Gl)(u:Bool):Int:=if g.test=true then og g.op (arg g 0) (arg g 1) u else uS (decide (g.op=1)&&g.right)
def aQ(g:Gl):Int:=BP g (uni (arg g 0) (arg g 1))
theorem wV{g:Gl}(h:g.test=true):(5<=g.op/\g.op<=12)/\(g.args.length:Int)=arG g.op:=by
 unfold Gl.test at h;rw[zD,decide_eq_true_eq] at h;refine⟨h.1,?_⟩;have h2:=h.2;unfold Gl.right at h2;rw[if_neg (by omega)] at h2
 simp only[zD,decide_eq_true_eq] at h2;exact h2.2.2.1
theorem je{g:Gl}{i:Nat}(h:i<g.args.length):g.args[i]? =some (arg g i):=by
 unfold arg;rw[List.getD_eq_getElem?_getD,zA h];rfl
theorem dF(g:Gl)(i:Nat):(arg g i).nodes<=Tm.aj g.args+1:=by
 by_cases h:i<g.args.length
 .have:=gh (zE (je h));omega
 .unfold arg;rw[List.getD_eq_getElem?_getD,zR (by omega)]
  simp[Tm.nodes,Tm.aj]
theorem Li(g:Gl)(u:Bool)(hl:g.args.length<=4000000000)(hu0:Fun Tryz.prog 59 [(arg g 0).avw,(arg g 1).avw] (.bool u)):Fun Tryz.prog 29 [g.av] (.int .i64 (BP g u)):=by
 have hte:=wu g (by omega)
 have hrg:=tJ g (by omega)
 unfold BP
 cases ht:g.test with
 |false=>
  rw[ht] at hte;rw[if_neg Za]
  by_cases h1:g.op=1
  .rw [decide_eq_true h1,za];refine Fun.of (bP (by simp) ?_) rfl rfl
   conv=>whnf
   repeat' (first|(refine gF ?_;first|refine aa.fn (hte) ?_|refine aa.fn (hrg) ?_|refine aa.fn (bU _) ?_)|(refine gC ?_;first|refine cN ?_|refine .not ?_|refine gD (cI ?_))|refine ae.nrm ?_)<;>conv=>whnf
   all_goals rfl
  .rw [decide_eq_false h1,zw];refine Fun.of (bP (by simp) ?_) rfl rfl
   conv=>whnf
   repeat' (first|(refine gF ?_;first|refine aa.fn (hte) ?_|refine aa.fn (bU _) ?_)|(refine gC ?_;first|refine cN ?_|refine .not ?_|refine gD (cJ ?_))|refine ae.nrm ?_)<;>conv=>whnf
   all_goals rfl
 |true=>
 rw[ht] at hte;rw[if_pos rfl];obtain⟨hop,hlen⟩:=wV ht;unfold arG at hlen;rw[if_neg (by omega)] at hlen
 unfold og;have hg0:0<g.args.length:=by split at hlen<;>omega
 have a0:=je hg0;have ga:=u6 (arg g 0)
 by_cases h11:g.op=11
 .rw [if_pos h11]
  by_cases hk:(arg g 0).kind=1
  .rw [if_pos hk];refine Fun.of (bP (by simp) ?_) rfl rfl
   conv=>whnf
   repeat' (first|refine gF (aa.fn (hte) ?_)|(refine gC ?_;first|refine cY ?_|refine .not ?_|refine gD (cI ?_))|refine gI (gT (iA ?_))|refine ae.nrm ?_)<;>conv=>whnf
   all_goals rfl
  .rw [if_neg hk];refine Fun.of (bP (by simp) ?_) rfl rfl
   conv=>whnf
   repeat' (first|(refine gF ?_;first|refine aa.fn (hte) ?_|refine aa.fn (bU _) ?_)|(refine gC ?_;first|refine cY ?_|refine .not ?_|(refine gD ?_;first|refine cI ?_|refine cJ ?_))|refine gI (gT (iA ?_))|refine ae.nrm ?_)<;>conv=>whnf
   all_goals rfl
 rw[if_neg h11]
 by_cases h12:g.op=12
 .rw [if_pos h12]
  cases hgn:(arg g 0).gnd with
  |true=>
   rw[show decide ((arg g 0).vs=[])=(arg g 0).gnd from rfl,hgn] at ga;rw[if_pos rfl];refine Fun.of (bP (by simp) ?_) rfl rfl
   conv=>whnf
   repeat' (first|(refine gF ?_;first|refine aa.fn (hte) ?_|refine aa.fn (ga) ?_)|(refine gC ?_;first|refine cY ?_|refine .not ?_|(refine gD ?_;first|refine cI ?_|refine cJ ?_))|refine gI (gT (iA ?_))|refine ae.nrm ?_)<;>conv=>whnf
   all_goals rfl
  |false=>
   rw[show decide ((arg g 0).vs=[])=(arg g 0).gnd from rfl,hgn] at ga;rw[if_neg Za];refine Fun.of (bP (by simp) ?_) rfl rfl
   conv=>whnf
   repeat' (first|(refine gF ?_;first|refine aa.fn (hte) ?_|refine aa.fn (ga) ?_)|(refine gC ?_;first|refine cY ?_|refine cN ?_|refine .not ?_|(refine gD ?_;first|refine cI ?_|refine cJ ?_))|refine gI (gT (iA ?_))|refine ae.nrm ?_)<;>conv=>whnf
   all_goals rfl
 rw[if_neg h12];rw[if_neg (by omega)] at hlen
 have hg1:1<g.args.length:=by omega
 have a1:=je hg1;have hsa:=hU (arg g 0) (arg g 1);have hun:=hu0;have hco:=Gb g.op (arg g 0) (arg g 1)
 by_cases h56:g.op=5\/g.op=6
 rotate_left
 .rw [if_neg h56];refine Fun.of (bP (by simp) ?_) rfl rfl
  conv=>whnf
  repeat' (first|refine gF (aa.fn (hte) ?_)|refine gG (al.fn (hco) ?_)|(refine gC ?_;first|refine cY ?_|refine .not ?_|refine gD (cJ ?_))|refine gI (gT (iA ?_))|refine ae.nrm ?_)<;>conv=>whnf
  all_goals rfl
 rw[if_pos h56]
 by_cases hc:(arg g 0).cmp (arg g 1)=0
 .rw [if_pos hc];rw[decide_eq_true hc] at hsa;rcases h56 with h5|h5
  .rw [decide_eq_true h5];refine Fun.of (bP (by simp) ?_) rfl rfl
   conv=>whnf
   repeat' (first|(refine gF ?_;first|refine aa.fn (hte) ?_|refine aa.fn (bU _) ?_)|refine gG (al.fn (hsa) ?_)|(refine gC ?_;first|refine cY ?_|refine .not ?_|(refine gD ?_;first|refine cI ?_|refine cJ ?_))|refine gI (gT (iA ?_))|refine ae.nrm ?_)<;>conv=>whnf
   all_goals (rw[h5];rfl)
  .rw [decide_eq_false (show¬g.op=5 by omega)]
   refine Fun.of (bP (by simp) ?_) rfl rfl
   conv=>whnf
   repeat' (first|(refine gF ?_;first|refine aa.fn (hte) ?_|refine aa.fn (bU _) ?_)|refine gG (al.fn (hsa) ?_)|(refine gC ?_;first|refine cY ?_|refine .not ?_|(refine gD ?_;first|refine cI ?_|refine cJ ?_))|refine gI (gT (iA ?_))|refine ae.nrm ?_)<;>conv=>whnf
   all_goals (rw[h5];rfl)
 rw[if_neg hc];rw[decide_eq_false hc] at hsa
 cases hu:u with
 |true=>
  rw[hu] at hun;rw[if_pos rfl];refine Fun.of (bP (by simp) ?_) rfl rfl
  conv=>whnf
  repeat' (first|refine gF (aa.fn (hte) ?_)|(refine gG ?_;first|refine al.fn (hsa) ?_|refine al.fn (hun) ?_)|(refine gC ?_;first|refine cY ?_|refine cN ?_|refine .not ?_|(refine gD ?_;first|refine cI ?_|refine cJ ?_)|refine ak.dec (λhc=>?_) (λhc=>?_))|refine gI (gT (iA ?_))|refine ae.nrm ?_)<;>conv=>whnf
  all_goals rfl
 |false=>
  rw[hu] at hun;rw[if_neg Za];rcases h56 with h5|h5
  .rw [decide_eq_false (show¬g.op=6 by omega)]
   refine Fun.of (bP (by simp) ?_) rfl rfl
   conv=>whnf
   repeat' (first|(refine gF ?_;first|refine aa.fn (hte) ?_|refine aa.fn (bU _) ?_)|(refine gG ?_;first|refine al.fn (hsa) ?_|refine al.fn (hun) ?_)|(refine gC ?_;first|refine cY ?_|refine cN ?_|refine .not ?_|(refine gD ?_;first|refine cI ?_|refine cJ ?_))|refine gI (gT (iA ?_))|refine ae.nrm ?_)<;>conv=>whnf
   all_goals (rw[h5];rfl)
  .rw [decide_eq_true h5];refine Fun.of (bP (by simp) ?_) rfl rfl
   conv=>whnf
   repeat' (first|(refine gF ?_;first|refine aa.fn (hte) ?_|refine aa.fn (bU _) ?_)|(refine gG ?_;first|refine al.fn (hsa) ?_|refine al.fn (hun) ?_)|(refine gC ?_;first|refine cY ?_|refine cN ?_|refine .not ?_|(refine gD ?_;first|refine cI ?_|refine cJ ?_))|refine gI (gT (iA ?_))|refine ae.nrm ?_)<;>conv=>whnf
   all_goals (rw[h5];rfl)
theorem Ew(g:Gl)(hN:Tm.aj g.args<=90000)(hl:g.args.length<=4000000000):Fun Tryz.prog 29 [g.av] (.int .i64 (aQ g)):=by
 have n0:=dF g 0;have n1:=dF g 1;exact Li g _ hl (Nv (a:=arg g 0) (b:=arg g 1) (by omega))
end Go.CK
set_option maxRecDepth 100000
namespace Go.CK
open Go.AM Go.Proofs
theorem J4{x y:Int}:orI x y=0↔x=0/\y=0:=by
 unfold orI;split<;>omega
theorem CW:∀(l m:List Tm),(∀x∈l,∀y:Tm,x.cmp y=0->y.cmp x=0)->Tm.eD l m=0->Tm.eD m l=0
 |[],[],_,_=>rfl
 |[],y::m,_,h=>by
  rw[Tm.eD,jb] at h
  simp only[zX] at h;omega
 |x::l,[],_,h=>by rw[Tm.eD] at h;cases h
 |x::l,y::m,hx,h=>by
  rw[Tm.eD,J4] at h|-;exact⟨hx x (by simp) y h.1,CW l m (λz hz=>hx z (by simp[hz])) h.2⟩
theorem tC(a:Tm):∀b:Tm,a.cmp b=0->b.cmp a=0:=by
 induction a using Tm.bK with
 |h k n s l ih=>
 intro b h;rw[Tm.cmp_eq] at h|-;rw[J4,jb] at h;obtain⟨h1,h2⟩:=h;rw[J4,jb];refine⟨h1.symm,?_⟩;rw[<-h1];split at h2
 .rename_i hc;rw[if_pos hc];rw[jb] at h2|-;exact h2.symm
 .rename_i hc;rw[if_neg hc];split at h2
  .rename_i hd;rw[if_pos hd];simp only[J4,jb,Ie] at h2|-;exact⟨h2.1.symm,h2.2.1.symm,CW l b.args ih h2.2.2⟩
  .rename_i hd;rw[if_neg hd];simp only[J4,jb,Ie] at h2|-;exact⟨h2.1.symm,h2.2.1.symm,h2.2.2.symm⟩
def inK(b:List Bnd)(known:List Gl)(h:Gl):Bool:=h.test&&known.any λk=>(bh b k).same h
def inG(b:List Bnd)(known:List Gl)(g:Gl)(r:Int):Int:=if inK b known (bh b g)=true then 1 else r
theorem OZ{b:List Bnd}{known:List Gl}{g:Gl}{r:Int}(hb:b.length<=4000000000)(hl:g.args.length<=4000000000)(hgN:Tm.aj g.args<=1000000)(hkN:∀x∈known,Tm.aj x.args<=1000000)(hT:Fun Tryz.prog 29 [(bh b g).av] (.int .i64 r)):Fun Tryz.prog 53 [.sl .no (b.map Bnd.av),.sl .no (known.map Gl.av),g.av] (.int .i64 (inG b known g r)):=by
 refine Fun.of (Sem.assume λhg0 _=>?_) rfl rfl;have hg:=(aJ (hg0 (.sl .no (known.map Gl.av)) (by simp) rfl)).1
 have ha:=tF b g hgN hb;have ht:=wu (bh b g) (by show (g.args.map _).length<=_;rw[zF];omega)
 unfold inG inK;generalize hh:bh b g=h at ha ht hT
 cases htt:h.test with
 |false=>
  rw[htt] at ht;rw[zw,if_neg Za];refine Cd (by simp) ?_
  conv=>whnf
  repeat' (first|(refine gF ?_;first|refine aa.fn (ha) ?_|refine aa.fn (ht) ?_|refine aa.fn (hT) ?_)|refine gC (cN ?_)|refine ae.nrm ?_)<;>conv=>whnf
  all_goals rfl
 |true=>
 rw[htt] at ht;rw[za];refine Cd (by simp) ?_
 conv=>whnf
 repeat' (first|(refine gF ?_;first|refine aa.fn (ha) ?_|refine aa.fn (ht) ?_)|refine gC (cY ?_)|refine gL (.map ?_))<;>conv=>whnf
 refine ax.by (fb:=true) (λ_ (j:Nat)=>⟨[(0,.sl .no (b.map Bnd.av)),(5,.ptr 0 0),(14,.sl .no (known.map Gl.av)),(15,.int .i64 (known.length:Int)),(16,.int .i64 (j:Int))],[.cells [.int .i64 h.op,.str h.name,.sl .no (h.args.map Tm.av)]],0⟩) (λj=>j<=known.length/\((known.drop j).any λk=>(bh b k).same h)=known.any λk=>(bh b k).same h) (λj=>known.length-j) 0 ⟨zJ _,rfl⟩ ?_ ?_
 .exact aH
 .rintro j ⟨q1,q2⟩
  by_cases hj:j<known.length
  .obtain ⟨x,hx⟩:∃x,known[j]? =some x:=⟨_,zA hj⟩;rw[zH hj,(zB.1 hx).2,List.any_cons] at q2;have hs:=iK (bh b x) h;have hax:=tF b x (hkN x (zE hx)) hb
   cases hc:(bh b x).same h with
   |true=>
    rw[hc] at hs;rw[hc,Bool.true_or] at q2;rw[<-q2,if_pos rfl]
    conv=>whnf
    repeat' (first|(refine gG ?_;first|refine al.fn (hax) ?_|refine al.fn (hs) ?_)|(refine gC ?_;first|refine cY ?_|refine gD (cI ?_))|refine gI (gM (iE ?_))|refine ae.nrm ?_)<;>conv=>whnf
    all_goals rfl
   |false=>
    rw[hc] at hs;rw[hc,Bool.false_or] at q2
    conv=>whnf
    repeat' (first|(refine gG ?_;first|refine al.fn (hax) ?_|refine al.fn (hs) ?_)|(refine gC ?_;first|refine cN ?_|refine gD (cI ?_))|refine gW (wI ?_)|refine gI (gM (iE ?_)))<;>conv=>whnf
    refine⟨j+1,⟨⟨hj,q2⟩,by omega⟩,?_⟩
    refine ah.lay [some 0] oko ?_
    conv=>whnf
    exact aH
  .obtain rfl:j=known.length:=by omega
   rw[zj,List.any_nil] at q2;rw[<-q2,if_neg Za]
   conv=>whnf
   repeat' (first|refine gF (aa.fn (hT) ?_)|refine gC (gD (cJ ?_))|refine ae.nrm ?_)<;>conv=>whnf
   all_goals rfl
end Go.CK
set_option maxRecDepth 100000
namespace Go.CK
open Go.AM Go.Proofs
def qy(l:List Int):Int:=if 2∈l then 2 else if 0∈l then 0 else 1
theorem AE(l:List Int)(n v:Int):(((l++[n]).count v:Nat):Int)=(l.count v:Int)+if n=v then 1 else 0:=by
 rw[List.count_append,List.count_singleton]
 by_cases h:n=v
 .subst h;simp
 .simp [h]
theorem M7(l:List Int):qy l=if 0<(l.count 2:Int) then 2 else if 0<(l.count 0:Int) then 0 else 1:=by
 unfold qy;have h2:0<(l.count 2:Int)↔(2:Int)∈l:=by rw[<-List.count_pos_iff (a:=(2:Int))];omega
 have h0:0<(l.count 0:Int)↔(0:Int)∈l:=by rw[<-List.count_pos_iff (a:=(0:Int))];omega
 by_cases a:(2:Int)∈l
 .rw [if_pos a,if_pos (h2.2 a)]
 .rw [if_neg a,if_neg (λe=>a (h2.1 e))]
  by_cases c:(0:Int)∈l
  .rw [if_pos c,if_pos (h0.2 c)]
  .rw [if_neg c,if_neg (λe=>c (h0.1 e))]
theorem uB{α:Type}{l:List α}{j:Nat}{x:α}(hx:l[j]? =some x)(f:α->Int):(l.take (j+1)).map f=(l.take j).map f++[f x]:=by
 rw[ZC,hx,zu];rfl
theorem Ic(l:List Int)(v:Int)(n:Nat)(h:l.length<=n):(l.count v:Int)<=n:=by
 have:=List.count_le_length (a:=v) (l:=l);omega
theorem ED{b:List Bnd}{known l:List Gl}{rs:Gl->Int}(hIn:∀g∈l,Fun Tryz.prog 53 [.sl .no (b.map Bnd.av),.sl .no (known.map Gl.av),g.av] (.int .i64 (rs g)))(hr:∀g∈l,rs g=0\/rs g=1\/rs g=2):Fun Tryz.prog 27 [.sl .no (b.map Bnd.av),.sl .no (known.map Gl.av),.sl .no (l.map Gl.av)] (.int .i64 (qy (l.map rs))):=by
 refine Fun.of (Sem.assume λhg0 _=>?_) rfl rfl;have hg:=(aJ (hg0 (.sl .no (l.map Gl.av)) (by simp) rfl)).1
 refine Hr (by simp) ?_
 conv=>whnf
 repeat' refine gL (.map ?_)<;>conv=>whnf
 refine ax.by (fb:=true) (λ_ (j:Nat)=>⟨[(0,.sl .no (b.map Bnd.av)),(1,.sl .no (known.map Gl.av)),(7,.ptr 0 0),(10,.sl .no (l.map Gl.av)),(11,.int .i64 (l.length:Int)),(12,.int .i64 (j:Int))],[.cells [.int .i64 (((l.take j).map rs).count 0:Nat),.int .i64 (((l.take j).map rs).count 1:Nat),.int .i64 (((l.take j).map rs).count 2:Nat)]],0⟩) (λj=>j<=l.length) (λj=>l.length-j) 0 (zJ _) ?_ ?_
 .refine ah.at_ ?_ rfl
  conv=>whnf
  refine And.intro ?_ ?_<;>conv=>whnf
  all_goals repeat' (first|(refine gV ?_;first|refine vE ?_|refine vI ?_)|(refine gX ?_;(refine BxN.mk ?_ ?_;(focus (simp[AV.norm,AV.ao,];done))))|exact True.intro)<;>conv=>whnf
 .rintro j q1
  by_cases hj:j<l.length
  .obtain ⟨x,hx⟩:∃x,l[j]? =some x:=⟨_,zA hj⟩;have h1:=hIn x (zE hx);have hlen:((l.take j).map rs).length<=j:=by simp;omega
   have c0:=Ic _ 0 j hlen;have c1:=Ic _ 1 j hlen;have c2:=Ic _ 2 j hlen;rcases hr x (zE hx) with hrx|hrx|hrx
   .rw [hrx] at h1
    conv=>whnf
    repeat' (first|refine gF (aa.fn (h1) ?_)|refine gC (gD (cI ?_))|refine gW (wI ?_)|refine gN (nS ?_)|refine gI (gM (iE ?_)))<;>conv=>whnf
    refine⟨j+1,⟨hj,by omega⟩,?_⟩
    refine ah.lay [some 0] oko ?_
    conv=>whnf
    refine ah.at_ ?_ rfl
    conv=>whnf
    refine And.intro ?_ ?_<;>conv=>whnf
    all_goals repeat' (first|(refine gV ?_;first|refine vE ?_|refine vI ?_)|(refine gX ?_;(refine BxN.mk ?_ ?_;(focus (simp[AV.norm,AV.ao,uB hx,AE,hrx];done))))|exact True.intro)<;>conv=>whnf
   .rw [hrx] at h1
    conv=>whnf
    repeat' (first|refine gF (aa.fn (h1) ?_)|refine gC (gD (cI ?_))|refine gW (wI ?_)|refine gN (nS ?_)|refine gI (gM (iE ?_)))<;>conv=>whnf
    refine⟨j+1,⟨hj,by omega⟩,?_⟩
    refine ah.lay [some 0] oko ?_
    conv=>whnf
    refine ah.at_ ?_ rfl
    conv=>whnf
    refine And.intro ?_ ?_<;>conv=>whnf
    all_goals repeat' (first|(refine gV ?_;first|refine vE ?_|refine vI ?_)|(refine gX ?_;(refine BxN.mk ?_ ?_;(focus (simp[AV.norm,AV.ao,uB hx,AE,hrx];done))))|exact True.intro)<;>conv=>whnf
   .rw [hrx] at h1
    conv=>whnf
    repeat' (first|refine gF (aa.fn (h1) ?_)|refine gC (gD (cI ?_))|refine gW (wI ?_)|refine gN (nS ?_)|refine gI (gM (iE ?_)))<;>conv=>whnf
    refine⟨j+1,⟨hj,by omega⟩,?_⟩
    refine ah.lay [some 0] oko ?_
    conv=>whnf
    refine ah.at_ ?_ rfl
    conv=>whnf
    refine And.intro ?_ ?_<;>conv=>whnf
    all_goals repeat' (first|(refine gV ?_;first|refine vE ?_|refine vI ?_)|(refine gX ?_;(refine BxN.mk ?_ ?_;(focus (simp[AV.norm,AV.ao,uB hx,AE,hrx];done))))|exact True.intro)<;>conv=>whnf
  .obtain rfl:j=l.length:=by omega
   rw[zz,M7]
   by_cases h2:0<((l.map rs).count 2:Int)
   .rw [if_pos h2]
    conv=>whnf
    repeat' (first|(refine gC ?_;(refine gD ?_;first|refine cI ?_|refine cJ ?_))|refine gN (nS ?_)|refine ae.nrm ?_)<;>conv=>whnf
    all_goals rfl
   .rw [if_neg h2]
    by_cases h0:0<((l.map rs).count 0:Int)
    .rw [if_pos h0]
     conv=>whnf
     repeat' (first|(refine gC ?_;(refine gD ?_;first|refine cI ?_|refine cJ ?_))|refine gN (nS ?_)|refine ae.nrm ?_)<;>conv=>whnf
     all_goals rfl
    .rw [if_neg h0]
     conv=>whnf
     repeat' (first|refine gC (gD (cJ ?_))|refine gN (nS ?_)|refine ae.nrm ?_)<;>conv=>whnf
     all_goals rfl
end Go.CK
set_option maxRecDepth 100000
namespace Go.CK
open Go.AM Go.Proofs
def ruB(x y:Int)(c:Bool):Bool:=match c with
 |false=>decide (x=7/\y=8\/x=7/\y=10\/x=9/\y=8)
 |true=>decide (x=7/\y=10\/x=9/\y=8\/x=9/\y=9\/x=10/\y=10\/x=5/\y=5\/x=6/\y=6)
theorem w7{cs:List AV}{ks:List FK}:∀{l:List (List AV×AV)} {b:Bool},(∀e∈l,e.2=.bool true/\∃q,fR ks cs e.1=some q)->(b=true↔∃e∈l,fR ks cs e.1=some true)->oh ks cs l=some (match b with|true=>some (.bool true)|false=>none)
 |[],b,_,hb=>by
  cases b with
  |true=>obtain⟨e,he,_⟩:=hb.1 rfl;cases he
  |false=>rfl
 |(k,x)::l,b,h,hb=>by
  obtain⟨h1,q,h2⟩:=h _ (zV ..);dsimp only at h1 h2;simp only[oh,h2]
  cases q with
  |true=>
   have:b=true:=hb.2 ⟨_,zV ..,h2⟩
   rw[this,h1]
  |false=>
   refine w7 (λe he=>h e (zQ _ he)) (hb.trans ⟨?_,?_⟩)
   .rintro ⟨e,he,h3⟩;rcases zI.1 he with rfl|he
    .rw [h2] at h3;cases h3
    .exact ⟨e,he,h3⟩
   .rintro ⟨e,he,h3⟩;exact⟨e,zQ _ he,h3⟩
theorem OU(x y a b:Int)(c d:Bool):fR [.i,.i,.b] (kk x y c) (kk a b d)=some (decide (x=a)&&(decide (y=b)&&(decide (c=d)&&true))):=rfl
theorem Nl{k:List AV}(h:k∈RKs):∃a b c,k=kk a b c:=by
 simp only[RKs,zI,ye,or_false] at h;rcases h with rfl|rfl|rfl|rfl|rfl|rfl|rfl|rfl|rfl<;>exact⟨_,_,_,rfl⟩
theorem Hd{l:List (List AV×AV)}(h:Ey l)(x y:Int)(c:Bool):oh [.i,.i,.b] (kk x y c) l=some (match ruB x y c with|true=>some (.bool true)|false=>none):=by
 refine w7 (λe he=>⟨(h.1 e he).1,?_⟩) ?_
 .obtain ⟨a,b,d,hk⟩:=Nl (h.1 e he).2;rw[hk];exact⟨_,OU ..⟩
 .have h1:(∃e∈l,fR [.i,.i,.b] (kk x y c) e.1=some true)↔∃k∈RKs,fR [.i,.i,.b] (kk x y c) k=some true:=by
   constructor
   .rintro ⟨e,he,h3⟩;exact⟨e.1,(h.1 e he).2,h3⟩
   .rintro ⟨k,hk,h3⟩;obtain⟨e,he,rfl⟩:=h.2 k hk;exact⟨e,he,h3⟩
  rw[h1];simp only[RKs,zI,ye,or_false,exists_eq_or_imp,OU,exists_eq_left,zN,Bool.and_true,zD,decide_eq_true_eq];cases c<;>simp[ruB]
theorem xe{l:List (List AV×AV)}(h:Ey l):JR l:=λe he=>by
 obtain⟨h1,h2⟩:=h.1 e he;obtain⟨a,b,d,hk⟩:=Nl h2;rw[h1,hk];exact⟨rfl,rfl⟩
theorem SgN.rules{s:St}{m k:AV}{K:AV->Prop}{l:List (List AV×AV)}(h:Ey l)(b:Nat)(x y:Int)(c:Bool)(hm:m=.mpt b)(hk:k=.agg (kk x y c))(hb:s.bs[b]? =some (.loop (mLB (skE 0 l) l.length)))(hK:K (.bool (ruB x y c))):SgN [.i,.i,.b] false (.bool false) s m k K:=by
 have hf:=Hd h x y c
 cases hr:ruB x y c with
 |true=>
  rw[hr] at hf hK
  exact⟨b,kk x y c,l,_,some (.bool true),hm,hk,hb,rfl,⟨rfl,rfl⟩,xe h,hf,λy hy=>by cases hy;exact hK,λe=>by cases e⟩
 |false=>
  rw[hr] at hf hK;exact⟨b,kk x y c,l,_,none,hm,hk,hb,rfl,⟨rfl,rfl⟩,xe h,hf,(λy hy=>by cases hy),λ_=>hK⟩
def Ll(a g:Gl):Bool:=decide ((arg a 0).cmp (arg g 0)=0)&&decide ((arg a 1).cmp (arg g 1)=0)
def MR(a g:Gl):Bool:=decide ((arg a 0).cmp (arg g 1)=0)&&decide ((arg a 1).cmp (arg g 0)=0)
def oF(a g:Gl):Bool:=
 if a.test=true/\g.test=true then
  if a.same g=true then true
  else if a.args.length=2/\g.args.length=2 then Ll a g&&ruB a.op g.op false||MR a g&&ruB a.op g.op true
  else false
 else false
set_option maxHeartbeats 2000000 in
theorem Iu(a g:Gl)(hla:a.args.length<=4000000000)(hlg:g.args.length<=4000000000):Fun Tryz.prog 44 [a.av,g.av] (.bool (oF a g)):=by
 have ta:=wu a (by omega)
 have tg:=wu g (by omega)
 have sg:=iK a g;unfold oF
 cases hta:a.test with
 |false=>
  rw[hta] at ta;rw[if_neg (by simp)]
  refine Fun.of (c6 (by simp) ?_) rfl rfl
  conv=>whnf
  repeat' (first|refine gF (aa.fn (ta) ?_)|(refine gC ?_;first|refine cY ?_|refine cN ?_|refine .not ?_)|refine ae.nrm ?_)<;>conv=>whnf
 |true=>
 rw[hta] at ta
 cases htg:g.test with
 |false=>
  rw[htg] at tg;rw[if_neg (by simp)]
  refine Fun.of (c6 (by simp) ?_) rfl rfl
  conv=>whnf
  repeat' (first|(refine gF ?_;first|refine aa.fn (ta) ?_|refine aa.fn (tg) ?_)|(refine gC ?_;first|refine cY ?_|refine cN ?_|refine .not ?_)|refine ae.nrm ?_)<;>conv=>whnf
 |true=>
 rw[htg] at tg;rw[if_pos ⟨rfl,rfl⟩]
 cases hsg:a.same g with
 |true=>
  rw[hsg] at sg;rw[if_pos rfl];refine Fun.of (c6 (by simp) ?_) rfl rfl
  conv=>whnf
  repeat' (first|(refine gF ?_;first|refine aa.fn (ta) ?_|refine aa.fn (tg) ?_|refine aa.fn (sg) ?_)|(refine gC ?_;first|refine cY ?_|refine .not ?_)|refine ae.nrm ?_)<;>conv=>whnf
 |false=>
 rw[hsg] at sg;rw[if_neg Za]
 by_cases h2:a.args.length=2
 rotate_left
 .rw [if_neg (λe=>h2 e.1)];refine Fun.of (c6 (by simp) ?_) rfl rfl
  conv=>whnf
  repeat' (first|(refine gF ?_;first|refine aa.fn (ta) ?_|refine aa.fn (tg) ?_|refine aa.fn (sg) ?_)|(refine gC ?_;first|refine cY ?_|refine cN ?_|refine .not ?_|refine gD (cJ ?_))|refine gL (.map ?_)|refine ae.nrm ?_)<;>conv=>whnf
 by_cases h3:g.args.length=2
 rotate_left
 .rw [if_neg (λe=>h3 e.2)];refine Fun.of (c6 (by simp) ?_) rfl rfl
  conv=>whnf
  repeat' (first|(refine gF ?_;first|refine aa.fn (ta) ?_|refine aa.fn (tg) ?_|refine aa.fn (sg) ?_)|(refine gC ?_;first|refine cY ?_|refine cN ?_|refine .not ?_|(refine gD ?_;first|refine cI ?_|refine cJ ?_))|refine gL (.map ?_)|refine ae.nrm ?_)<;>conv=>whnf
 rw[if_pos ⟨h2,h3⟩];have a0:=je (g:=a) (i:=0) (by omega)
 have a1:=je (g:=a) (i:=1) (by omega)
 have g0:=je (g:=g) (i:=0) (by omega)
 have g1:=je (g:=g) (i:=1) (by omega)
 have s00:=hU (arg a 0) (arg g 0);have s11:=hU (arg a 1) (arg g 1);have s01:=hU (arg a 0) (arg g 1);have s10:=hU (arg a 1) (arg g 0);unfold Ll MR;generalize decide ((arg a 0).cmp (arg g 0)=0)=b00 at s00;generalize decide ((arg a 1).cmp (arg g 1)=0)=b11 at s11;generalize decide ((arg a 0).cmp (arg g 1)=0)=b01 at s01;generalize decide ((arg a 1).cmp (arg g 0)=0)=b10 at s10;refine Fun.of (c6 (by simp) ?_) rfl rfl
 conv=>whnf
 repeat' (first|(refine gF ?_;first|refine aa.fn (ta) ?_|refine aa.fn (tg) ?_|refine aa.fn (sg) ?_)|(refine gC ?_;first|refine cY ?_|refine cN ?_|refine .not ?_|refine gD (cI ?_))|refine gL (.map ?_))<;>conv=>whnf
 refine aa.raw (LG _) ?_;rintro r bs' ⟨l,hl,rfl,rfl⟩;cases b00<;>cases b11<;>cases b01<;>cases b10
 all_goals
  conv=>whnf
  repeat' (first|(refine gG ?_;first|refine al.fn (s00) ?_|refine al.fn (s11) ?_|refine al.fn (s01) ?_|refine al.fn (s10) ?_)|(refine gC ?_;first|refine cY ?_|refine cN ?_)|refine gI (gT (iA ?_)))<;>conv=>whnf
 all_goals try refine SgN.rules hl 2 a.op g.op _ rfl rfl rfl ?_
 all_goals
  conv=>whnf
  repeat' (refine gC ?_;first|refine cY ?_|refine cN ?_|(refine gD ?_;first|refine cI ?_|refine cJ ?_)|refine ak.dec (λhc=>?_) (λhc=>?_))<;>conv=>whnf
 all_goals try refine SgN.rules hl 2 a.op g.op _ rfl rfl rfl ?_
 all_goals
  conv=>whnf
  repeat' (first|(refine gC ?_;first|refine cY ?_|refine gD (cJ ?_))|refine ae.nrm ?_)<;>conv=>whnf
 all_goals (simp_all[ruB]<;>omega)
end Go.CK
