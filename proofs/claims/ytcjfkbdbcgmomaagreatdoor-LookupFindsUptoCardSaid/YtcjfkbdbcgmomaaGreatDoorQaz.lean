/-
  By an AI agent.
-/
import Derived.Test.YtcjfkbdbcgmomaaGreatDoorQay
set_option linter.unusedSimpArgs false
set_option linter.unusedVariables false
set_option maxRecDepth 100000
namespace Go.CK
open Go.AM Go.Proofs
open Go.AM Go.Proofs
def Rl.ai(x:Rl):List At:=x.keep++x.remove
theorem Rl.bG(x:Rl):x.ai.length=x.keep.length+x.remove.length:=by simp[Rl.ai]
theorem K3{x:Rl}(h:x.keep.length+x.remove.length<=100000):Fun Tryz.prog 132 [x.av] (.int .i64 (x.keep.length+x.remove.length)):=by
 refine Fun.of (uP (by simp) ?_) rfl rfl
 conv=>whnf
 repeat' (first|refine gW (wI ?_)|refine gL (.map ?_)|refine ag.nrm ?_)<;>conv=>whnf
theorem fM{x:Rl}(h:x.keep.length+x.remove.length<=100000):Fun Tryz.prog 70 [x.av] (slA At.av x.ai):=by
 refine Fun.of (uQ (by simp) ?_) rfl rfl
 conv=>whnf
 repeat' (first|refine gF (ae.fn (K3 h) ?_)|refine gN (nS ?_)|refine ag.nrm ?_)<;>conv=>whnf
 simp[Rl.ai]
theorem Cj{x:Rl}(h:x.keep.length+x.remove.length<=100000):Fun Tryz.prog 27 [x.av] (slA At.av x.ai):=by
 refine Fun.of (j6 (by simp) ?_) rfl rfl
 conv=>whnf
 repeat' (first|refine gN (nS ?_)|refine ag.nrm ?_)<;>conv=>whnf
 simp[Rl.ai]
def kvs(hs:List At):List Int->List Int
 |[]=>[]
 |k::r=>(if 0<=k then match hs[k.toNat]? with
  |some h=>aV (Tm.vss h.args)
  |none=>[]
  else [])++kvs hs r
theorem qD(hs:List At):∀l m,kvs hs (l++m)=kvs hs l++kvs hs m
 |[],m=>rfl
 |k::l,m=>by rw[ze,kvs,kvs,qD hs l m,zg]
theorem Bc{hs:List At}{l:List Int}{j:Nat}{k:Int}{h:At}(hk:l[j]? =some k)(c:0<=k)(b:hs[k.toNat]? =some h):kvs hs (l.take (j+1))=kvs hs (l.take j)++aV (Tm.vss h.args):=by
 obtain⟨a,rfl⟩:=zB.1 hk;rw[List.take_succ_eq_append_getElem a,qD];simp[kvs,c,b]
theorem Fe{hs:List At}{l:List Int}{j:Nat}{k:Int}(hk:l[j]? =some k)(a:k<0\/(hs.length:Int)<=k):kvs hs (l.take (j+1))=kvs hs (l.take j):=by
 obtain⟨b,rfl⟩:=zB.1 hk;rw[List.take_succ_eq_append_getElem b,qD];rcases a with a|a
 .simp [kvs,Int.not_le.2 a]
 .have:hs[(l[j]).toNat]? =none:=zR (by omega)
  simp[kvs,this]
def bz(p:Tm->Bool)(l:List Tm):Nat->List Int
 |0=>[]
 |j+1=>bz p l j++match l[j]? with
  |some t=>if p t then [(j:Int)] else []
  |none=>[]
theorem sK{p:Tm->Bool}{l:List Tm}{j:Nat}{t:Tm}(h:l[j]? =some t)(hp:p t=true):bz p l (j+1)=bz p l j++[(j:Int)]:=by simp[bz,h,hp]
theorem uI{p:Tm->Bool}{l:List Tm}{j:Nat}{t:Tm}(h:l[j]? =some t)(hp:p t=false):bz p l (j+1)=bz p l j:=by simp[bz,h,hp]
theorem ee(p:Tm->Bool)(l:List Tm):∀j,(bz p l j).length<=j
 |0=>zG _
 |j+1=>by
  have:=ee p l j;rw[bz,zC];split
  .split<;>simp<;>omega
  .simp;omega
def yv(known:List Int)(t:Tm):Bool:=(aV t.vs).all λv=>decide (v∈known)
def a8(r:Rl)(done:List Int)(head:Int):List Int:=
 if head<0 then [] else match r.ai[head.toNat]? with
  |some h=>bz (yv (kvs r.ai done)) h.args h.args.length
  |none=>[]
def Rl.ok(r:Rl):Prop:=r.keep.length+r.remove.length<=1000/\∀h∈r.ai,h.args.length<=100000/\(Tm.vss h.args).length<=100000/\∀t∈h.args,t.vs.length<=100000
theorem H5{bs:List Box}{b c:Nat}{xs:List Int}{v:Int}(hp:aa bs c=some [.mpt b])(hb:bs[b]? =some (.mp (dX (.bool true) xs))):AM.Sem Tryz.prog 74 [.int .i64 v,.ptr c 0] bs λr bs'=>r=.bool (!decide (v∈xs))/\bs'=bs:=by
 refine pA (by simp) ?_
 conv=>whnf
 skip;refine gi.of hp ?_
 conv=>whnf
 repeat' (first|refine gMp (mA ?_)|(refine gMs ?_;refine mS (λa=>?_) (λa=>?_)))<;>conv=>whnf
 .refine ag.slot ⟨?_,rfl⟩;rw[decide_eq_true a];rfl
 .refine ag.slot ⟨?_,rfl⟩;rw[decide_eq_false a];rfl
theorem xf{bs:List Box}{b c:Nat}{xs l:List Int}(hp:aa bs c=some [.mpt b])(hb:bs[b]? =some (.mp (dX (.bool true) xs))):AM.Sem Tryz.prog 109 [slA aG l,.fn (.func 74) [] [.ptr c 0]] bs λr bs'=>r=.int .i64 (eV (λv=>!decide (v∈xs)) l)/\bs'=bs:=by
 refine Sem.assume λd _=>?_;have k:=(aS (d (slA aG l) (by simp) rfl)).1
 refine cR (by simp) ?_
 conv=>whnf
 repeat' refine gL (.map ?_)<;>conv=>whnf
 refine ax.count (fb:=false) l.length (λg j=>⟨[(0,slA aG l),(1,.fn (.func 74) [] [.ptr c 0]),(7,.int .i64 l.length),(8,.int .i64 j)],bs,bs.length⟩) (λj=>∀i x,i<j->l[i]? =some x->(!decide (x∈xs))=false) ch ?_ (λj h a=>?_) (λa=>?_)
 .refine al.atS ?_ rfl rfl
  conv=>whnf
  repeat' (first|(refine gV ?_;first|refine vE ?_|refine vI ?_)|exact True.intro)<;>conv=>whnf
 .obtain ⟨y,f⟩:∃y,l[j]? =some y:=⟨_,zA h⟩
  conv=>whnf
  repeat' (first|refine gC (gD (cI ?_))|refine gI (gM (iE ?_))|refine gH (hB ?_))<;>conv=>whnf
  refine ae.raw (H5 hp hb) ?_;rintro r bs' ⟨rfl,rfl⟩
  conv=>whnf
  repeat' (first|(refine gC ?_;first|refine .not ?_|refine ak.dec (λe=>?_) (λe=>?_))|refine gW (wI ?_)|fail)<;>conv=>whnf
  .refine ⟨bM a f (by rw[decide_eq_true e];rfl),?_⟩
   refine al.atS ?_ rfl rfl
   conv=>whnf
   repeat' (first|(refine gV ?_;first|refine vE ?_|refine vI ?_)|exact True.intro)<;>conv=>whnf
  .refine ag.slot ⟨?_,rfl⟩;rw[fN a f (by rw[decide_eq_false e];rfl)];rfl
 .conv=>whnf
  repeat' refine gC (gD (cJ ?_))<;>conv=>whnf
  refine ag.slot ⟨?_,rfl⟩;rw[jc a];rfl
theorem sh{bs:List Box}{b c:Nat}{xs l:List Int}(hp:aa bs c=some [.mpt b])(hb:bs[b]? =some (.mp (dX (.bool true) xs))):AM.Sem Tryz.prog 72 [slA aG l,.fn (.func 74) [] [.ptr c 0]] bs λr bs'=>r=.bool (!l.all λv=>decide (v∈xs))/\bs'=bs:=by
 rw[show (!l.all λv=>decide (v∈xs))=l.any λv=>!decide (v∈xs) by rw[List.all_eq_not_any_not,Bool.not_not],<-fh]
 refine cd (by simp) ?_
 conv=>whnf
 skip;refine ae.raw (xf hp hb) ?_;rintro r bs' ⟨rfl,rfl⟩
 conv=>whnf
 skip;exact ag.slot ⟨rfl,rfl⟩
theorem E7{r:Rl}{done:List Int}{head:Int}(hr:r.ok)(C:done.length<=100000):Fun Tryz.prog 24 [r.av,slA aG done,.int .i64 head] (slA aG (a8 r done head)):=by
 have A:r.ai.length<=1000:=by rw[Rl.bG];exact hr.1
 refine Fun.of (tp (by simp) ?_) rfl rfl
 conv=>whnf
 repeat' (first|(refine gF ?_;refine ae.fn (fM (x:=r) (by have:=hr.1;omega)) ?_)|(refine gC ?_;first|refine cY ?_|(refine gD ?_;first|refine cI ?_|refine cJ ?_)|refine ak.lt (λc=>?_) (λc=>?_)|refine ak.le (λc=>?_) (λc=>?_))|refine gL (.map ?_)|refine ag.nrm ?_)<;>conv=>whnf
 .rw [a8,if_pos c];rfl
 .have:r.ai[head.toNat]? =none:=zR (by omega)
  rw[a8,this];split<;>rfl
 .obtain ⟨h,s⟩:∃h,r.ai[head.toNat]? =some h:=⟨_,zA (by omega)⟩
  have o:=hr.2 h (zE s);rw[a8,if_neg (by omega),s]
  refine ax.count (fb:=true) done.length (λa j=>⟨(a.bD [(29,.int .i64 j)]).env,[.cells [.str r.name,.sl .no (r.keep.map At.av),.sl .no (r.remove.map At.av),.sl .no (r.guard.map Gl.av),.sl .no (r.body.map Gl.av),.int .i64 r.vars],.mp (dX (.bool true) (kvs r.ai (done.take j))),.cells [.mpt 1]],0⟩) (λ_=>True) trivial ?_ (λj n _=>?_) (λ_=>?_)
  .refine al.at_ ?_ rfl
   conv=>whnf
   refine And.intro ?_ ?_<;>conv=>whnf
   all_goals repeat' (first|(refine gV ?_;first|refine vE ?_|refine vI ?_)|(refine gX ?_;first|refine xB ?_|(refine BxN.mk ?_ ?_;(focus (simp[AV.norm,AV.ay,dX,kvs];done))))|exact True.intro)<;>conv=>whnf
  .obtain ⟨k,hk⟩:∃k,done[j]? =some k:=⟨_,zA n⟩
   by_cases w:0<=k/\k<r.ai.length
   .obtain ⟨g,e⟩:∃g,r.ai[k.toNat]? =some g:=⟨_,zA (by omega)⟩
    have q:=(hr.2 g (zE e)).2.1;have d:=Bc hk w.1 e
    have B:(aV (Tm.vss g.args)).length<=100000:=by
     have:=cU (Tm.vss g.args) [];simp only[ZP] at this;unfold aV;omega
    conv=>whnf
    repeat' (first|(refine gF ?_;refine ae.fn (n5 (x:=g) q) ?_)|refine gC (gD (cI ?_))|refine gL (.map ?_)|(refine gI ?_;(refine gM ?_;first|refine iE ?_|refine iF ?_)))<;>conv=>whnf
    generalize aV (Tm.vss g.args)=vs at*;refine ax.count (fb:=true) vs.length (λa m=>⟨(a.bD [(47,.int .i64 m)]).env,[.cells [.str r.name,.sl .no (r.keep.map At.av),.sl .no (r.remove.map At.av),.sl .no (r.guard.map Gl.av),.sl .no (r.body.map Gl.av),.int .i64 r.vars],.mp (dX (.bool true) (kvs r.ai (done.take j)++vs.take m)),.cells [.mpt 1]],0⟩) (λ_=>True) trivial ?_ (λm hm _=>?_) (λ_=>?_)
    .refine al.at_ ?_ rfl
     conv=>whnf
     refine And.intro ?_ ?_<;>conv=>whnf
     all_goals repeat' (first|(refine gV ?_;first|refine vE ?_|refine vI ?_)|(refine gX ?_;first|refine xB ?_|(refine BxN.mk ?_ ?_;(focus (simp[AV.norm,AV.ay,];done))))|exact True.intro)<;>conv=>whnf
    .obtain ⟨y,u⟩:∃y,vs[m]? =some y:=⟨_,zA hm⟩
     have hs:vs.take (m+1)=vs.take m++[y]:=by
      rw[List.take_succ_eq_append_getElem hm,(zB.1 u).2]
     conv=>whnf
     repeat' (first|refine gC (gD (cI ?_))|refine gW (wI ?_)|refine gN (nS ?_)|refine gI (gM (iE ?_))|refine gMp (mA ?_))<;>conv=>whnf
     refine⟨trivial,?_⟩;refine al.at_ ?_ rfl
     conv=>whnf
     refine And.intro ?_ ?_<;>conv=>whnf
     all_goals repeat' (first|(refine gV ?_;first|refine vE ?_|refine vI ?_)|refine gX (xB ?_)|exact True.intro)<;>conv=>whnf
     refine BxN.mk ?_ (xB True.intro);show iW _ y (.bool true)=_;rw[hs,<-zg,qv]
    .rw [zz,<-d]
     conv=>whnf
     repeat' (first|refine gC (gD (cJ ?_))|refine gW (wI ?_)|fail)<;>conv=>whnf
     refine⟨trivial,?_⟩;exact aN
   .have d:=Fe (hs:=r.ai) hk (by omega)
    conv=>whnf
    repeat' (first|(refine gC ?_;first|refine cN ?_|(refine gD ?_;first|refine cI ?_|refine cJ ?_)|refine ak.le (λc=>?_) (λc=>?_))|refine gW (wI ?_)|refine gL (.map ?_)|refine gI (gM (iE ?_)))<;>conv=>whnf
    .refine ⟨trivial,?_⟩;refine al.at_ ?_ rfl
     conv=>whnf
     refine And.intro ?_ ?_<;>conv=>whnf
     all_goals repeat' (first|(refine gV ?_;first|refine vE ?_|refine vI ?_)|(refine gX ?_;first|refine xB ?_|(refine BxN.mk ?_ ?_;(focus (simp[AV.norm,AV.ay,d];done))))|exact True.intro)<;>conv=>whnf
    .refine ⟨trivial,?_⟩;refine al.at_ ?_ rfl
     conv=>whnf
     refine And.intro ?_ ?_<;>conv=>whnf
     all_goals repeat' (first|(refine gV ?_;first|refine vE ?_|refine vI ?_)|(refine gX ?_;first|refine xB ?_|(refine BxN.mk ?_ ?_;(focus (simp[AV.norm,AV.ay,d];done))))|exact True.intro)<;>conv=>whnf
  .rw [zz]
   conv=>whnf
   repeat' (first|refine gC (gD (cJ ?_))|refine gL (.map ?_)|refine gI (gM (iF ?_)))<;>conv=>whnf
   obtain⟨p,hp⟩:∃p,p=yv (kvs r.ai done):=⟨_,rfl⟩;rw[<-hp];refine ax.count (fb:=true) h.args.length (λa j=>a.bD [(13,.sl (.own 1) ((bz p h.args j).map aG)),(61,.int .i64 j)]) (λ_=>True) trivial ?_ (λj n _=>?_) (λ_=>?_)
   .refine al.at_ ?_ rfl
    conv=>whnf
    refine And.intro ?_ ?_<;>conv=>whnf
    all_goals repeat' (first|(refine gV ?_;first|refine vE ?_|refine vI ?_|((refine gK ?_;refine vD ?_ ?_);(focus (simp[AV.norm,AV.ay,bz];done))))|refine gX (xB ?_)|exact True.intro)<;>conv=>whnf
   .obtain ⟨t,i⟩:∃t,h.args[j]? =some t:=⟨_,zA n⟩;have f:=o.2.2 t (zE i);have z:=ee p h.args j
    conv=>whnf
    repeat' (first|(refine gF ?_;refine ae.fn (Gd (t:=t) f) ?_)|refine gC (gD (cI ?_))|refine gI (gT (iA ?_)))<;>conv=>whnf
    refine ae.raw (sh (xs:=kvs r.ai done) (b:=1) rfl rfl) ?_;rintro r' bs' ⟨rfl,rfl⟩;have l:((aV t.vs).all λv=>decide (v∈kvs r.ai done))=p t:=by rw[hp];rfl
    rw[l]
    conv=>whnf
    repeat' (first|(refine gC ?_;first|refine .not ?_|refine ak.any (λc=>?_) (λc=>?_))|refine gW (wI ?_)|refine gN (nS ?_))<;>conv=>whnf
    .have hs:=sK i c;refine⟨trivial,?_⟩;refine al.atC 3 ?_ rfl rfl rfl rfl (by first|rfl|(repeat' (first|rfl|refine ao (row_allI _ _ _) ?_|refine ao (az _ _ _) ?_|refine bLtMp ?_|refine aE ?_|refine bLtCells rfl ?_)))
     conv=>whnf
     refine And.intro ?_ ?_<;>conv=>whnf
     all_goals repeat' (first|(refine gV ?_;first|refine vE ?_|refine vI ?_|(refine WkN.sl ?_ ?_;(focus (simp[AV.norm,AV.ay,hs];done))))|refine gX (xB ?_)|exact True.intro)<;>conv=>whnf
    .have hs:=uI i c;refine⟨trivial,?_⟩;refine al.atC 3 ?_ rfl rfl rfl rfl (by first|rfl|(repeat' (first|rfl|refine ao (row_allI _ _ _) ?_|refine ao (az _ _ _) ?_|refine bLtMp ?_|refine aE ?_|refine bLtCells rfl ?_)))
     conv=>whnf
     refine And.intro ?_ ?_<;>conv=>whnf
     all_goals repeat' (first|(refine gV ?_;first|refine vE ?_|refine vI ?_|(refine WkN.sl ?_ ?_;(focus (simp[AV.norm,AV.ay,hs];done))))|refine gX (xB ?_)|exact True.intro)<;>conv=>whnf
   .conv=>whnf
    repeat' (first|refine gC (gD (cJ ?_))|refine ag.nrm ?_)<;>conv=>whnf
open Go.AM Go.Proofs
def Rl.ok2(r:Rl):Prop:=r.keep.length+r.remove.length<=8/\∀h∈r.ai,h.args.length<=200/\(Tm.vss h.args).length<=200/\∀t∈h.args,t.vs.length<=200
theorem Rl.ok2.ok{r:Rl}(h:r.ok2):r.ok:=⟨by have:=h.1;omega,λg b=>by
 obtain⟨e,d,c⟩:=h.2 g b;exact⟨by omega,by omega,λt a=>by have:=c t a;omega⟩⟩
open Go.AM Go.Proofs
def cL:List (List Tm×ByteArray)->Int->Bool
 |[],most=>decide (most<0)
 |a::l,most=>if most<0 then true else cL l (cV a.1 (most-1-(a.2.size:Int).tdiv 8) 64)
theorem vG(l:List (List Tm×ByteArray)){most:Int}(h:most<0):cL l most=true:=by
 cases l with
 |nil=>simpa[cL] using h
 |cons a l=>rw[cL,if_pos h]
theorem sT{l:List (List Tm×ByteArray)}{j:Nat}{x:List Tm×ByteArray}(a:l[j]? =some x){most:Int}(h:0<=most):cL (l.drop j) most=cL (l.drop (j+1)) (cV x.1 (most-1-(x.2.size:Int).tdiv 8) 64):=by
 obtain⟨b,rfl⟩:=zB.1 a;rw[zH b,cL,if_neg (by omega)]
def at2(a:At):List Tm×ByteArray:=(a.args,a.name)
def gl2(a:Gl):List Tm×ByteArray:=(a.args,a.name)
theorem oY{l:List At}{most:Int}(p:-1<=most)(o:most<=100000):Fun Tryz.prog 37 [slA At.av l,.int .i64 most] (.bool (cL (l.map at2) most)):=by
 refine Fun.assume rfl λg=>?_;have b:=aS (g (slA At.av l) (by simp))
 have m:=b.1;have e:(l.map at2).length=l.length:=by simp
 refine Fun.of (fH (by simp) ?_) rfl rfl
 conv=>whnf
 skip;refine ax.by (fb:=true) (λs (q:Nat×Int)=>s.bD [(1,.int .i64 q.2),(5,.int .i64 q.1)]) (λq=>q.1<=l.length/\(-1<=q.2/\q.2<=100000)/\cL ((l.map at2).drop q.1) q.2=cL (l.map at2) most) (λq=>l.length-q.1) (0,most) ⟨zJ _,by simp only;omega,rfl⟩ ?_ ?_
 .exact aN
 .rintro ⟨j,r⟩ ⟨k,hr,he⟩;dsimp only at k hr he|-
  by_cases a:j<l.length
  .obtain ⟨x,h⟩:∃x,l[j]? =some x:=⟨_,zA a⟩;have c:(l.map at2)[j]? =some (at2 x):=by rw[ZF,h];rfl
   have i:=(At.good (b.2 x (zE h))).1
   by_cases d:0<=r
   .rw [sT c d,show (at2 x).1=x.args from rfl,show (at2 x).2=x.name from rfl] at he;have hw:=tS (.mk 0 0 .empty x.args) (r-1-(x.name.size:Int).tdiv 8) 64;rw[show (Tm.mk 0 0 .empty x.args).args=x.args from rfl] at hw;have n:=xt x.name.size
    conv=>whnf
    repeat' (first|(refine gG ?_;refine aW.fn (BK (by omega) (by omega) (by omega) (by omega)) ?_)|refine gC (gD (cI ?_))|refine gW (wI ?_)|refine gL (.map ?_)|refine gN (nS ?_)|refine gI (gM (iE ?_)))<;>conv=>whnf
    refine⟨(j+1,cV x.args (r-1-(x.name.size:Int).tdiv 8) 64),⟨⟨a,?_,he⟩,by simp only;omega⟩,?_⟩
    .simp only;omega
    .exact aN
   .rw [vG _ (by omega)] at he
    conv=>whnf
    repeat' (first|(refine gC ?_;(refine gD ?_;first|refine cI ?_|refine cJ ?_))|refine gL (.map ?_)|refine ag.nrm ?_)<;>conv=>whnf
    rw[<-he];simp;omega
  .have f:j=l.length:=by omega
   subst f;rw[<-e,zj,cL] at he
   conv=>whnf
   repeat' (first|(refine gC ?_;first|refine cN ?_|refine gD (cJ ?_))|refine gL (.map ?_)|refine ag.nrm ?_)<;>conv=>whnf
   rw[<-he]
theorem oX{l:List Gl}{most:Int}(p:-1<=most)(o:most<=100000):Fun Tryz.prog 171 [slA Gl.av l,.int .i64 most] (.bool (cL (l.map gl2) most)):=by
 refine Fun.assume rfl λg=>?_;have b:=aS (g (slA Gl.av l) (by simp))
 have m:=b.1;have e:(l.map gl2).length=l.length:=by simp
 refine Fun.of (fG (by simp) ?_) rfl rfl
 conv=>whnf
 skip;refine ax.by (fb:=true) (λs (q:Nat×Int)=>s.bD [(1,.int .i64 q.2),(5,.int .i64 q.1)]) (λq=>q.1<=l.length/\(-1<=q.2/\q.2<=100000)/\cL ((l.map gl2).drop q.1) q.2=cL (l.map gl2) most) (λq=>l.length-q.1) (0,most) ⟨zJ _,by simp only;omega,rfl⟩ ?_ ?_
 .exact aN
 .rintro ⟨j,r⟩ ⟨k,hr,he⟩;dsimp only at k hr he|-
  by_cases a:j<l.length
  .obtain ⟨x,h⟩:∃x,l[j]? =some x:=⟨_,zA a⟩;have c:(l.map gl2)[j]? =some (gl2 x):=by rw[ZF,h];rfl
   have i:=(Gl.good (b.2 x (zE h))).1
   by_cases d:0<=r
   .rw [sT c d,show (gl2 x).1=x.args from rfl,show (gl2 x).2=x.name from rfl] at he;have hw:=tS (.mk 0 0 .empty x.args) (r-1-(x.name.size:Int).tdiv 8) 64;rw[show (Tm.mk 0 0 .empty x.args).args=x.args from rfl] at hw;have n:=xt x.name.size
    conv=>whnf
    repeat' (first|(refine gG ?_;refine aW.fn (BK (by omega) (by omega) (by omega) (by omega)) ?_)|refine gC (gD (cI ?_))|refine gW (wI ?_)|refine gL (.map ?_)|refine gN (nS ?_)|refine gI (gM (iE ?_)))<;>conv=>whnf
    refine⟨(j+1,cV x.args (r-1-(x.name.size:Int).tdiv 8) 64),⟨⟨a,?_,he⟩,by simp only;omega⟩,?_⟩
    .simp only;omega
    .exact aN
   .rw [vG _ (by omega)] at he
    conv=>whnf
    repeat' (first|(refine gC ?_;(refine gD ?_;first|refine cI ?_|refine cJ ?_))|refine gL (.map ?_)|refine ag.nrm ?_)<;>conv=>whnf
    rw[<-he];simp;omega
  .have f:j=l.length:=by omega
   subst f;rw[<-e,zj,cL] at he
   conv=>whnf
   repeat' (first|(refine gC ?_;first|refine cN ?_|refine gD (cJ ?_))|refine gL (.map ?_)|refine ag.nrm ?_)<;>conv=>whnf
   rw[<-he]
def gr1(n:Nat)(most:Int)(r:Rl):Bool:=decide (most<n)||(decide (most<(r.name.size:Int).tdiv 8+r.keep.length+r.remove.length)||(cL (r.keep.map at2) most||(cL (r.remove.map at2) most||(cL (r.guard.map gl2) most||cL (r.body.map gl2) most))))
theorem xg{l:List Rl}{most:Int}(o:0<=most)(d:most<=100000):Fun Tryz.prog 119 [slA Rl.av l,.int .i64 most] (.bool (l.any (gr1 l.length most))):=by
 refine Fun.assume rfl λg=>?_;have c:=aS (g (slA Rl.av l) (by simp))
 have m:=c.1;refine Fun.of (fF (by simp) ?_) rfl rfl
 conv=>whnf
 skip;refine ax.count (fb:=true) (l.length) (λe j=>e.bD [(5,.int .i64 j)]) (λj=>∀i x,i<j->l[i]? =some x->gr1 l.length most x=false) ?_ ?_ (λj k b=>?_) (λb=>?_)
 .exact ch
 .exact aN
 .obtain ⟨y,f⟩:∃y,l[j]? =some y:=⟨_,zA k⟩;have h:=Rl.good (c.2 y (zE f));have n:=xt y.name.size
  conv=>whnf
  repeat' (first|(refine gF ?_;first|refine ae.fn (oY (l:=y.keep) (most:=most) (by omega) d) ?_|refine ae.fn (oY (l:=y.remove) (most:=most) (by omega) d) ?_|refine ae.fn (oX (l:=y.guard) (most:=most) (by omega) d) ?_|refine ae.fn (oX (l:=y.body) (most:=most) (by omega) d) ?_)|(refine gC ?_;first|refine cY ?_|(refine gD ?_;first|refine cI ?_|refine cJ ?_)|refine cYa ?_|refine cNa ?_|refine ak.lt (λa=>?_) (λa=>?_)|refine ak.any (λa=>?_) (λa=>?_))|refine gW (wI ?_)|refine gL (.map ?_)|refine gN (nS ?_)|refine gI (gM (iE ?_))|refine ag.nrm ?_)<;>conv=>whnf
  all_goals try (rw[n9 f (by simp only[gr1,ZM,decide_eq_true_eq];first|exact .inl a|exact .inr (.inl a)|exact .inr (.inr (.inl a))|exact .inr (.inr (.inr (.inl a)))|exact .inr (.inr (.inr (.inr (.inl a))))|exact .inr (.inr (.inr (.inr (.inr a)))))];done)
  .refine ⟨bM b f (by simp only[gr1,Bool.or_eq_false_iff,decide_eq_false_iff_not];refine⟨by omega,by omega,?_,?_,?_,?_⟩<;>assumption),?_⟩
   refine al.atC 0 ?_ rfl rfl rfl rfl (by first|rfl|(repeat' (first|rfl|refine ao (row_allI _ _ _) ?_|refine ao (az _ _ _) ?_|refine bLtMp ?_|refine aE ?_|refine bLtCells rfl ?_)))
   conv=>whnf
   refine And.intro ?_ ?_<;>conv=>whnf
   all_goals repeat' (first|(refine gV ?_;first|refine vE ?_|refine vI ?_)|exact True.intro)<;>conv=>whnf
 .conv=>whnf
  repeat' (first|refine gC (gD (cJ ?_))|refine gL (.map ?_)|refine ag.nrm ?_)<;>conv=>whnf
  rw[ss b]
def ow(p:Pg)(most:Int):Bool:=decide ((60:Int)<p.decls.length)||(decide ((60:Int)<p.rules.length)||((p.decls.any λd=>decide (200<d.name.size))||p.rules.any (gr1 p.rules.length most)))
theorem Fx{p:Pg}{most:Int}(k:0<=most)(h:most<=100000):Fun Tryz.prog 64 [p.av,.int .i64 most] (.bool (ow p most)):=by
 refine Fun.of (kd (by simp) ?_) rfl rfl
 conv=>whnf
 repeat' (first|(refine gC ?_;first|refine cY ?_|(refine gD ?_;first|refine cI ?_|refine cJ ?_)|refine ak.lt (λb=>?_) (λb=>?_))|refine gL (.map ?_)|refine ag.nrm ?_)<;>conv=>whnf
 .rw [ow,decide_eq_true b];rfl
 .rw [ow,decide_eq_true b];simp
 .have e:ow p most=((p.decls.any λd=>decide (200<d.name.size))||p.rules.any (gr1 p.rules.length most)):=by
   rw[ow,decide_eq_false (by omega),decide_eq_false (by omega)];rfl
  rw[e];refine ax.count (fb:=true) (p.decls.length) (λc j=>c.bD [(5,.int .i64 j)]) (λj=>∀i x,i<j->p.decls[i]? =some x->decide (200<x.name.size)=false) ?_ ?_ (λj g a=>?_) (λa=>?_)
  .exact ch
  .exact aN
  .obtain ⟨y,f⟩:∃y,p.decls[j]? =some y:=⟨_,zA g⟩
   conv=>whnf
   repeat' (first|(refine gC ?_;first|refine gD (cI ?_)|refine ak.lt (λb=>?_) (λb=>?_))|refine gW (wI ?_)|refine gL (.map ?_)|refine gI (gM (iE ?_))|refine ag.nrm ?_)<;>conv=>whnf
   .rw [n9 f (by simp;omega)];rfl
   .refine ⟨bM a f (by simp;omega),?_⟩
    exact aN
  .conv=>whnf
   repeat' (first|refine gF (ae.fn (xg k h) ?_)|refine gC (gD (cJ ?_))|refine gL (.map ?_)|refine ag.nrm ?_)<;>conv=>whnf
   rw[ss a,Bool.false_or]
def lX(x:Pl):Bool:=decide ((8:Int)<x.order.length)||(decide ((8:Int)<x.known.length)||x.known.any λl=>decide ((20:Int)<l.length))
def dv(p:Pg)(plans:List Pl):Bool:=ow p 150||(decide ((10:Int)<p.rules.length)||(decide ((30:Int)<plans.length)||((p.rules.any λr=>decide ((8:Int)<r.keep.length+r.remove.length))||plans.any lX)))
theorem Fw{p:Pg}{plans:List Pl}:Fun Tryz.prog 20 [p.av,slA Pl.av plans] (.bool (dv p plans)):=by
 refine Fun.assume rfl λg=>?_;have m:=Pg.good (g p.av (by simp))
 refine Fun.of (ky (by simp) ?_) rfl rfl
 conv=>whnf
 have t:=(aS (g (slA Pl.av plans) (by simp))).2
 conv=>whnf
 repeat' (first|(refine gF ?_;refine ae.fn (Fx (p:=p) (most:=150) (by omega) (by omega)) ?_)|(refine gC ?_;first|refine cY ?_|(refine gD ?_;first|refine cI ?_|refine cJ ?_)|refine cYa ?_|refine cNa ?_|refine ak.lt (λa=>?_) (λa=>?_)|refine ak.any (λa=>?_) (λa=>?_))|refine gL (.map ?_)|refine ag.nrm ?_)<;>conv=>whnf
 .rw [dv,a];rfl
 .rw [dv,decide_eq_true a];simp
 .rw [dv,decide_eq_true a];simp
 .rename_i q v
  have e:dv p plans=((p.rules.any λr=>decide ((8:Int)<r.keep.length+r.remove.length))||plans.any lX):=by
   rw[dv,q,decide_eq_false (by omega),decide_eq_false (by omega)];rfl
  rw[e];refine ax.count (fb:=true) (p.rules.length) (λc j=>c.bD [(5,.int .i64 j)]) (λj=>∀i x,i<j->p.rules[i]? =some x->decide ((8:Int)<x.keep.length+x.remove.length)=false) ?_ ?_ (λj h b=>?_) (λb=>?_)
  .exact ch
  .exact aN
  .obtain ⟨y,d⟩:∃y,p.rules[j]? =some y:=⟨_,zA h⟩;have s:=Rl.good (m.2.2 y (zE d))
   conv=>whnf
   repeat' (first|(refine gC ?_;first|refine gD (cI ?_)|refine ak.lt (λa=>?_) (λa=>?_))|refine gW (wI ?_)|refine gL (.map ?_)|refine gI (gM (iE ?_))|refine ag.nrm ?_)<;>conv=>whnf
   .rw [n9 d (decide_eq_true a)];rfl
   .refine ⟨bM b d (decide_eq_false (by omega)),?_⟩
    exact aN
  .rw [ss b,Bool.false_or]
   conv=>whnf
   repeat' (first|refine gC (gD (cJ ?_))|refine gL (.map ?_))<;>conv=>whnf
   refine ax.count (fb:=true) (plans.length) (λc j=>c.bD [(6,.int .i64 j)]) (λj=>∀i x,i<j->plans[i]? =some x->lX x=false) ?_ ?_ (λj h b=>?_) (λb=>?_)
   .exact ch
   .exact aN
   .obtain ⟨y,d⟩:∃y,plans[j]? =some y:=⟨_,zA h⟩
    conv=>whnf
    repeat' (first|(refine gC ?_;first|refine cY ?_|(refine gD ?_;first|refine cI ?_|refine cJ ?_)|refine ak.lt (λa=>?_) (λa=>?_))|refine gL (.map ?_)|refine gI (gM (iE ?_))|refine ag.nrm ?_)<;>conv=>whnf
    .rw [n9 d (by rw[lX,decide_eq_true a];rfl)]
    .rw [n9 d (by rw[lX,decide_eq_true a];simp)]
    .rename_i u
     have o:lX y=y.known.any λl=>decide ((20:Int)<l.length):=by
      rw[lX,decide_eq_false (by omega),decide_eq_false (by omega)];rfl
     refine ax.count (fb:=true) (y.known.length) (λc k=>c.bD [(7,.int .i64 k)]) (λk=>∀i x,i<k->y.known[i]? =some x->decide ((20:Int)<x.length)=false) ?_ ?_ (λk hk f=>?_) (λf=>?_)
     .exact ch
     .exact aN
     .obtain ⟨z,n⟩:∃z,y.known[k]? =some z:=⟨_,zA hk⟩
      conv=>whnf
      repeat' (first|(refine gC ?_;first|refine gD (cI ?_)|refine ak.lt (λa=>?_) (λa=>?_))|refine gW (wI ?_)|refine gL (.map ?_)|refine gI (gM (iE ?_))|refine ag.nrm ?_)<;>conv=>whnf
      .rw [n9 d (by rw[o,n9 n (decide_eq_true a)])]
      .refine ⟨bM f n (decide_eq_false (by omega)),?_⟩
       exact aN
     .conv=>whnf
      repeat' (first|refine gC (gD (cJ ?_))|refine gW (wI ?_)|refine gL (.map ?_)|refine gI (gM (iE ?_)))<;>conv=>whnf
      refine⟨bM b d (by rw[o,ss f]),?_⟩
      exact aN
   .conv=>whnf
    repeat' (first|refine gC (gD (cJ ?_))|refine gL (.map ?_)|refine ag.nrm ?_)<;>conv=>whnf
    rw[ss b]
theorem LA{l:List Tm}{t:Tm}(h:t∈l):t.vs.length<=(Tm.vss l).length:=by
 obtain⟨j,a,rfl⟩:=Zq h;rw[Tm.kH (zA a)];simp only[zC];omega
end Go.CK
namespace Go.CK
open Go.AM Go.Proofs
def Rl.wh(r:Rl):AV:=.agg [.str r.name,.sl .no (r.keep.map At.av),.sl .no (r.remove.map At.av),.sl .no (r.guard.map Gl.av),.sl .no (r.body.map Gl.av),.int .i64 r.vars,.sl .no (r.ai.map At.av)]
theorem Mt{r:Rl}{k:Int}(h:0<=k/\k<r.ai.length):Fun Tryz.prog 205 [r.wh,.int .i64 k] (.bool true):=by
 refine Fun.of (la (by simp) ?_) rfl rfl
 conv=>whnf
 repeat' (first|refine gC (gD (cI ?_))|refine gL (.map ?_)|refine ag.nrm ?_)<;>conv=>whnf
 rw[decide_eq_true h.2]
theorem NU{r:Rl}{k:Int}(h:¬(0<=k/\k<r.ai.length)):Fun Tryz.prog 205 [r.wh,.int .i64 k] (.bool false):=by
 refine Fun.of (la (by simp) ?_) rfl rfl
 conv=>whnf
 repeat' (first|(refine gC ?_;first|(refine gD ?_;first|refine cI ?_|refine cJ ?_)|refine ak.le (λa=>?_) (λa=>?_))|refine gL (.map ?_)|refine ag.nrm ?_)<;>conv=>whnf
 rw[decide_eq_false (by omega)]
theorem EE{r:Rl}{k:Int}:Fun Tryz.prog 180 [r.wh,.int .i64 k] (.bool (decide ((r.keep.length:Int)<=k))):=by
 refine Fun.of (nx (by simp) ?_) rfl rfl
 conv=>whnf
 repeat' (first|refine gL (.map ?_)|refine ag.nrm ?_)<;>conv=>whnf
set_option maxHeartbeats 1000000 in
theorem CW{r:Rl}{done:List Int}{head:Int}(hr:r.ok)(K:done.length<=100000)(H:0<=head)(G:head<r.ai.length):Fun Tryz.prog 178 [r.wh,slA aG done,.int .i64 head] (slA aG (a8 r done head)):=by
 have F:r.ai.length<=1000:=by rw[Rl.bG];exact hr.1
 obtain⟨h,C⟩:∃h,r.ai[head.toNat]? =some h:=⟨_,zA (by omega)⟩
 have A:=hr.2 h (zE C);rw[a8,if_neg (by omega),C]
 refine Fun.of (pw (by simp) ?_) rfl rfl
 conv=>whnf
 repeat' refine gL (.map ?_)<;>conv=>whnf
 refine ax.count (fb:=true) done.length (λa j=>⟨(a.bD [(22,.int .i64 j)]).env,[.cells [.str r.name,.sl .no (r.keep.map At.av),.sl .no (r.remove.map At.av),.sl .no (r.guard.map Gl.av),.sl .no (r.body.map Gl.av),.int .i64 r.vars,.sl .no (r.ai.map At.av)],.mp (dX (.agg []) (kvs r.ai (done.take j)))],0⟩) (λ_=>True) trivial ?_ (λj z _=>?_) (λ_=>?_)
 .refine al.at_ ?_ rfl
  conv=>whnf
  refine And.intro ?_ ?_<;>conv=>whnf
  all_goals repeat' (first|(refine gV ?_;first|refine vE ?_|refine vI ?_)|(refine gX ?_;first|refine xB ?_|(refine BxN.mk ?_ ?_;(focus (simp[AV.norm,AV.ay,dX,kvs];done))))|exact True.intro)<;>conv=>whnf
 .obtain ⟨k,hk⟩:∃k,done[j]? =some k:=⟨_,zA z⟩
  by_cases s:0<=k/\k<r.ai.length
  .obtain ⟨g,n⟩:∃g,r.ai[k.toNat]? =some g:=⟨_,zA (by omega)⟩
   have B:=(hr.2 g (zE n)).2.1;have c:=Bc hk s.1 n
   have I:(aV (Tm.vss g.args)).length<=100000:=by
    have:=cU (Tm.vss g.args) [];simp only[ZP] at this;unfold aV;omega
   conv=>whnf
   repeat' (first|(refine gF ?_;first|refine ae.fn (Mt s) ?_|refine ae.fn (n5 (x:=g) B) ?_)|(refine gC ?_;first|refine cY ?_|refine gD (cI ?_))|refine gL (.map ?_)|(refine gI ?_;(refine gM ?_;first|refine iE ?_|refine iF ?_)))<;>conv=>whnf
   generalize aV (Tm.vss g.args)=vs at*;refine ax.count (fb:=true) vs.length (λa m=>⟨(a.bD [(36,.int .i64 m)]).env,[.cells [.str r.name,.sl .no (r.keep.map At.av),.sl .no (r.remove.map At.av),.sl .no (r.guard.map Gl.av),.sl .no (r.body.map Gl.av),.int .i64 r.vars,.sl .no (r.ai.map At.av)],.mp (dX (.agg []) (kvs r.ai (done.take j)++vs.take m))],0⟩) (λ_=>True) trivial ?_ (λm hm _=>?_) (λ_=>?_)
   .refine al.at_ ?_ rfl
    conv=>whnf
    refine And.intro ?_ ?_<;>conv=>whnf
    all_goals repeat' (first|(refine gV ?_;first|refine vE ?_|refine vI ?_)|(refine gX ?_;first|refine xB ?_|(refine BxN.mk ?_ ?_;(focus (simp[AV.norm,AV.ay,];done))))|exact True.intro)<;>conv=>whnf
   .obtain ⟨y,f⟩:∃y,vs[m]? =some y:=⟨_,zA hm⟩
    have hs:vs.take (m+1)=vs.take m++[y]:=by
     rw[List.take_succ_eq_append_getElem hm,(zB.1 f).2]
    conv=>whnf
    repeat' (first|refine gC (gD (cI ?_))|refine gW (wI ?_)|refine gN (nS ?_)|refine gI (gM (iE ?_))|refine gMp (mA ?_))<;>conv=>whnf
    refine⟨trivial,?_⟩;refine al.at_ ?_ rfl
    conv=>whnf
    refine And.intro ?_ ?_<;>conv=>whnf
    all_goals repeat' (first|(refine gV ?_;first|refine vE ?_|refine vI ?_)|refine gX (xB ?_)|exact True.intro)<;>conv=>whnf
    refine BxN.mk ?_ True.intro;show iW _ y (.agg [])=_;rw[hs,<-zg,qv]
   .rw [zz,<-c]
    conv=>whnf
    repeat' (first|refine gC (gD (cJ ?_))|refine gW (wI ?_)|fail)<;>conv=>whnf
    refine⟨trivial,?_⟩;exact aN
  .have c:=Fe (hs:=r.ai) hk (by omega)
   conv=>whnf
   repeat' (first|refine gF (ae.fn (NU s) ?_)|(refine gC ?_;first|refine cN ?_|refine gD (cI ?_))|refine gW (wI ?_)|refine gI (gM (iE ?_)))<;>conv=>whnf
   refine⟨trivial,?_⟩;refine al.at_ ?_ rfl
   conv=>whnf
   refine And.intro ?_ ?_<;>conv=>whnf
   all_goals repeat' (first|(refine gV ?_;first|refine vE ?_|refine vI ?_)|(refine gX ?_;first|refine xB ?_|(refine BxN.mk ?_ ?_;(focus (simp[AV.norm,AV.ay,c];done))))|exact True.intro)<;>conv=>whnf
 .rw [zz]
  conv=>whnf
  repeat' (first|refine gC (gD (cJ ?_))|refine gL (.map ?_)|refine gI (gM (iF ?_)))<;>conv=>whnf
  obtain⟨p,hp⟩:∃p,p=yv (kvs r.ai done):=⟨_,rfl⟩;rw[<-hp];refine ax.count (fb:=true) h.args.length (λa j=>a.bD [(12,.sl (.own 1) ((bz p h.args j).map aG)),(52,.int .i64 j)]) (λ_=>True) trivial ?_ (λj z _=>?_) (λ_=>?_)
  .refine al.at_ ?_ rfl
   conv=>whnf
   refine And.intro ?_ ?_<;>conv=>whnf
   all_goals repeat' (first|(refine gV ?_;first|refine vE ?_|refine vI ?_|((refine gK ?_;refine vD ?_ ?_);(focus (simp[AV.norm,AV.ay,bz];done))))|refine gX (xB ?_)|exact True.intro)<;>conv=>whnf
  .obtain ⟨t,w⟩:∃t,h.args[j]? =some t:=⟨_,zA z⟩;have u:=A.2.2 t (zE w);have E:=ee p h.args j
   conv=>whnf
   repeat' (first|(refine gF ?_;refine ae.fn (Gd (t:=t) u) ?_)|refine gC (gD (cI ?_))|refine gL (.map ?_)|refine gI (gT (iA ?_)))<;>conv=>whnf
   have D:(aV t.vs).length<=100000:=by
    have:=cU t.vs [];simp only[ZP] at this;unfold aV;omega
   have l:((aV t.vs).all λv=>decide (v∈kvs r.ai done))=p t:=by rw[hp];rfl
   generalize aV t.vs=vs at*;refine ax.count (fb:=true) (vs.length) (λa m=>a.bD [(60,.int .i64 m)]) (λm=>∀i x,i<m->vs[i]? =some x->x∈kvs r.ai done) ?_ ?_ (λm hm d=>?_) (λd=>?_)
   .exact λi x o=>by omega
   .exact aN
   .obtain ⟨y,f⟩:∃y,vs[m]? =some y:=⟨_,zA hm⟩
    conv=>whnf
    repeat' (first|(refine gC ?_;first|refine cY ?_|refine cN ?_|refine .not ?_|refine gD (cI ?_))|refine gW (wI ?_)|refine gI (gM (iE ?_))|refine gMp (mA ?_)|(refine gMs ?_;refine mS (λJ=>?_) (λJ=>?_)))<;>conv=>whnf
    .refine ⟨λi x o q=>?_,?_⟩
     .by_cases e:i=m
      .subst e;rw[f] at q;cases q;assumption
      .exact d i x (by omega) q
     .refine al.atC 3 ?_ rfl rfl rfl rfl (by first|rfl|(repeat' (first|rfl|refine ao (row_allI _ _ _) ?_|refine ao (az _ _ _) ?_|refine bLtMp ?_|refine aE ?_|refine bLtCells rfl ?_)))
      conv=>whnf
      refine And.intro ?_ ?_<;>conv=>whnf
      all_goals repeat' (first|(refine gV ?_;first|refine vE ?_|refine vI ?_)|refine gX (xB ?_)|exact True.intro)<;>conv=>whnf
    .have b:p t=false:=by
      rw[<-l,List.all_eq_false];exact⟨y,zE f,by simpa using(by assumption:¬y∈kvs r.ai done)⟩
     have hs:=uI w b;refine⟨trivial,?_⟩;refine al.atC 2 ?_ rfl rfl rfl rfl (by first|rfl|(repeat' (first|rfl|refine ao (row_allI _ _ _) ?_|refine ao (az _ _ _) ?_|refine bLtMp ?_|refine aE ?_|refine bLtCells rfl ?_)))
     conv=>whnf
     refine And.intro ?_ ?_<;>conv=>whnf
     all_goals repeat' (first|(refine gV ?_;first|refine vE ?_|refine vI ?_|(refine WkN.sl ?_ ?_;(focus (simp[AV.norm,AV.ay,hs];done))))|refine gX (xB ?_)|exact True.intro)<;>conv=>whnf
   .have b:p t=true:=by
     rw[<-l,zS];intro y f;obtain⟨i,o,rfl⟩:=ZZ.1 f;exact decide_eq_true (d i _ o (zA o))
    have hs:=sK w b
    conv=>whnf
    repeat' (first|refine gC (gD (cJ ?_))|refine gW (wI ?_)|refine gN (nS ?_))<;>conv=>whnf
    refine⟨trivial,?_⟩;refine al.atC 2 ?_ rfl rfl rfl rfl (by first|rfl|(repeat' (first|rfl|refine ao (row_allI _ _ _) ?_|refine ao (az _ _ _) ?_|refine bLtMp ?_|refine aE ?_|refine bLtCells rfl ?_)))
    conv=>whnf
    refine And.intro ?_ ?_<;>conv=>whnf
    all_goals repeat' (first|(refine gV ?_;first|refine vE ?_|refine vI ?_|(refine WkN.sl ?_ ?_;(focus (simp[AV.norm,AV.ay,hs];done))))|refine gX (xB ?_)|exact True.intro)<;>conv=>whnf
  .conv=>whnf
   repeat' (first|refine gC (gD (cJ ?_))|refine ag.nrm ?_)<;>conv=>whnf
end Go.CK
namespace Go.CK
open Go.AM Go.Proofs
theorem CL{bs:List Box}{c:Nat}{xs:List Int}{v:Int}(hp:aa bs c=some [slA aG xs]):AM.Sem Tryz.prog 206 [.int .i64 v,.ptr c 0] bs λr bs'=>r=.bool (!decide (v∈xs))/\bs'=bs:=by
 refine oL (by simp) ?_
 conv=>whnf
 skip;refine gi.of hp ?_
 conv=>whnf
 repeat' (refine gF ?_;refine ae.fn (s0 (l:=xs) (n:=v)) ?_)<;>conv=>whnf
 exact ag.slot ⟨rfl,rfl⟩
theorem tA{bs:List Box}{c:Nat}{xs l:List Int}(hp:aa bs c=some [slA aG xs]):AM.Sem Tryz.prog 109 [slA aG l,.fn (.func 206) [] [.ptr c 0]] bs λr bs'=>r=.int .i64 (eV (λv=>!decide (v∈xs)) l)/\bs'=bs:=by
 refine Sem.assume λb _=>?_;have h:=(aS (b (slA aG l) (by simp) rfl)).1
 refine cR (by simp) ?_
 conv=>whnf
 repeat' refine gL (.map ?_)<;>conv=>whnf
 refine ax.count (fb:=false) l.length (λf j=>⟨[(0,slA aG l),(1,.fn (.func 206) [] [.ptr c 0]),(7,.int .i64 l.length),(8,.int .i64 j)],bs,bs.length⟩) (λj=>∀i x,i<j->l[i]? =some x->(!decide (x∈xs))=false) ch ?_ (λj g a=>?_) (λa=>?_)
 .refine al.atS ?_ rfl rfl
  conv=>whnf
  repeat' (first|(refine gV ?_;first|refine vE ?_|refine vI ?_)|exact True.intro)<;>conv=>whnf
 .obtain ⟨y,e⟩:∃y,l[j]? =some y:=⟨_,zA g⟩
  conv=>whnf
  repeat' (first|refine gC (gD (cI ?_))|refine gI (gM (iE ?_))|refine gH (hB ?_))<;>conv=>whnf
  refine ae.raw (CL hp) ?_;rintro r bs' ⟨rfl,rfl⟩
  conv=>whnf
  repeat' (first|(refine gC ?_;first|refine .not ?_|refine ak.dec (λd=>?_) (λd=>?_))|refine gW (wI ?_)|fail)<;>conv=>whnf
  .refine ⟨bM a e (by rw[decide_eq_true d];rfl),?_⟩
   refine al.atS ?_ rfl rfl
   conv=>whnf
   repeat' (first|(refine gV ?_;first|refine vE ?_|refine vI ?_)|exact True.intro)<;>conv=>whnf
  .refine ag.slot ⟨?_,rfl⟩;rw[fN a e (by rw[decide_eq_false d];rfl)];rfl
 .conv=>whnf
  repeat' refine gC (gD (cJ ?_))<;>conv=>whnf
  refine ag.slot ⟨?_,rfl⟩;rw[jc a];rfl
theorem pL{bs:List Box}{c:Nat}{xs l:List Int}(hp:aa bs c=some [slA aG xs]):AM.Sem Tryz.prog 72 [slA aG l,.fn (.func 206) [] [.ptr c 0]] bs λr bs'=>r=.bool (!l.all λv=>decide (v∈xs))/\bs'=bs:=by
 rw[show (!l.all λv=>decide (v∈xs))=l.any λv=>!decide (v∈xs) by rw[List.all_eq_not_any_not,Bool.not_not],<-fh]
 refine cd (by simp) ?_
 conv=>whnf
 skip;refine ae.raw (tA hp) ?_;rintro r bs' ⟨rfl,rfl⟩
 conv=>whnf
 skip;exact ag.slot ⟨rfl,rfl⟩
def xZ(name:ByteArray)(ps:List Int)(k:Ky):Bool:=decide (k.name=name)&&k.positions.all λv=>decide (v∈ps)
def BM(keys:List Ky)(name:ByteArray)(ps:List Int):Bool:=keys.any (xZ name ps)
theorem BC{α:Type}{p:α->Bool}{l:List α}(h:∀i x,i<l.length->l[i]? =some x->p x=false):l.any p=false:=by
 rw[List.any_eq_false];intro x b;obtain⟨i,a,rfl⟩:=ZZ.1 b;rw[h i _ a (zA a)];simp
theorem Ho{keys:List Ky}{name:ByteArray}{ps:List Int}(hk:keys.length<=100000):Fun Tryz.prog 179 [slA Ky.av keys,.str name,slA aG ps] (.bool (BM keys name ps)):=by
 refine Fun.of (rM (by simp) ?_) rfl rfl
 conv=>whnf
 repeat' refine gL (.map ?_)<;>conv=>whnf
 refine ax.count (fb:=true) (keys.length) (λb j=>b.bD [(12,.int .i64 j)]) (λj=>∀i x,i<j->keys[i]? =some x->xZ name ps x=false) ?_ ?_ (λj d a=>?_) (λa=>?_)
 .exact ch
 .exact aN
 .obtain ⟨k,hk⟩:∃k,keys[j]? =some k:=⟨_,zA d⟩
  conv=>whnf
  repeat' (first|(refine gC ?_;first|refine cN ?_|(refine gD ?_;first|refine cI ?_|refine cJ ?_)|refine ak.dec (λe=>?_) (λe=>?_))|refine gW (wI ?_)|refine gI (gM (iE ?_)))<;>conv=>whnf
  .refine ae.raw (pL (xs:=ps) rfl) ?_;rintro r bs' ⟨rfl,rfl⟩
   cases c:k.positions.all λv=>decide (v∈ps) with
   |true=>
    conv=>whnf
    repeat' (first|(refine gC ?_;first|refine cY ?_|refine .not ?_|refine gD (cI ?_))|refine ag.nrm ?_)<;>conv=>whnf
    have f:xZ name ps k=true:=by simp only[xZ,c,decide_eq_true (by assumption:k.name=name),Bool.and_self]
    rw[show BM keys name ps=true from List.any_eq_true.2 ⟨k,zE hk,f⟩]
   |false=>
    conv=>whnf
    repeat' (first|(refine gC ?_;first|refine cN ?_|refine .not ?_|refine gD (cI ?_))|refine gW (wI ?_)|fail)<;>conv=>whnf
    refine⟨bM a hk (by simp only[xZ,c,Bool.and_false]),?_⟩
    refine al.atC 1 ?_ rfl rfl rfl rfl (by first|rfl|(repeat' (first|rfl|refine ao (row_allI _ _ _) ?_|refine ao (az _ _ _) ?_|refine bLtMp ?_|refine aE ?_|refine bLtCells rfl ?_)))
    conv=>whnf
    refine And.intro ?_ ?_<;>conv=>whnf
    all_goals repeat' (first|(refine gV ?_;first|refine vE ?_|refine vI ?_)|refine gX (xB ?_)|exact True.intro)<;>conv=>whnf
  .refine ⟨bM a hk (by simp only[xZ,decide_eq_false (by assumption:¬k.name=name),zw]),?_⟩
   refine al.atC 1 ?_ rfl rfl rfl rfl (by first|rfl|(repeat' (first|rfl|refine ao (row_allI _ _ _) ?_|refine ao (az _ _ _) ?_|refine bLtMp ?_|refine aE ?_|refine bLtCells rfl ?_)))
   conv=>whnf
   refine And.intro ?_ ?_<;>conv=>whnf
   all_goals repeat' (first|(refine gV ?_;first|refine vE ?_|refine vI ?_)|refine gX (xB ?_)|exact True.intro)<;>conv=>whnf
 .conv=>whnf
  repeat' (first|refine gC (gD (cJ ?_))|refine ag.nrm ?_)<;>conv=>whnf
  rw[show BM keys name ps=false from BC a]
end Go.CK
namespace Go.CK
open Go.AM Go.Proofs
def cW(r:Rl)(keys:List Ky)(done:List Int)(head:Int)(h:At):Int:=
 (if BM keys h.name (a8 r done head) then 100 else 10*((a8 r done head).length:Int))+(if (r.keep.length:Int)<=head then 1 else 0)
theorem JA{r:Rl}{keys:List Ky}{done:List Int}{head:Int}{h:At}(hr:r.ok2)(j:done.length<=100000)(hk:keys.length<=100000)(e:0<=head)(d:head<r.ai.length)(f:r.ai[head.toNat]? =some h):Fun Tryz.prog 128 [r.wh,slA Ky.av keys,slA aG done,.int .i64 head] (.int .i64 (cW r keys done head h)):=by
 have c:=CW hr.ok j e d;have i:r.ai.length<=8:=by rw[Rl.bG];exact hr.1
 have g:(a8 r done head).length<=100000:=by
  rw[a8,if_neg (by omega),f]
  have:=ee (yv (kvs r.ai done)) h.args h.args.length;have:=(hr.2 h (zE f)).1;show (bz _ h.args h.args.length).length<=_;omega
 have hu:=Ho (keys:=keys) (name:=h.name) (ps:=a8 r done head) hk;have b:=EE (r:=r) (k:=head);unfold cW;generalize a8 r done head=ps at*;generalize BM keys h.name ps=u at*
 by_cases a:(r.keep.length:Int)<=head
 .rw [decide_eq_true a] at b;rw[if_pos a]
  cases u with
  |true=>
   refine Fun.of (cE (by simp) ?_) rfl rfl
   conv=>whnf
   repeat' (first|(refine gF ?_;first|refine ae.fn (c) ?_|refine ae.fn (hu) ?_|refine ae.fn (b) ?_)|refine gC (cY ?_)|refine gW (wI ?_)|refine gL (.map ?_)|refine gI (gM (iF ?_))|refine ag.nrm ?_)<;>conv=>whnf
   simp
  |false=>
   refine Fun.of (cE (by simp) ?_) rfl rfl
   conv=>whnf
   repeat' (first|(refine gF ?_;first|refine ae.fn (c) ?_|refine ae.fn (hu) ?_|refine ae.fn (b) ?_)|(refine gC ?_;first|refine cY ?_|refine cN ?_)|refine gW (wI ?_)|refine gL (.map ?_)|refine gI (gM (iF ?_))|refine ag.nrm ?_)<;>conv=>whnf
   simp
 .rw [decide_eq_false a] at b;rw[if_neg a]
  cases u with
  |true=>
   refine Fun.of (cE (by simp) ?_) rfl rfl
   conv=>whnf
   repeat' (first|(refine gF ?_;first|refine ae.fn (c) ?_|refine ae.fn (hu) ?_|refine ae.fn (b) ?_)|(refine gC ?_;first|refine cY ?_|refine cN ?_)|refine gW (wI ?_)|refine gL (.map ?_)|refine gI (gM (iF ?_))|refine ag.nrm ?_)<;>conv=>whnf
   simp
  |false=>
   refine Fun.of (cE (by simp) ?_) rfl rfl
   conv=>whnf
   repeat' (first|(refine gF ?_;first|refine ae.fn (c) ?_|refine ae.fn (hu) ?_|refine ae.fn (b) ?_)|refine gC (cN ?_)|refine gW (wI ?_)|refine gL (.map ?_)|refine gI (gM (iF ?_))|refine ag.nrm ?_)<;>conv=>whnf
   simp
theorem NI{p:Pg}{n:Int}{r:Rl}(d:0<=n)(hr:p.rules[n.toNat]? =some r)(a:r.ok2):Fun Tryz.prog 126 [p.av,.int .i64 n] (.tup [r.wh,.bool true]):=by
 have b:=(zB.1 hr).1;have c:r.keep.length+r.remove.length<=8:=a.1;refine Fun.of (EN (by simp) ?_) rfl rfl
 conv=>whnf
 repeat' (first|(refine gG ?_;refine aW.fn (fM (x:=r) (by omega)) ?_)|refine gC (gD (cJ ?_))|refine gL (.map ?_)|refine gI (gM (iF ?_))|refine ag.nrm ?_)<;>conv=>whnf
 rfl
end Go.CK
namespace Go.CK
open Go.AM Go.Proofs
theorem Be{hs:List At}{done:List Int}{i:Nat}{x:Int}(h:x∈kvs hs (done.take i)):x∈kvs hs done:=by
 have:=qD hs (done.take i) (done.drop i);rw[List.take_append_drop] at this;rw[this];exact ZB _ h
end Go.CK
