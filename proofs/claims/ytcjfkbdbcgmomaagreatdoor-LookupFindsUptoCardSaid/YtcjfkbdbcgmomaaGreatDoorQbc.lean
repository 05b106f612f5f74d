/-
  By an AI agent.
-/
import Derived.Test.YtcjfkbdbcgmomaaGreatDoorQbb
import Derived.Ground.NamesProg
import Derived.Ground.Names2Prog
import Derived.Ground.GgzProg
import Derived.Ground.GgwProg
import Derived.Shelf.Sort.Plain
import Derived.Shelf.Slices.In.SortNone
import Derived.Shelf.SlIterI.Sorted
import Derived.Shelf.SlIterI.Collect
import Derived.Shelf.SlIterI.Keys
import Derived.Shelf.GgClosure.StringsIndexFuncTop
import Derived.Shelf.Strings.Search3
import Derived.Shelf.Strings.BuilderF
import Derived.Shelf.Strconv.Itoa3
import Derived.Shelf.Spec.SlicesInsertGrow
import Derived.BigQuiet
import Derived.StillTailTactics
import Derived.Deep.RegionHeld3
import Derived.KernelRfl
set_option linter.unusedSimpArgs false
set_option linter.unusedVariables false
set_option maxRecDepth 100000
namespace Go.CK
open Go.AM Go.Proofs
def At.zero:At:=⟨.empty,[]⟩
def cz(p:Pg)(x:Pl)(k:Int):Option (At×List Int):=
 if k<0\/(x.order.length:Int)<=k\/x.occ.rule<0\/(p.rules.length:Int)<=x.occ.rule then none else match p.rules[x.occ.rule.toNat]? with
 |none=>none
 |some r=>match x.order[k.toNat]? with
  |none=>none
  |some n=>if n<0\/(r.ai.length:Int)<=n then none else match r.ai[n.toNat]? with
   |none=>none
   |some h=>some (h,if k<x.known.length then (x.known[k.toNat]?).getD [] else [])
def i7(p:Pg)(x:Pl)(k:Int):AV:=match cz p x k with
 |some y=>.tup [y.1.av,slA aG y.2,.bool true]
 |none=>.tup [At.zero.av,.sl .no [],.bool false]
theorem Kz{p:Pg}{x:Pl}{k:Int}(h:k<0\/(x.order.length:Int)<=k\/x.occ.rule<0\/(p.rules.length:Int)<=x.occ.rule):i7 p x k=.tup [At.zero.av,.sl .no [],.bool false]:=by rw[i7,cz,if_pos h]
theorem Kx{p:Pg}{x:Pl}{k n:Int}{r:Rl}(h:¬(k<0\/(x.order.length:Int)<=k\/x.occ.rule<0\/(p.rules.length:Int)<=x.occ.rule))(hr:p.rules[x.occ.rule.toNat]? =some r)(a:x.order[k.toNat]? =some n)(b:n<0\/(r.ai.length:Int)<=n):i7 p x k=.tup [At.zero.av,.sl .no [],.bool false]:=by
 rw[i7,cz,if_neg h,hr,a];simp only[if_pos b]
theorem Dd{p:Pg}{x:Pl}{k n:Int}{r:Rl}{g:At}{ps:List Int}(h:¬(k<0\/(x.order.length:Int)<=k\/x.occ.rule<0\/(p.rules.length:Int)<=x.occ.rule))(hr:p.rules[x.occ.rule.toNat]? =some r)(a:x.order[k.toNat]? =some n)(c:¬(n<0\/(r.ai.length:Int)<=n))(b:r.ai[n.toNat]? =some g)(hp:(if k<x.known.length then (x.known[k.toNat]?).getD [] else [])=ps):i7 p x k=.tup [g.av,slA aG ps,.bool true]:=by
 rw[i7,cz,if_neg h,hr,a];simp only[if_neg c,b,hp]
def Pg.ok8(p:Pg):Prop:=∀r∈p.rules,r.keep.length+r.remove.length<=8
theorem Bi{p:Pg}{x:Pl}{k:Int}(hp:p.ok8):Fun Tryz.prog 68 [p.av,x.av,.int .i64 k] (i7 p x k):=by
 by_cases b:k<0\/(x.order.length:Int)<=k\/x.occ.rule<0\/(p.rules.length:Int)<=x.occ.rule
 .rw [Kz b];refine Fun.of (ey (by simp) ?_) rfl rfl
  conv=>whnf
  repeat' (first|(refine gC ?_;first|refine cY ?_|(refine gD ?_;first|refine cI ?_|refine cJ ?_)|refine ak.lt (λa=>?_) (λa=>?_)|refine ak.le (λa=>?_) (λa=>?_))|refine gL (.map ?_)|refine ag.nrm ?_)<;>conv=>whnf
  all_goals first|rfl|(exfalso;omega)
 .obtain ⟨r,hr⟩:∃r,p.rules[x.occ.rule.toNat]? =some r:=⟨_,zA (by omega)⟩
  obtain⟨n,e⟩:∃n,x.order[k.toNat]? =some n:=⟨_,zA (by omega)⟩
  have c:=hp r (zE hr);have j:r.ai.length<=8:=by rw[Rl.bG];exact c
  by_cases f:n<0\/(r.ai.length:Int)<=n
  .rw [Kx b hr e f];refine Fun.of (ey (by simp) ?_) rfl rfl
   conv=>whnf
   repeat' (first|(refine gG ?_;refine aW.fn (fM (x:=r) (by omega)) ?_)|(refine gC ?_;first|refine cY ?_|(refine gD ?_;first|refine cI ?_|refine cJ ?_)|refine ak.lt (λa=>?_) (λa=>?_))|refine gL (.map ?_)|refine gI (gM (iF ?_))|refine ag.nrm ?_)<;>conv=>whnf
   all_goals first|rfl|(exfalso;omega)
  .obtain ⟨g,h⟩:∃g,r.ai[n.toNat]? =some g:=⟨_,zA (by omega)⟩
   by_cases i:k<x.known.length
   .obtain ⟨ps,d⟩:∃ps,x.known[k.toNat]? =some ps:=⟨_,zA (by omega)⟩
    rw[Dd b hr e f h (by rw[if_pos i,d];first|rfl|skip)]
    refine Fun.of (ey (by simp) ?_) rfl rfl
    conv=>whnf
    repeat' (first|(refine gG ?_;refine aW.fn (fM (x:=r) (by omega)) ?_)|(refine gC ?_;(refine gD ?_;first|refine cI ?_|refine cJ ?_))|refine gL (.map ?_)|refine gI (gM (iF ?_))|refine ag.nrm ?_)<;>conv=>whnf
    all_goals first|rfl|(exfalso;omega)
   .rw [Dd b hr e f h (if_neg i)];refine Fun.of (ey (by simp) ?_) rfl rfl
    conv=>whnf
    repeat' (first|(refine gG ?_;refine aW.fn (fM (x:=r) (by omega)) ?_)|refine gC (gD (cJ ?_))|refine gL (.map ?_)|refine gI (gM (iF ?_))|refine ag.nrm ?_)<;>conv=>whnf
    all_goals first|rfl|(exfalso;omega)
def wF(x y:Ac):Bool:=decide (x.name=y.name)&&(decide (x.arity=y.arity)&&decide (x.positions=y.positions))
def jj(a:At)(ps:List Int):Ac:=⟨a.name,a.args.length,ps⟩
def oM(y:Ac)(x:Ac):Bool:=wF x y
theorem KO{a:At}{ps:List Int}{x:Ac}:AM.Sem Tryz.prog 130 [x.av,.ptr 0 0,.ptr 1 0] [.cells [.str a.name,.sl .no (a.args.map Tm.av)],.cells [.sl .no (ps.map aG)]] λr bs'=>r=.bool (oM (jj a ps) x)/\bs'=[.cells [.str a.name,.sl .no (a.args.map Tm.av)],.cells [.sl .no (ps.map aG)]]:=by
 refine rL (by simp) ?_
 conv=>whnf
 repeat' (first|(refine gF ?_;refine ae.fn (ye (a:=x.positions) (b:=ps)) ?_)|(refine gC ?_;first|refine cN ?_|(refine gD ?_;first|refine cI ?_|refine cJ ?_)|refine ak.dec (λc=>?_) (λc=>?_))|refine gL (.map ?_))<;>conv=>whnf
 all_goals refine ag.cut 2 (zG _) (by simp) rfl rfl ?_
 all_goals refine ag.slot ⟨?_,rfl⟩
 all_goals simp[St.get,au,oM,wF,jj, *]
 all_goals rfl
def fbs(a:At)(ps:List Int):List Box:=[.cells [.str a.name,.sl .no (a.args.map Tm.av)],.cells [.sl .no (ps.map aG)]]
theorem Fp{a:At}{ps:List Int}{l:List Ac}:AM.Sem Tryz.prog 94 [slA Ac.av l,.fn (.func 130) [] [.ptr 0 0,.ptr 1 0]] (fbs a ps) λr bs'=>r=.int .i64 (eV (oM (jj a ps)) l)/\bs'=fbs a ps:=by
 unfold fbs;refine Sem.assume λd _=>?_;have h:=(aS (d (slA Ac.av l) (by simp) rfl)).1
 refine bE (by simp) ?_
 conv=>whnf
 repeat' refine gL (.map ?_)<;>conv=>whnf
 refine ax.count (fb:=true) (l.length) (λc j=>c.bD [(8,.int .i64 j)]) (λj=>∀i x,i<j->l[i]? =some x->oM (jj a ps) x=false) ?_ ?_ (λj g b=>?_) (λb=>?_)
 .exact ch
 .exact aN
 .obtain ⟨y,f⟩:∃y,l[j]? =some y:=⟨_,zA g⟩
  conv=>whnf
  repeat' (first|refine gC (gD (cI ?_))|refine gI (gM (iE ?_))|refine gH (hB ?_))<;>conv=>whnf
  refine ae.raw (KO (a:=a) (ps:=ps) (x:=y)) ?_;rintro r bs' ⟨rfl,rfl⟩
  conv=>whnf
  repeat' (first|(refine gC ?_;refine ak.any (λe=>?_) (λe=>?_))|refine gW (wI ?_)|fail)<;>conv=>whnf
  .refine ag.slot ⟨?_,rfl⟩;rw[fN b f e];rfl
  .refine ⟨bM b f e,?_⟩;exact aN
 .conv=>whnf
  repeat' refine gC (gD (cJ ?_))<;>conv=>whnf
  refine ag.slot ⟨?_,rfl⟩;rw[jc b];rfl
theorem xV{l:List Ac}{a:At}{ps:List Int}:Fun Tryz.prog 69 [slA Ac.av l,a.av,slA aG ps] (.int .i64 (eV (oM (jj a ps)) l)):=by
 refine Fun.of (uR (by simp) ?_) rfl rfl
 conv=>whnf
 skip;refine ae.raw (Fp (a:=a) (ps:=ps) (l:=l)) ?_;rintro r bs' ⟨rfl,rfl⟩
 conv=>whnf
 skip;exact ag.slot rfl
theorem Ed(x:Ac):wF x x=true:=by simp[wF]
def ji(p:Pg)(x:Pl)(out:List Ac)(k:Int):List Ac:=match cz p x k with
 |some y=>if eV (oM (jj y.1 y.2)) out<0 then out++[jj y.1 y.2] else out
 |none=>out
def my(p:Pg)(x:Pl)(out:List Ac):Nat->List Ac
 |0=>out
 |k+1=>ji p x (my p x out k) k
def jg(p:Pg)(plans:List Pl):Nat->List Ac
 |0=>[]
 |j+1=>match plans[j]? with
  |some x=>my p x (jg p plans j) x.order.length
  |none=>jg p plans j
theorem F5(p:Pg)(x:Pl)(out:List Ac)(k:Int):(ji p x out k).length<=out.length+1:=by
 unfold ji;split
 .split<;>simp
 .omega
theorem wA(p:Pg)(x:Pl)(out:List Ac):∀k,(my p x out k).length<=out.length+k
 |0=>zG _
 |k+1=>by
  have b:=wA p x out k;have a:=F5 p x (my p x out k) k;rw[my];omega
theorem wC{p:Pg}{plans:List Pl}(h:∀x∈plans,x.order.length<=8):∀j,(jg p plans j).length<=8*j
 |0=>zG _
 |j+1=>by
  have d:=wC (p:=p) h j;rw[jg];split
  .rename_i x a;have c:=wA p x (jg p plans j) x.order.length;have b:=h x (zE a);omega
  .omega
def ei(p:Pg)(plans:List Pl):List Ac:=jg p plans plans.length
end Go.CK
namespace Go.CK
open Go.AM Go.Proofs
theorem vF{p:Pg}{x:Pl}{k:Int}(h:cz p x k=none):i7 p x k=.tup [At.zero.av,.sl .no [],.bool false]:=by rw[i7,h]
theorem vA{p:Pg}{x:Pl}{k:Int}{y:At×List Int}(h:cz p x k=some y):i7 p x k=.tup [y.1.av,slA aG y.2,.bool true]:=by rw[i7,h]
theorem CU{p:Pg}{plans:List Pl}(hp:p.ok8)(b:∀x∈plans,x.order.length<=8)(i:plans.length<=1000):Fun Tryz.prog 22 [p.av,slA Pl.av plans] (slA Ac.av (ei p plans)):=by
 unfold ei;have hlen:=wC (p:=p) b;refine Fun.of (w8 (by simp) ?_) rfl rfl
 conv=>whnf
 repeat' refine gL (.map ?_)<;>conv=>whnf
 refine ax.count (fb:=true) plans.length (λa j=>a.bD [(5,.sl (.own 3) ((jg p plans j).map Ac.av)),(14,.int .i64 j)]) (λ_=>True) trivial ?_ (λj n _=>?_) (λ_=>?_)
 .refine al.at_ ?_ rfl
  conv=>whnf
  refine And.intro ?_ ?_<;>conv=>whnf
  all_goals repeat' (first|(refine gV ?_;first|refine vE ?_|refine vI ?_|((refine gK ?_;refine vD ?_ ?_);(focus (simp[AV.norm,AV.ay,jg];done))))|refine gX (xB ?_)|exact True.intro)<;>conv=>whnf
 .obtain ⟨x,f⟩:∃x,plans[j]? =some x:=⟨_,zA n⟩;have h:=b x (zE f);have m:=hlen j;have e:jg p plans (j+1)=my p x (jg p plans j) x.order.length:=by rw[jg,f]
  conv=>whnf
  repeat' (first|refine gC (gD (cI ?_))|refine gL (.map ?_)|refine gI (gM (iE ?_)))<;>conv=>whnf
  refine ax.count (fb:=true) x.order.length (λa k=>a.bD [(5,.sl (.own 3) ((my p x (jg p plans j) k).map Ac.av)),(21,.int .i64 k)]) (λ_=>True) trivial ?_ (λk hk _=>?_) (λ_=>?_)
  .refine al.at_ ?_ rfl
   conv=>whnf
   refine And.intro ?_ ?_<;>conv=>whnf
   all_goals repeat' (first|(refine gV ?_;first|refine vE ?_|refine vI ?_|(refine WkN.sl ?_ ?_;(focus (simp[AV.norm,AV.ay,my];done))))|refine gX (xB ?_)|exact True.intro)<;>conv=>whnf
  .have l:=wA p x (jg p plans j) k;have d:=Bi (p:=p) (x:=x) (k:=(k:Int)) hp
   cases c:cz p x k with
   |none=>
    rw[vF c] at d;have hs:my p x (jg p plans j) (k+1)=my p x (jg p plans j) k:=by rw[my,ji,c]
    conv=>whnf
    repeat' (first|refine gF (ae.fn (d) ?_)|(refine gC ?_;first|refine cN ?_|refine gD (cI ?_))|refine gW (wI ?_)|fail)<;>conv=>whnf
    refine⟨trivial,?_⟩;refine al.atC 2 ?_ rfl rfl rfl rfl (by first|rfl|(repeat' (first|rfl|refine ao (row_allI _ _ _) ?_|refine ao (az _ _ _) ?_|refine bLtMp ?_|refine aE ?_|refine bLtCells rfl ?_)))
    conv=>whnf
    refine And.intro ?_ ?_<;>conv=>whnf
    all_goals repeat' (first|(refine gV ?_;first|refine vE ?_|refine vI ?_|(refine WkN.sl ?_ ?_;(focus (simp[AV.norm,AV.ay,hs];done))))|refine gX (xB ?_)|exact True.intro)<;>conv=>whnf
   |some y=>
    rw[vA c] at d;have hs:my p x (jg p plans j) (k+1)=if eV (oM (jj y.1 y.2)) (my p x (jg p plans j) k)<0 then my p x (jg p plans j) k++[jj y.1 y.2] else my p x (jg p plans j) k:=by rw[my,ji,c]
    conv=>whnf
    repeat' (first|(refine gF ?_;first|refine ae.fn (d) ?_|refine ae.fn (xV) ?_)|(refine gC ?_;first|refine cY ?_|refine gD (cI ?_)|refine ak.lt (λg=>?_) (λg=>?_))|refine gW (wI ?_)|refine gL (.map ?_)|refine gN (nS ?_))<;>conv=>whnf
    .rw [if_pos g] at hs;refine⟨trivial,?_⟩;refine al.atC 2 ?_ rfl rfl rfl rfl (by first|rfl|(repeat' (first|rfl|refine ao (row_allI _ _ _) ?_|refine ao (az _ _ _) ?_|refine bLtMp ?_|refine aE ?_|refine bLtCells rfl ?_)))
     conv=>whnf
     refine And.intro ?_ ?_<;>conv=>whnf
     all_goals repeat' (first|(refine gV ?_;first|refine vE ?_|refine vI ?_|(refine WkN.sl ?_ ?_;(focus (simp[AV.norm,AV.ay,hs,Ac.av,jj];done))))|refine gX (xB ?_)|exact True.intro)<;>conv=>whnf
    .rw [if_neg (by omega)] at hs
     refine⟨trivial,?_⟩;refine al.atC 2 ?_ rfl rfl rfl rfl (by first|rfl|(repeat' (first|rfl|refine ao (row_allI _ _ _) ?_|refine ao (az _ _ _) ?_|refine bLtMp ?_|refine aE ?_|refine bLtCells rfl ?_)))
     conv=>whnf
     refine And.intro ?_ ?_<;>conv=>whnf
     all_goals repeat' (first|(refine gV ?_;first|refine vE ?_|refine vI ?_|(refine WkN.sl ?_ ?_;(focus (simp[AV.norm,AV.ay,hs];done))))|refine gX (xB ?_)|exact True.intro)<;>conv=>whnf
  .rw [<-e]
   conv=>whnf
   repeat' (first|refine gC (gD (cJ ?_))|refine gW (wI ?_)|fail)<;>conv=>whnf
   refine⟨trivial,?_⟩;refine al.atC 1 ?_ rfl rfl rfl rfl (by first|rfl|(repeat' (first|rfl|refine ao (row_allI _ _ _) ?_|refine ao (az _ _ _) ?_|refine bLtMp ?_|refine aE ?_|refine bLtCells rfl ?_)))
   conv=>whnf
   refine And.intro ?_ ?_<;>conv=>whnf
   all_goals repeat' (first|(refine gV ?_;first|refine vE ?_|refine vI ?_)|refine gX (xB ?_)|exact True.intro)<;>conv=>whnf
 .conv=>whnf
  repeat' (first|refine gC (gD (cJ ?_))|refine ag.nrm ?_)<;>conv=>whnf
end Go.CK
namespace Go.CK
open Go.AM Go.Proofs
def sO(p:Pg)(l:List Ac)(x:Pl)(k:Int):Int:=match cz p x k with
 |some y=>eV (oM (jj y.1 y.2)) l
 |none=>-1
theorem AL{p:Pg}{l:List Ac}{x:Pl}{k:Int}(hp:p.ok8):Fun Tryz.prog 23 [p.av,slA Ac.av l,x.av,.int .i64 k] (.int .i64 (sO p l x k)):=by
 have b:=Bi (p:=p) (x:=x) (k:=k) hp
 cases a:cz p x k with
 |none=>
  rw[vF a] at b;rw[sO,a];refine Fun.of (nB (by simp) ?_) rfl rfl
  conv=>whnf
  repeat' (first|refine gF (ae.fn (b) ?_)|refine gC (cN ?_)|refine ag.nrm ?_)<;>conv=>whnf
 |some y=>
  rw[vA a] at b;rw[sO,a];refine Fun.of (nB (by simp) ?_) rfl rfl
  conv=>whnf
  repeat' (first|(refine gF ?_;first|refine ae.fn (b) ?_|refine ae.fn (xV) ?_)|refine gC (cY ?_)|refine ag.nrm ?_)<;>conv=>whnf
def fK(a:List Tm):List Int->List Tm
 |[]=>[]
 |i::r=>(if 0<=i/\i<a.length then (a[i.toNat]?).toList else [])++fK a r
theorem vp(a:List Tm):∀l m,fK a (l++m)=fK a l++fK a m
 |[],m=>rfl
 |x::l,m=>by simp only[ze,fK,vp a l m,zg]
theorem Kg{a:List Tm}{l:List Int}{j:Nat}{i:Int}{t:Tm}(h:l[j]? =some i)(d:0<=i)(c:i<a.length)(b:a[i.toNat]? =some t):fK a (l.take (j+1))=fK a (l.take j)++[t]:=by
 rw[ZC,h,vp];simp only[yK,fK,zy,b,d,c,and_self,if_true]
theorem Ml{a:List Tm}{l:List Int}{j:Nat}{i:Int}(h:l[j]? =some i)(b:¬(0<=i/\i<a.length)):fK a (l.take (j+1))=fK a (l.take j):=by
 rw[ZC,h,vp];simp only[yK,fK,zy,if_neg b]
theorem CX(a:List Tm):∀l,(fK a l).length<=l.length
 |[]=>zG _
 |i::r=>by
  have:=CX a r;simp only[fK,zC,zX];split
  .cases a[i.toNat]?<;>simp<;>omega
  .simp;omega
def CY(p:Pg)(x:Pl)(k:Int):List Tm:=match cz p x k with
 |some y=>fK y.1.args y.2
 |none=>[]
theorem Kf{p:Pg}{x:Pl}{k:Int}(hp:p.ok8)(g:∀y,cz p x k=some y->y.2.length<=100000):Fun Tryz.prog 25 [p.av,x.av,.int .i64 k] (slA Tm.av (CY p x k)):=by
 have e:=Bi (p:=p) (x:=x) (k:=k) hp
 cases d:cz p x k with
 |none=>
  rw[vF d] at e;rw[show CY p x k=[] by rw[CY,d]]
  refine Fun.of (oV (by simp) ?_) rfl rfl
  conv=>whnf
  repeat' (first|refine gF (ae.fn (e) ?_)|refine gL (.nil ?_))<;>conv=>whnf
  refine ax.count (fb:=true) (0) (λb j=>b.bD [(23,.int .i64 j)]) (λj=>True) ?_ ?_ (λj h c=>?_) (λc=>?_)
  .trivial
  .exact aN
  .omega
  .conv=>whnf
   repeat' (first|refine gC (gD (cJ ?_))|refine ag.nrm ?_)<;>conv=>whnf
   rfl
 |some y=>
  have g:=g y d;rw[vA d] at e;rw[show CY p x k=fK y.1.args y.2 by rw[CY,d]]
  have hlen:∀j,(fK y.1.args (y.2.take j)).length<=j:=λj=>ZN (CX _ _) (by rw[zn];omega)
  refine Fun.of (oV (by simp) ?_) rfl rfl
  conv=>whnf
  repeat' (first|refine gF (ae.fn (e) ?_)|refine gL (.map ?_))<;>conv=>whnf
  refine ax.count (fb:=true) (y.2.length) (λb j=>b.bD [(10,.sl (.own 4) ((fK y.1.args (y.2.take j)).map Tm.av)),(23,.int .i64 j)]) (λj=>True) ?_ ?_ (λj h c=>?_) (λc=>?_)
  .trivial
  .refine al.at_ ?_ rfl
   conv=>whnf
   refine And.intro ?_ ?_<;>conv=>whnf
   all_goals repeat' (first|(refine gV ?_;first|refine vE ?_|refine vI ?_|((refine gK ?_;refine vD ?_ ?_);(focus (simp[AV.norm,AV.ay,fK];done))))|refine gX (xB ?_)|exact True.intro)<;>conv=>whnf
  .obtain ⟨i,l⟩:∃i,y.2[j]? =some i:=⟨_,zA h⟩;have n:=hlen j
   by_cases f:0<=i/\i<y.1.args.length
   .obtain ⟨t,m⟩:∃t,y.1.args[i.toNat]? =some t:=⟨_,zA (by omega)⟩
    have hs:=Kg l f.1 f.2 m
    conv=>whnf
    repeat' (first|refine gC (gD (cI ?_))|refine gW (wI ?_)|refine gL (.map ?_)|refine gN (nS ?_)|(refine gI ?_;first|refine gT (iB ?_)|refine gM (iE ?_)))<;>conv=>whnf
    all_goals first|(exfalso;omega)|skip
    refine⟨trivial,?_⟩;refine al.at_ ?_ rfl
    conv=>whnf
    refine And.intro ?_ ?_<;>conv=>whnf
    all_goals repeat' (first|(refine gV ?_;first|refine vE ?_|refine vI ?_|(refine WkN.sl ?_ ?_;(focus (simp[AV.norm,AV.ay,hs,Tm.pM,Tm.avw];done))))|refine gX (xB ?_)|exact True.intro)<;>conv=>whnf
   .have hs:=Ml (a:=y.1.args) l f
    conv=>whnf
    repeat' (first|(refine gC ?_;first|refine cN ?_|(refine gD ?_;first|refine cI ?_|refine cJ ?_)|refine ak.le (λo=>?_) (λo=>?_))|refine gW (wI ?_)|refine gL (.map ?_)|refine gI (gM (iE ?_)))<;>conv=>whnf
    all_goals first|(exfalso;omega)|skip
    .refine ⟨trivial,?_⟩;refine al.at_ ?_ rfl
     conv=>whnf
     refine And.intro ?_ ?_<;>conv=>whnf
     all_goals repeat' (first|(refine gV ?_;first|refine vE ?_|refine vI ?_|(refine WkN.sl ?_ ?_;(focus (simp[AV.norm,AV.ay,hs];done))))|refine gX (xB ?_)|exact True.intro)<;>conv=>whnf
    .refine ⟨trivial,?_⟩;refine al.at_ ?_ rfl
     conv=>whnf
     refine And.intro ?_ ?_<;>conv=>whnf
     all_goals repeat' (first|(refine gV ?_;first|refine vE ?_|refine vI ?_|(refine WkN.sl ?_ ?_;(focus (simp[AV.norm,AV.ay,hs];done))))|refine gX (xB ?_)|exact True.intro)<;>conv=>whnf
  .rw [zz]
   conv=>whnf
   repeat' (first|refine gC (gD (cJ ?_))|refine ag.nrm ?_)<;>conv=>whnf
end Go.CK
namespace Go.CK
open Go.AM Go.Proofs
def tV(n:Int):Tm:=.mk 1 n .empty []
def tI(n:Int):Tm:=.mk 0 n .empty []
theorem Ln{n:Int}:Fun Tryz.prog 59 [.int .i64 n] (.agg [.int .i64 1,.int .i64 n,.str .empty,.sl .no []]):=by
 refine Fun.of (l1 (by simp) ?_) rfl rfl
 conv=>whnf
 repeat' refine ag.nrm ?_<;>conv=>whnf
 rfl
theorem Lt{n:Int}:Fun Tryz.prog 60 [.int .i64 n] (.agg [.int .i64 0,.int .i64 n,.str .empty,.sl .no []]):=by
 refine Fun.of (l3 (by simp) ?_) rfl rfl
 conv=>whnf
 repeat' refine ag.nrm ?_<;>conv=>whnf
 rfl
def lkR:Rl:=⟨.empty,[⟨⟨⟨[112]⟩⟩,[tV 0,tV 1]⟩,⟨⟨⟨[113]⟩⟩,[tV 1,tI 3,tV 2]⟩],[],[],[],3⟩
theorem HH:Fun Tryz.prog 57 [] lkR.av:=by
 refine Fun.of (ll (by simp) ?_) rfl rfl
 conv=>whnf
 repeat' (first|(refine gF ?_;first|refine ae.fn (Ln) ?_|refine ae.fn (Lt) ?_)|refine ag.nrm ?_)<;>conv=>whnf
 simp[lkR,Rl.av,At.av,tV,tI,Tm.pM,Tm.avw,Tm.kind,Tm.num,Tm.name,Tm.args];rfl
def lkP:Pg:=⟨[],[lkR]⟩
def lkX:Pl:=⟨⟨0,0,false⟩,[1],[[0,1]],[]⟩
def lkA:Ac:=⟨⟨⟨[113]⟩⟩,3,[0,1]⟩
theorem NQ:ei lkP [lkX,lkX]=[lkA]:=by rfl
theorem J8:a8 lkR [0] 1=[0,1]:=by rfl
theorem OR:sO lkP [lkA] lkX 0=0:=by rfl
theorem OQ:sO lkP [lkA] lkX 1=-1:=by rfl
theorem NP:CY lkP lkX 0=[tV 1,tI 3]:=by rfl
theorem tJ:lkP.ok8:=λr hr=>by
 simp only[lkP,zp] at hr;subst hr;decide
theorem Mg:lkR.ok2:=by
 refine⟨by decide,λh b=>?_⟩
 simp only[lkR,Rl.ai,zy,zI,yU,or_false] at b;rcases b with rfl|rfl
 .refine ⟨by decide,by decide,λt a=>?_⟩
  simp only[zI,yU,or_false] at a;rcases a with rfl|rfl<;>decide
 .refine ⟨by decide,by decide,λt a=>?_⟩
  simp only[zI,yU,or_false] at a;rcases a with rfl|rfl|rfl<;>decide
theorem H0:Fun Tryz.prog 18 [] (.bool true):=by
 have g:=CU (p:=lkP) (plans:=[lkX,lkX]) tJ (by decide) (by decide)
 rw[NQ] at g;have f:=E7 (r:=lkR) (done:=[0]) (head:=1) Mg.ok (by decide)
 rw[J8] at f;have i:=AL (p:=lkP) (l:=[lkA]) (x:=lkX) (k:=0) tJ;rw[OR] at i;have h:=AL (p:=lkP) (l:=[lkA]) (x:=lkX) (k:=1) tJ;rw[OQ] at h;have c:=Kf (p:=lkP) (x:=lkX) (k:=0) tJ (λy j=>by rw[show cz lkP lkX 0=some (⟨⟨⟨[113]⟩⟩,[tV 1,tI 3,tV 2]⟩,[0,1]) from rfl] at j;cases j;decide)
 rw[NP] at c;have e:=B8 (a:=[0,1]) (b:=[0,1]);have d:=Al (l:=[tV 1,tI 3]) (m:=[tV 1,tI 3]);simp only[Tm.oB,decide_true] at d;simp only[decide_true] at e;simp only[slA,zP,Zb,lkA,lkX,lkP,Ac.av,Pl.av,Pg.av,tV,tI,Tm.pM,Tm.avw,Tm.kind,Tm.num,Tm.name,Tm.args,aG] at g f i h c e d;refine Fun.of (ln (by simp) ?_) rfl rfl
 conv=>whnf
 repeat' (first|(refine gF ?_;first|refine ae.fn (HH) ?_|refine ae.fn (g) ?_|refine ae.fn (f) ?_|refine ae.fn (i) ?_|refine ae.fn (h) ?_|refine ae.fn (c) ?_|refine ae.fn (e) ?_|refine ae.fn (d) ?_|refine ae.fn (Ln) ?_|refine ae.fn (Lt) ?_)|(refine gC ?_;first|refine cY ?_|(refine gD ?_;first|refine cI ?_|refine cIr ?_))|refine gL (.one ?_)|refine gI (iJ ?_)|refine ag.nrm ?_)<;>conv=>whnf
end Go.CK
namespace Go.CK
open Go.AM Go.Proofs
theorem pr(p:Tm->Bool)(l:List Tm):∀j,∀x∈bz p l j,x<(j:Int)
 |0,x,a=>by cases a
 |j+1,x,a=>by
  rw[bz,zY] at a;rcases a with a|a
  .have:=pr p l j x a;omega
  .split at a
   .split at a
    .simp only[zp] at a;omega
    .cases a
   .cases a
theorem sL(p:Tm->Bool)(l:List Tm):∀j,(bz p l j).Pairwise (·<·)
 |0=>.nil
 |j+1=>by
  rw[bz,List.pairwise_append];refine⟨sL p l j,?_,λx b y a=>?_⟩
  .split
   .split
    .exact List.pairwise_singleton _ _
    .exact .nil
   .exact .nil
  .have:=pr p l j x b;split at a
   .split at a
    .simp only[zp] at a;omega
    .cases a
   .cases a
theorem Ff(r:Rl)(done:List Int)(head:Int):(a8 r done head).Pairwise (·<·):=by
 unfold a8;split
 .exact .nil
 .split
  .exact sL _ _ _
  .exact .nil
end Go.CK
namespace Go.Proofs
open Go.Shelf
def Tryz.laysContains_ren:Go.Shelf.Ren:=⟨λ|144=>232|143=>253|219=>259|217=>265|225=>266|224=>267|267=>268|266=>273|314=>274|n=>n,λ|9=>9|4=>4|3=>3|5=>5|46=>223|146=>316|51=>281|n=>n,λ|1=>0|n=>n⟩
theorem Tryz.Ba:Go.Proofs.Lays.n144 Tryz.prog Tryz.laysContains_ren:={
 mixed:=by kernel_rfl,
 f143:=Tryz.func253.trans (congrArg some (by kernel_rfl)),
 f144:=Tryz.func232.trans (congrArg some (by kernel_rfl)),
 f217:=Tryz.func265.trans (congrArg some (by kernel_rfl)),
 f219:=Tryz.func259.trans (congrArg some (by kernel_rfl)),
 f224:=Tryz.func267.trans (congrArg some (by kernel_rfl)),
 f225:=Tryz.func266.trans (congrArg some (by kernel_rfl)),
 f266:=Tryz.func273.trans (congrArg some (by kernel_rfl)),
 f267:=Tryz.func268.trans (congrArg some (by kernel_rfl)),
 f314:=Tryz.func274.trans (congrArg some (by kernel_rfl)),
 t3:=Tryz.underlying3,
 a3:=Tryz.isAgg3,
 z3:=Tryz.sizeOf3,
 v3:=Tryz.zeroValue3,
 t4:=Tryz.underlying4,
 a4:=Tryz.isAgg4,
 z4:=Tryz.sizeOf4,
 v4:=Tryz.zeroValue4,
 t5:=Tryz.underlying5,
 a5:=Tryz.isAgg5,
 z5:=Tryz.sizeOf5,
 v5:=Tryz.zeroValue5,
 t9:=Tryz.underlying9,
 a9:=Tryz.isAgg9,
 z9:=Tryz.sizeOf9,
 v9:=Tryz.zeroValue9,
 t46:=Tryz.underlying223,
 a46:=Tryz.isAgg223,
 z46:=Tryz.sizeOf223,
 v46:=Tryz.zeroValue223,
 t51:=Tryz.underlying281,
 a51:=Tryz.isAgg281,
 z51:=Tryz.sizeOf281,
 v51:=Tryz.zeroValue281,
 t146:=Tryz.underlying316,
 a146:=Tryz.isAgg316,
 z146:=Tryz.sizeOf316,
 v146:=Tryz.zeroValue316,
 g1:=by kernel_rfl}
def Tryz.laysIndexFunc_ren:Go.Shelf.Ren:=⟨λ|15=>196|20=>228|n=>n,λ|9=>9|23=>258|3=>3|4=>4|0=>0|21=>21|n=>n,λ|n=>n⟩
theorem Tryz.xe:Go.Proofs.LaysGw.n15 Tryz.prog Tryz.laysIndexFunc_ren:={
 mixed:=by kernel_rfl,
 f15:=Tryz.func196.trans (congrArg some (by kernel_rfl)),
 f20:=Tryz.func228.trans (congrArg some (by kernel_rfl)),
 t0:=Tryz.underlying0,
 a0:=Tryz.isAgg0,
 z0:=Tryz.sizeOf0,
 v0:=Tryz.zeroValue0,
 i0:=by kernel_rfl,
 t3:=Tryz.underlying3,
 a3:=Tryz.isAgg3,
 z3:=Tryz.sizeOf3,
 v3:=Tryz.zeroValue3,
 i3:=by kernel_rfl,
 t4:=Tryz.underlying4,
 a4:=Tryz.isAgg4,
 z4:=Tryz.sizeOf4,
 v4:=Tryz.zeroValue4,
 i4:=by kernel_rfl,
 t9:=Tryz.underlying9,
 a9:=Tryz.isAgg9,
 z9:=Tryz.sizeOf9,
 v9:=Tryz.zeroValue9,
 i9:=by kernel_rfl,
 t21:=Tryz.underlying21,
 a21:=Tryz.isAgg21,
 z21:=Tryz.sizeOf21,
 v21:=Tryz.zeroValue21,
 i21:=by kernel_rfl,
 t23:=Tryz.underlying258,
 a23:=Tryz.isAgg258,
 z23:=Tryz.sizeOf258,
 v23:=Tryz.zeroValue258,
 i23:=by kernel_rfl}
def Tryz.laysM171_ren:Go.Shelf.Ren:=⟨λ|171=>231|243=>252|246=>258|283=>261|284=>262|285=>263|286=>264|129=>227|317=>269|318=>270|319=>271|320=>272|337=>275|338=>276|n=>n,λ|3=>3|9=>9|2=>2|4=>4|171=>308|0=>0|53=>76|37=>158|5=>5|173=>310|212=>314|51=>281|20=>20|213=>315|46=>223|232=>318|233=>319|n=>n,λ|17=>1|18=>2|19=>3|n=>n⟩
theorem Tryz.Ka:Go.Proofs.LaysM.n171 Tryz.prog Tryz.laysM171_ren:={
 mixed:=by kernel_rfl,
 f129:=Tryz.func227.trans (congrArg some (by kernel_rfl)),
 f171:=Tryz.func231.trans (congrArg some (by kernel_rfl)),
 f243:=Tryz.func252.trans (congrArg some (by kernel_rfl)),
 f246:=Tryz.func258.trans (congrArg some (by kernel_rfl)),
 f283:=Tryz.func261.trans (congrArg some (by kernel_rfl)),
 f284:=Tryz.func262.trans (congrArg some (by kernel_rfl)),
 f285:=Tryz.func263.trans (congrArg some (by kernel_rfl)),
 f286:=Tryz.func264.trans (congrArg some (by kernel_rfl)),
 f317:=Tryz.func269.trans (congrArg some (by kernel_rfl)),
 f318:=Tryz.func270.trans (congrArg some (by kernel_rfl)),
 f319:=Tryz.func271.trans (congrArg some (by kernel_rfl)),
 f320:=Tryz.func272.trans (congrArg some (by kernel_rfl)),
 f337:=Tryz.func275.trans (congrArg some (by kernel_rfl)),
 f338:=Tryz.func276.trans (congrArg some (by kernel_rfl)),
 t0:=Tryz.underlying0,
 a0:=Tryz.isAgg0,
 z0:=Tryz.sizeOf0,
 v0:=Tryz.zeroValue0,
 t2:=Tryz.underlying2,
 a2:=Tryz.isAgg2,
 z2:=Tryz.sizeOf2,
 v2:=Tryz.zeroValue2,
 t3:=Tryz.underlying3,
 a3:=Tryz.isAgg3,
 z3:=Tryz.sizeOf3,
 v3:=Tryz.zeroValue3,
 t4:=Tryz.underlying4,
 a4:=Tryz.isAgg4,
 z4:=Tryz.sizeOf4,
 v4:=Tryz.zeroValue4,
 t5:=Tryz.underlying5,
 a5:=Tryz.isAgg5,
 z5:=Tryz.sizeOf5,
 v5:=Tryz.zeroValue5,
 t9:=Tryz.underlying9,
 a9:=Tryz.isAgg9,
 z9:=Tryz.sizeOf9,
 v9:=Tryz.zeroValue9,
 t20:=Tryz.underlying20,
 a20:=Tryz.isAgg20,
 z20:=Tryz.sizeOf20,
 v20:=Tryz.zeroValue20,
 t37:=Tryz.underlying158,
 a37:=Tryz.isAgg158,
 z37:=Tryz.sizeOf158,
 v37:=Tryz.zeroValue158,
 t46:=Tryz.underlying223,
 a46:=Tryz.isAgg223,
 z46:=Tryz.sizeOf223,
 v46:=Tryz.zeroValue223,
 t51:=Tryz.underlying281,
 a51:=Tryz.isAgg281,
 z51:=Tryz.sizeOf281,
 v51:=Tryz.zeroValue281,
 t53:=Tryz.underlying76,
 a53:=Tryz.isAgg76,
 z53:=Tryz.sizeOf76,
 v53:=Tryz.zeroValue76,
 t171:=Tryz.underlying308,
 a171:=Tryz.isAgg308,
 z171:=Tryz.sizeOf308,
 v171:=Tryz.zeroValue308,
 t173:=Tryz.underlying310,
 a173:=Tryz.isAgg310,
 z173:=Tryz.sizeOf310,
 v173:=Tryz.zeroValue310,
 t212:=Tryz.underlying314,
 a212:=Tryz.isAgg314,
 z212:=Tryz.sizeOf314,
 v212:=Tryz.zeroValue314,
 t213:=Tryz.underlying315,
 a213:=Tryz.isAgg315,
 z213:=Tryz.sizeOf315,
 t232:=Tryz.underlying318,
 a232:=Tryz.isAgg318,
 z232:=Tryz.sizeOf318,
 v232:=Tryz.zeroValue318,
 t233:=Tryz.underlying319,
 a233:=Tryz.isAgg319,
 z233:=Tryz.sizeOf319,
 v233:=Tryz.zeroValue319,
 g17:=by kernel_rfl,
 g18:=by kernel_rfl,
 g19:=by kernel_rfl,
 i0:=by kernel_rfl,
 i2:=by kernel_rfl,
 i3:=by kernel_rfl,
 i4:=by kernel_rfl,
 i5:=by kernel_rfl,
 i9:=by kernel_rfl,
 i20:=by kernel_rfl,
 i37:=by kernel_rfl,
 i46:=by kernel_rfl,
 i51:=by kernel_rfl,
 i53:=by kernel_rfl,
 i171:=by kernel_rfl,
 i173:=by kernel_rfl,
 i212:=by kernel_rfl,
 i232:=by kernel_rfl,
 i233:=by kernel_rfl,
 m17:=by kernel_rfl,
 m18:=by kernel_rfl,
 m19:=by kernel_rfl}
def Tryz.laysInsert_ren:Go.Shelf.Ren:=⟨λ|21=>106|27=>157|28=>158|35=>202|39=>233|n=>n,λ|22=>41|3=>3|4=>4|0=>0|n=>n,λ|n=>n⟩
theorem Tryz.i1:Go.Proofs.Lays2.n21 Tryz.prog Tryz.laysInsert_ren:={
 mixed:=by kernel_rfl,
 f21:=Tryz.func106.trans (congrArg some (by kernel_rfl)),
 f27:=Tryz.func157.trans (congrArg some (by kernel_rfl)),
 f28:=Tryz.func158.trans (congrArg some (by kernel_rfl)),
 f35:=Tryz.func202.trans (congrArg some (by kernel_rfl)),
 f39:=Tryz.func233.trans (congrArg some (by kernel_rfl)),
 t0:=Tryz.underlying0,
 a0:=Tryz.isAgg0,
 z0:=Tryz.sizeOf0,
 v0:=Tryz.zeroValue0,
 t3:=Tryz.underlying3,
 a3:=Tryz.isAgg3,
 z3:=Tryz.sizeOf3,
 v3:=Tryz.zeroValue3,
 t4:=Tryz.underlying4,
 a4:=Tryz.isAgg4,
 z4:=Tryz.sizeOf4,
 v4:=Tryz.zeroValue4,
 t22:=Tryz.underlying41,
 a22:=Tryz.isAgg41,
 z22:=Tryz.sizeOf41,
 v22:=Tryz.zeroValue41,
 i3:=by kernel_rfl}
end Go.Proofs
namespace Go.CK
open Go.RowKit Go.Proofs
def cg(c:Nat):Nat:=if 97<=c/\c<=122 then 1 else if (65<=c/\c<=90)\/c=95 then 2 else if 48<=c/\c<=57 then 4 else 0
set_option maxHeartbeats 1000000 in
theorem JU(c:Nat)(w:World):Calls Tryz.prog 195 #[.int .u8 (c:Int)] w λe w'=>e=.returned (.int .u8 (cg c:Int))/\w'=w:=by
 have d:∀(p:Prop) [Decidable p],p->decide p=true:=λp _ h=>decide_eq_true h
 by_cases l:(97:Int)<=c
 .by_cases k:(c:Int)<=122
  .have a:cg c=1:=by unfold cg;rw[if_pos ⟨by omega,by omega⟩]
   rw[a]
   go_enter Tryz.func195,Tryz.ntmps195
   go_wp2_with fail
   go_ret
   exact⟨rfl,rfl⟩
  .have a:cg c=0:=by unfold cg;rw[if_neg (by omega),if_neg (by omega),if_neg (by omega)]
   rw[a];have j:(65:Int)<=c:=by omega
   have i:¬(c:Int)<=90:=by omega
   have g:¬(c:Int)=95:=by omega
   have f:(48:Int)<=c:=by omega
   have b:¬(c:Int)<=57:=by omega
   go_enter Tryz.func195,Tryz.ntmps195
   go_wp2_with fail
   go_ret
   exact⟨rfl,rfl⟩
 .by_cases j:(65:Int)<=c
  .by_cases i:(c:Int)<=90
   .have a:cg c=2:=by unfold cg;rw[if_neg (by omega),if_pos (by omega)]
    rw[a]
    go_enter Tryz.func195,Tryz.ntmps195
    go_wp2_with fail
    go_ret
    exact⟨rfl,rfl⟩
   .by_cases g:(c:Int)=95
    .have a:cg c=2:=by unfold cg;rw[if_neg (by omega),if_pos (by omega)]
     rw[a]
     go_enter Tryz.func195,Tryz.ntmps195
     go_wp2_with fail
     go_ret
     exact⟨rfl,rfl⟩
    .have f:(48:Int)<=c:=by omega
     have b:¬(c:Int)<=57:=by omega
     have a:cg c=0:=by unfold cg;rw[if_neg (by omega),if_neg (by omega),if_neg (by omega)]
     rw[a]
     go_enter Tryz.func195,Tryz.ntmps195
     go_wp2_with fail
     go_ret
     exact⟨rfl,rfl⟩
  .have g:¬(c:Int)=95:=by omega
   by_cases f:(48:Int)<=c
   .by_cases b:(c:Int)<=57
    .have a:cg c=4:=by unfold cg;rw[if_neg (by omega),if_neg (by omega),if_pos (by omega)]
     rw[a]
     go_enter Tryz.func195,Tryz.ntmps195
     go_wp2_with fail
     go_ret
     exact⟨rfl,rfl⟩
    .have a:cg c=0:=by unfold cg;rw[if_neg (by omega),if_neg (by omega),if_neg (by omega)]
     rw[a]
     go_enter Tryz.func195,Tryz.ntmps195
     go_wp2_with fail
     go_ret
     exact⟨rfl,rfl⟩
   .have a:cg c=0:=by unfold cg;rw[if_neg (by omega),if_neg (by omega),if_neg (by omega)]
    rw[a]
    go_enter Tryz.func195,Tryz.ntmps195
    go_wp2_with fail
    go_ret
    exact⟨rfl,rfl⟩
def mw(r:Nat):Bool:=decide (122<r)||decide (cg r=0)
theorem G7(c:Nat):((cg c:Int)=0/\cg c=0)\/((cg c=1\/cg c=2\/cg c=4)):=by
 unfold cg;split
 .exact .inr (.inl rfl)
 .split
  .exact .inr (.inr (.inl rfl))
  .split
   .exact .inr (.inr (.inr rfl))
   .exact .inl ⟨rfl,rfl⟩
set_option maxHeartbeats 1000000 in
theorem Hi(r:Nat)(w:World):Calls Tryz.prog 197 #[.int .i32 (r:Int)] w λe w'=>e=.returned (.bool (mw r))/\w'=w:=by
 by_cases d:(122:Int)<r
 .have c:mw r=true:=by unfold mw;rw[decide_eq_true (by omega:122<r)];rfl
  rw[c]
  go_enter Tryz.func197,Tryz.ntmps197
  go_wp2_with fail
  go_ret
  exact⟨rfl,rfl⟩
 .have a:=JU (r:Nat) w;rcases G7 r with ⟨_,b⟩|b
  .have c:mw r=true:=by unfold mw;rw[decide_eq_true b,Bool.or_true]
   rw[c];rw[b] at a;have a:Calls Tryz.prog 195 #[.int .u8 (r:Int)] w λe w'=>e=.returned (.int .u8 0)/\w'=w:=a
   go_enter Tryz.func197,Tryz.ntmps197
   go_wp2_with (go_at_call 195;refine a.mono ?_;rintro e w' ⟨rfl,rfl⟩)
   go_ret
   exact⟨rfl,rfl⟩
  .have c:mw r=false:=by unfold mw;rw[decide_eq_false (by omega:¬122<r),decide_eq_false (by omega:¬cg r=0)];rfl
   rw[c];rcases b with b|b|b<;>rw[b] at a
   .have a:Calls Tryz.prog 195 #[.int .u8 (r:Int)] w λe w'=>e=.returned (.int .u8 1)/\w'=w:=a
    go_enter Tryz.func197,Tryz.ntmps197
    go_wp2_with (go_at_call 195;refine a.mono ?_;rintro e w' ⟨rfl,rfl⟩)
    go_ret
    exact⟨rfl,rfl⟩
   .have a:Calls Tryz.prog 195 #[.int .u8 (r:Int)] w λe w'=>e=.returned (.int .u8 2)/\w'=w:=a
    go_enter Tryz.func197,Tryz.ntmps197
    go_wp2_with (go_at_call 195;refine a.mono ?_;rintro e w' ⟨rfl,rfl⟩)
    go_ret
    exact⟨rfl,rfl⟩
   .have a:Calls Tryz.prog 195 #[.int .u8 (r:Int)] w λe w'=>e=.returned (.int .u8 4)/\w'=w:=a
    go_enter Tryz.func197,Tryz.ntmps197
    go_wp2_with (go_at_call 195;refine a.mono ?_;rintro e w' ⟨rfl,rfl⟩)
    go_ret
    exact⟨rfl,rfl⟩
end Go.CK
namespace Go.AM
open Go.CK Go.RowKit Go.Proofs
theorem Fun.GG{P:Program}{f:FuncId}{ab:List AV}{r:AV}{v:Value}(hr:∀M σ n,RV M σ n r v)(h:∀(M:Hp) (σ:Nat->Nat) (n:Nat) (w:World) (args:List Value),M.le (Hp.of w)->args.length=ab.length->(∀j (i:j<ab.length) v,args[j]? =some v->RV M σ n ab[j] v)->Calls P f args.toArray w λe w'=>e=.returned v/\Below w.heap.size w w'):Fun P f ab r:=by
 intro bs E G a0 w args lo hs c b;refine(h G.M G.σ bs.length w args hs.ok c b).mono ?_;rintro e w' ⟨rfl,hb⟩;have a:∀B o u,G.M B o=some u->B<w.heap.size:=λB o u hu=>Hp.lt hs.ok hu;have g:=hs.sI (bR G bs w 1) ⟨#[v],[]⟩ (Fr.refl _ _ _ hs.fr.kn) rfl bs.length rfl (zG _) (λ_ _=>rfl) (λB hB=>.inl hB) rfl;have d:=g.grow (M':=G.M) (w':=w') ⟨hb.os,hb.tape,hb.output,hb.size,Hp.le_refl _,λB hB _=>hb.block B hB,λ_ _ _ _=>rfl⟩ (λB o u hu=>(hb.cell (p:=⟨B,o,none⟩) (a B o u hu)).trans (hs.ok _ _ _ hu));exact⟨_,_,_,_,rfl,⟨rfl,rfl⟩,d.put (k:=0) Zw (x:=r) (hr _ _ _)⟩
end Go.AM
namespace Go.CK
open Go.AM Go.RowKit Go.Proofs
theorem ua(s:ByteArray)(c:UInt8):Fun Tryz.prog 232 [.str s,.str ⟨⟨[c]⟩⟩] (.bool (decide (0<=Lib.indexByte s.data.toList c))):=by
 refine Fun.GG (λM σ n=>.flat (.bool _)) λM σ n w args g a b=>?_
 obtain⟨v1,v2,rfl⟩:∃v1 v2,args=[v1,v2]:=by
  match args,a with
  |[v1,v2],_=>exact⟨v1,v2,rfl⟩
 have f:=b 0 (by simp) v1 rfl
 have d:=b 1 (by simp) v2 rfl
 simp only[ZQ,Zg] at f d;obtain⟨rfl,_⟩:=f.cK;obtain⟨rfl,_⟩:=d.cK;refine(Any.strings_Contains_one Tryz.Ba s c w).mono ?_;rintro e w' ⟨rfl,rfl⟩;exact⟨rfl,Below.refl _ _⟩
theorem get0{s:ByteArray}(h:0<s.size):s.get! 0=s[0]'h:=by
 show s.data[0]! =s.data[0];exact getElem!_pos s.data 0 h
def mF(s:ByteArray):Bool:=decide (1<=s.size/\s.size<=40)&&(decide (cg (s.get! 0).toNat=1)&&decide (Lib.idxFunc mw true (s.extract 1 s.size)<0))
set_option maxHeartbeats 1000000 in
theorem I1(s:ByteArray)(hs:s.size<=4294967296)(w:World):Calls Tryz.prog 148 #[.string s,.int .u8 1] w λe w'=>e=.returned (.bool (mF s))/\Below w.heap.size w w':=by
 by_cases i:s=⟨⟨[]⟩⟩
 .subst i
  go_enter Tryz.func148,Tryz.ntmps148
  go_wp2_with fail
  go_ret
  exact⟨rfl,Below.refl _ _⟩
 .have a:0<s.size:=Nat.pos_of_ne_zero λe=>i (ByteArray.ext (Array.eq_empty_of_size_eq_zero e))
  have k:(s.toList==([]:List UInt8))=false:=by
   rw[beq_eq_false_iff_ne];intro e;rw[ByteArray.toList_eq] at e;have:s.data.toList.length=0:=by rw[e];rfl
   rw[ZJ] at this;exact absurd a (by rw[show s.size=s.data.size from rfl,this];omega)
  by_cases h:(40:Int)<s.size
  .have f:mF s=false:=by unfold mF;rw[decide_eq_false (by omega)];rfl
   rw[f]
   go_enter Tryz.func148,Tryz.ntmps148
   go_wp2_with fail
   go_ret
   exact⟨rfl,Below.refl _ _⟩
  .have g:=get0 a;have b:=JU (s[0]'a).toNat w
   by_cases d:cg (s[0]'a).toNat=1
   .rw [d] at b;have b:Calls Tryz.prog 195 #[.int .u8 ((s[0]'a).toNat:Int)] w λe w'=>e=.returned (.int .u8 1)/\w'=w:=b;have j:=Any.strings_IndexFunc Tryz.xe 197 #[] (enters_of Tryz.func197 (by kernel_rfl) rfl) mw (s.extract 1 s.size) w λW x _=>(Hi x W).mono λe w' ⟨h,d⟩=>⟨h,0,d⟩
    have f:mF s=decide (Lib.idxFunc mw true (s.extract 1 s.size)<0):=by unfold mF;rw[g,decide_eq_true (show 1<=s.size/\s.size<=40 by omega),decide_eq_true d];rfl
    rw[f]
    go_enter Tryz.func148,Tryz.ntmps148
    go_wp2_with (first|(go_at_call 195;refine b.mono ?_;rintro e w' ⟨rfl,rfl⟩)|(go_at_call 196;refine j.mono ?_;rintro e w' ⟨rfl,hb⟩))
    go_ret
    exact⟨rfl,hb⟩
   .have f:mF s=false:=by unfold mF;rw[g,decide_eq_false d];simp
    rw[f];rcases G7 (s[0]'a).toNat with ⟨_,c⟩|c|c|c
    .rw [c] at b;have b:Calls Tryz.prog 195 #[.int .u8 ((s[0]'a).toNat:Int)] w λe w'=>e=.returned (.int .u8 0)/\w'=w:=b
     go_enter Tryz.func148,Tryz.ntmps148
     go_wp2_with (go_at_call 195;refine b.mono ?_;rintro e w' ⟨rfl,rfl⟩)
     go_ret
     exact⟨rfl,Below.refl _ _⟩
    .exact absurd c d
    .rw [c] at b;have b:Calls Tryz.prog 195 #[.int .u8 ((s[0]'a).toNat:Int)] w λe w'=>e=.returned (.int .u8 2)/\w'=w:=b
     go_enter Tryz.func148,Tryz.ntmps148
     go_wp2_with (go_at_call 195;refine b.mono ?_;rintro e w' ⟨rfl,rfl⟩)
     go_ret
     exact⟨rfl,Below.refl _ _⟩
    .rw [c] at b;have b:Calls Tryz.prog 195 #[.int .u8 ((s[0]'a).toNat:Int)] w λe w'=>e=.returned (.int .u8 4)/\w'=w:=b
     go_enter Tryz.func148,Tryz.ntmps148
     go_wp2_with (go_at_call 195;refine b.mono ?_;rintro e w' ⟨rfl,rfl⟩)
     go_ret
     exact⟨rfl,Below.refl _ _⟩
end Go.CK
