/-
  By an AI agent.
-/
import Derived.Test.YtcjfkbdbcgmomaaGreatDoorQas
set_option linter.unusedSimpArgs false
set_option linter.unusedVariables false
set_option maxRecDepth 100000
namespace Go.AM
open Go.CK Go.RowKit
variable{A B K:Prop}{b:Bool}{p:Prop}
theorem cY(k:A)(h:b=true:=by with_reducible rfl):ak b A B:=.yes h k
theorem cN(k:B)(h:b=false:=by with_reducible rfl):ak b A B:=.no h k
theorem cI[Decidable p](k:A)(h:p:=by omega):ak (decide p) A B:=.is h k
theorem cJ[Decidable p](k:B)(h:¬p:=by omega):ak (decide p) A B:=.isnt h k
theorem cYa(k:A)(h:b=true:=by assumption):ak b A B:=.yes h k
theorem cNa(k:B)(h:b=false:=by assumption):ak b A B:=.no h k
theorem cIr[Decidable p](k:A)(h:p:=by with_reducible rfl):ak (decide p) A B:=.is h k
theorem wI{n:Int}{K:Int->Prop}(k:K n)(h:-9223372036854775808<=n/\n<=9223372036854775807:=by omega):mK .i64 n K:=.i64 h k
theorem nS(k:K)(h:p:=by first|omega|assumption|(show gk _=true;rfl)|(simp;done)|(simp;omega)|(simp[lim];done)|(simp[lim];omega)|((repeat' (first|assumption|exact Szs.nil|exact Szs.tm|refine Szs.app ?_ ?_|refine Szs.cons rfl ?_|exact Szs.map (λ_=>rfl)|exact Szs.rep rfl|refine Szs.take ?_ _|refine Szs.drop ?_ _|refine Szs.set ?_ rfl _));done)):cB p K:=⟨h,k⟩
theorem iA{l:List Tm}{n:Nat}{K:AV->Prop}{x:Tm}(k:K x.avw)(h:l[n]? =some x:=by assumption):dz 4 (l.map Tm.av) (n:Int) K:=Go.CK.dz.tmK h k
theorem iB{l:List Tm}{n:Int}{K:AV->Prop}{x:Tm}(k:K x.avw)(h:l[n.toNat]? =some x:=by assumption)(a:0<=n:=by omega):dz 4 (l.map Tm.av) n K:=Go.CK.dz.tmKI h a k
theorem iC{l:List Tm}{n:Nat}{K:AV->Prop}(k:∀x,l[n]? =some x->K x.avw)(a:n<l.length:=by omega):dz 4 (l.map Tm.av) (n:Int) K:=Go.CK.dz.tm a k
section
variable{α:Type}{f:α->AV}{sz:Nat}{l:List α}{K:AV->Prop}{x:α}
theorem iE{n:Nat}(k:K (f x))(h:l[n]? =some x:=by assumption)(hs:∀x,(f x).cells.length=sz:=by intro _;rfl):dz sz (l.map f) (n:Int) K:=.NS h hs k
theorem iF{n:Int}(k:K (f x))(h:l[n.toNat]? =some x:=by assumption)(a:0<=n:=by omega)(hs:∀x,(f x).cells.length=sz:=by intro _;rfl):dz sz (l.map f) n K:=.known h a hs k
theorem iH{n:Nat}(k:∀x,l[n]? =some x->K (f x))(a:n<l.length:=by omega)(hs:∀x,(f x).cells.length=sz:=by intro _;rfl):dz sz (l.map f) (n:Int) K:=.OK a hs k
theorem iI{n:Int}(k:∀x,l[n.toNat]? =some x->K (f x))(b:0<=n:=by omega)(a:n<l.length:=by omega)(hs:∀x,(f x).cells.length=sz:=by intro _;rfl):dz sz (l.map f) n K:=.map b a hs k
end
theorem iJ{sz:Nat}{l:List AV}{n:Int}{K:AV->Prop}{y:AV}(k:K y)(h:l[n.toNat]? =some y:=by rfl)(a:0<=n:=by decide)(hs:y.cells.length=sz:=by first|rfl|assumption):dz sz l n K:=.of a h hs k
theorem hB{P:Program}{f:FuncId}(k:K)(h:dQ P f=true:=by kernel_rfl):MK P f K:=⟨h,k⟩
theorem aP{bs:List Box}{n:Nat}{x:LB}(k:K)(h:ah bs n=some x:=by rfl):IV bs n x K:=⟨h,k⟩
theorem mBb{e:List (Nat×AV)}{bs:List Box}{lo:Nat}{ik a:IntKind}{n m:Int}{K:AV->St->Prop}(h:K (.bsl bs.length n.toNat m.toNat) ⟨e,bs++[aJ AV.bool 1 m.toNat (List.replicate n.toNat false)],lo⟩)(b:0<=n/\n<=m/\m<=4294967296:=by first|omega|assumption):MkN 1 (.bool false) ⟨e,bs,lo⟩ (.int ik n) (.int a m) K:=.row JL false b h
theorem eLb{e:List (Nat×AV)}{bs:List Box}{lo b k i:Nat}{l:List Bool}{x:Bool}{K:AV->Prop}(h:K (.bool x))(hb:bs[b]? =some (aJ AV.bool 1 k l):=by first|rfl|assumption)(a:l[i]? =some x:=by assumption):ElN false 1 ⟨e,bs,lo⟩ (.elp b i 1 0) K:=.one (f:=AV.bool) (λ_=>⟨rfl,rfl⟩) hb a h
theorem eSb{e:List (Nat×AV)}{bs:List Box}{lo b k i:Nat}{l:List Bool}{x y:Bool}{K:St->Prop}(h:K ⟨e,bs.set b (aJ AV.bool 1 k (l.set i y)),lo⟩)(hb:bs[b]? =some (aJ AV.bool 1 k l):=by first|rfl|assumption)(a:l[i]? =some x:=by assumption):EsN 1 ⟨e,bs,lo⟩ b i 1 0 (.bool y) K:=.one (f:=AV.bool) (λ_=>⟨rfl,rfl⟩) hb a h
section
variable{vs:List AV}
theorem pT{bs bs':List Box}(k:K)(h:∃t,bs'=bs++t:=by exact⟨_,rfl⟩):Ee vs bs bs' K:=⟨.inl h,k⟩
end
theorem mS{v:AV}{xs:List Int}{n:Int}{ok:Bool}{z:AV}{K:AV->Prop}(c:n∈xs->K (okR ok v true))(b:n∉xs->K (okR ok z false))(a:gk v=true:=by rfl):Ef (dX v xs) n ok z K:=.set a c b
theorem mA{bs:List Box}{b:Nat}{K:List (Int×AV)->Prop}{Kq:List (Int×AV×Nat)->Nat->Prop}{l:List (Int×AV)}(k:K l)(h:bs[b]? =some (.mp l):=by first|rfl|assumption):BG bs b K Kq:=.of h k
theorem vE{x y:AV}(k:K)(h:x=y:=by with_reducible rfl):WkN x y K:=.eq h k
theorem vI{i:IntKind}{x y:Int}(k:K)(h:x=y:=by omega):WkN (.int i x) (.int i y) K:=.int h k
theorem vB{x y:Bool}(k:K)(h:x=y:=by assumption):WkN (.bool x) (.bool y) K:=.bool h k
theorem vC{z:Nat}{l m:List AV}(k:K)(h:Szs z l:=by (repeat' (first|assumption|exact Szs.nil|exact Szs.tm|refine Szs.app ?_ ?_|refine Szs.cons rfl ?_|exact Szs.map (λ_=>rfl)|exact Szs.rep rfl|refine Szs.take ?_ _|refine Szs.drop ?_ _|refine Szs.set ?_ rfl _));done)(e:l=m:=by with_reducible rfl):WkN (.sl .full l) (.sl (.own z) m) K:=.nZ h e k
theorem vD{z:Nat}{l m:List AV}(e:l=m)(k:K)(h:Szs z l:=by (repeat' (first|assumption|exact Szs.nil|exact Szs.tm|refine Szs.app ?_ ?_|refine Szs.cons rfl ?_|exact Szs.map (λ_=>rfl)|exact Szs.rep rfl|refine Szs.take ?_ _|refine Szs.drop ?_ _|refine Szs.set ?_ rfl _));done):WkN (.sl .full l) (.sl (.own z) m) K:=.nZ h e k
theorem xB(k:K)(h:p:=by with_reducible rfl):BxN p K:=⟨h,k⟩
theorem gC{b:Bool}{A B:Prop}(h:ak b A B):ak b A B:=h
theorem gD{p:Prop}[Decidable p]{A B:Prop}(h:ak (decide p) A B):ak (decide p) A B:=h
theorem gN{p K:Prop}(h:cB p K):cB p K:=h
theorem gW{i:IntKind}{n:Int}{K:Int->Prop}(h:mK i n K):mK i n K:=h
theorem gL{l:List AV}{K:Int->Prop}(h:tD l K):tD l K:=h
theorem gI{sz:Nat}{l:List AV}{n:Int}{K:AV->Prop}(h:dz sz l n K):dz sz l n K:=h
theorem gT{l:List Tm}{n:Int}{K:AV->Prop}(h:dz 4 (l.map Tm.av) n K):dz 4 (l.map Tm.av) n K:=h
theorem gM{α:Type}{f:α->AV}{sz:Nat}{l:List α}{n:Int}{K:AV->Prop}(h:dz sz (l.map f) n K):dz sz (l.map f) n K:=h
theorem gH{P:Program}{f:FuncId}{K:Prop}(h:MK P f K):MK P f K:=h
theorem gA{bs:List Box}{n:Nat}{x:LB}{K:Prop}(h:IV bs n x K):IV bs n x K:=h
theorem gB{bs:List Box}{n:Nat}{K:List AV->Prop}(h:gi bs n K):gi bs n K:=h
theorem gMp{bs:List Box}{b:Nat}{K:List (Int×AV)->Prop}{Kq:List (Int×AV×Nat)->Nat->Prop}(h:BG bs b K Kq):BG bs b K Kq:=h
theorem gE{g:Bool}{n:Nat}{s:St}{p:AV}{K:AV->Prop}(h:ElN g n s p K):ElN g n s p K:=h
theorem gS{n:Nat}{s:St}{b i z off:Nat}{v:AV}{K:St->Prop}(h:EsN n s b i z off v K):EsN n s b i z off v K:=h
theorem gMk{z:Nat}{a:AV}{s:St}{l c:AV}{K:AV->St->Prop}(h:MkN z a s l c K):MkN z a s l c K:=h
theorem gPr{vs:List AV}{bs bs':List Box}{K:Prop}(h:Ee vs bs bs' K):Ee vs bs bs' K:=h
theorem gMs{l:List (Int×AV)}{n:Int}{ok:Bool}{z:AV}{K:AV->Prop}(h:Ef l n ok z K):Ef l n ok z K:=h
theorem gF{P:Program}{f:FuncId}{ab raw:List AV}{bs:List Box}{K:AV->List Box->Prop}(h:ae P f ab raw bs K):ae P f ab raw bs K:=h
theorem gG{P:Program}{f:FuncId}{ab:List AV}{K:AV->Prop}(h:aW P f ab K):aW P f ab K:=h
theorem gV{x y:AV}{K:Prop}(h:WkN x y K):WkN x y K:=h
theorem gK{z:Nat}{l m:List AV}{K:Prop}(h:WkN (.sl .full l) (.sl (.own z) m) K):WkN (.sl .full l) (.sl (.own z) m) K:=h
theorem gX{p K:Prop}(h:BxN p K):BxN p K:=h
theorem ae.to{P:Program}{f:FuncId}{ab raw:List AV}{bs a:List Box}{v:AV}{K:AV->List Box->Prop}(h:Sem P f raw bs λr bs'=>r=v/\bs'=a)(b:K v a):ae P f ab raw bs K:=.raw h λr bs' ⟨d,c⟩=>by subst d c;exact b
theorem aE{n:Nat}{r:List Box}(k:aj n r=true):aj n (.dead::r)=true:=by simp only[aj,k]
theorem aN{s t:St}(h:FF true t.env λe=>fBs t.bs λb=>wkE 100 [] s.env e/\eqB s.bs b True:=by (conv=>whnf);(refine And.intro ?_ ?_<;>conv=>whnf);(all_goals repeat' ((first|(refine gV ?_;first|refine vE ?_|refine vI ?_|refine vB ?_|refine gK (vC ?_)|refine vN ?_)|refine gX (xB ?_)|exact True.intro)<;>conv=>whnf)))(a:s.lo=t.lo:=by rfl):al s t:=al.at_ h a
end Go.AM
namespace Go.CK
def mo{α:Type}(p:α->Bool):List α->Nat
 |[]=>0
 |x::r=>if p x then 0 else mo p r+1
theorem sb{α:Type}{p:α->Bool}:∀{l:List α} {k:Nat},(∀i x,i<k->l[i]? =some x->p x=false)->k<=l.length->(∀x,l[k]? =some x->p x=true)->mo p l=k
 |[],k,_,a,_=>by simp only[ZP,Nat.le_zero] at a;subst a;rfl
 |x::r,0,_,_,c=>by rw[mo,if_pos (c x rfl)]
 |x::r,k+1,d,a,c=>by
  rw[mo,if_neg (by rw[d 0 x (by omega) rfl];decide),sb (k:=k) (λi y e b=>d (i+1) y (by omega) (by simpa using b)) (by simpa using a) (λy b=>c y (by simpa using b))]
theorem ya{α:Type}{p:α->Bool}:∀{l:List α},mo p l<l.length↔∃x∈l,p x=true
 |[]=>by simp[mo]
 |x::r=>by
  have:=ya (p:=p) (l:=r);rw[mo];split
  .rename_i h;simp[h]
  .rename_i h;simp[this,h]
def eV{α:Type}(p:α->Bool)(l:List α):Int:=if mo p l<l.length then mo p l else-1
theorem fh{α:Type}(p:α->Bool)(l:List α):decide (0<=eV p l)=l.any p:=by
 unfold eV;have h:=ya (p:=p) (l:=l);rw[Bool.eq_iff_iff,List.any_eq_true,decide_eq_true_eq,<-h];split<;>rename_i a
 .exact ⟨λ_=>a,λ_=>by omega⟩
 .exact ⟨λh=>absurd h (by decide),λh=>absurd h a⟩
theorem fN{α:Type}{p:α->Bool}{l:List α}{j:Nat}{x:α}(d:∀i x,i<j->l[i]? =some x->p x=false)(b:l[j]? =some x)(h:p x=true):eV p l=j:=by
 have c:=(zB.1 b).1;have:=sb d (Nat.le_of_lt c) (λy a=>by rw[b] at a;cases a;exact h)
 rw[eV,this,if_pos c]
theorem jc{α:Type}{p:α->Bool}{l:List α}(b:∀i x,i<l.length->l[i]? =some x->p x=false):eV p l=-1:=by
 have:=sb b (zG _) (λy a=>by rw[zR (zG _)] at a;cases a)
 rw[eV,this,if_neg (Nat.lt_irrefl _)]
theorem bM{α:Type}{p:α->Bool}{l:List α}{j:Nat}{x:α}(c:∀i x,i<j->l[i]? =some x->p x=false)(b:l[j]? =some x)(h:p x=false):∀i x,i<j+1->l[i]? =some x->p x=false:=λi y d a=>by
 by_cases e:i=j
 .subst e;rw[b] at a;cases a;exact h
 .exact c i y (by omega) a
theorem ch{α:Type}{p:α->Bool}{l:List α}:∀i x,i<0->l[i]? =some x->p x=false:=λi _ a=>by omega
theorem ss{α:Type}{p:α->Bool}{l:List α}(c:∀i x,i<l.length->l[i]? =some x->p x=false):l.any p=false:=by
 rw[List.any_eq_false];intro x b;obtain⟨i,a,rfl⟩:=Zq b;rw[c i _ a (zA a)];decide
theorem n9{α:Type}{p:α->Bool}{l:List α}{j:Nat}{x:α}(a:l[j]? =some x)(h:p x=true):l.any p=true:=List.any_eq_true.2 ⟨x,zE a,h⟩
theorem pN{α:Type}{p:α->Bool}{l:List α}{j:Nat}{x:α}(a:l[j]? =some x)(h:p x=false):l.all p=false:=List.all_eq_false.2 ⟨x,zE a,by rw[h];decide⟩
theorem BE{α:Type}{p:α->Bool}{l:List α}(c:∀i x,i<l.length->l[i]? =some x->p x=true):l.all p=true:=by
 rw[zS];intro x b;obtain⟨i,a,rfl⟩:=Zq b;exact c i _ a (zA a)
theorem fB{α:Type}{p:α->Prop}{l:List α}{j:Nat}{x:α}(c:∀i x,i<j->l[i]? =some x->p x)(b:l[j]? =some x)(h:p x):∀i x,i<j+1->l[i]? =some x->p x:=λi y d a=>by
 by_cases e:i=j
 .subst e;rw[b] at a;cases a;exact h
 .exact c i y (by omega) a
def eU(x y:Int):Int:=if x<y then-1 else if y<x then 1 else 0
def oO(x y:ByteArray):Int:=if Op.bytesLess x.toList y.toList=true then-1 else if x=y then 0 else 1
def orI(a b:Int):Int:=if a=0 then b else a
theorem uN(b:Int):orI 0 b=b:=rfl
theorem GD{a:Int}(h:¬a=0)(b:Int):orI a b=a:=if_neg h
theorem yk(x:Int):eU x x=0:=by simp[eU]
theorem eB:∀l:List UInt8,Op.bytesLess l l=false
 |[]=>rfl
 |x::l=>by simp[Op.bytesLess,eB l]
theorem Iz(x:ByteArray):oO x x=0:=by simp[oO,eB]
theorem si{x y:Int}:eU x y=0↔x=y:=by unfold eU;split<;>rename_i h<;>first|(split<;>omega)|omega
theorem K4{x y:ByteArray}:oO x y=0↔x=y:=by
 unfold oO;split
 .rename_i h;refine⟨λh=>absurd h (by decide),λe=>?_⟩
  subst e;rw[eB] at h;cases h
 .split
  .simp [*]
  .simp [*]
def iG(k:Int):Int:=if k=1 then 0 else if k=0 then 1 else if k=2 then 2 else 3
mutual
def Tm.cmp:Tm->Tm->Int
 |.mk k n s l,b=>
  orI (eU (iG k) (iG b.kind)) (if iG k=0\/iG k=1 then eU n b.num else if iG k=2 then orI (eU l.length b.args.length) (orI (oO s b.name) (Tm.eI l b.args)) else orI (eU k b.kind) (orI (eU n b.num) (oO s b.name)))
def Tm.eI:List Tm->List Tm->Int
 |[],m=>eU 0 m.length
 |x::l,m=>match m with
  |[]=>1
  |y::m=>orI (Tm.cmp x y) (Tm.eI l m)
end
theorem Tm.cmp_eq(a b:Tm):a.cmp b=orI (eU (iG a.kind) (iG b.kind)) (if iG a.kind=0\/iG a.kind=1 then eU a.num b.num else if iG a.kind=2 then orI (eU a.args.length b.args.length) (orI (oO a.name b.name) (Tm.eI a.args b.args)) else orI (eU a.kind b.kind) (orI (eU a.num b.num) (oO a.name b.name))):=by
 obtain⟨k,n,s,l⟩:=a;rw[Tm.cmp];rfl
theorem oz{l m:List Tm}{j:Nat}{x y:Tm}(b:l[j]? =some x)(a:m[j]? =some y):Tm.eI (l.drop j) (m.drop j)=orI (x.cmp y) (Tm.eI (l.drop (j+1)) (m.drop (j+1))):=by
 obtain⟨d,rfl⟩:=zB.1 b;obtain⟨c,rfl⟩:=zB.1 a;rw[zH d,zH c,Tm.eI]
theorem vZ{l m:List Tm}{j:Nat}(c:j<=l.length)(b:j<=m.length)(h:j=l.length\/j=m.length):Tm.eI (l.drop j) (m.drop j)=eU l.length m.length:=by
 rcases zt j l.length with a|a
 .have:j=m.length:=by omega
  subst this;rw[zH a,zj,Tm.eI,eU,if_neg (by omega),if_pos (by omega)]
 .have:j=l.length:=by omega
  subst this;rw[zj,Tm.eI,Zd];unfold eU;split<;>split<;>first|rfl|omega|(split<;>first|rfl|omega)
theorem Tm.DA(t:Tm):t.cmp t=0:=by
 induction t using Tm.bA with
 |h k n s l ih=>
  have c:∀r:List Tm,(∀t∈r,t.cmp t=0)->Tm.eI r r=0:=λr=>by
   induction r with
   |nil=>intro _;rfl
   |cons t r a=>intro h;rw[Tm.eI,h t (by simp),uN];exact a λx b=>h x (by simp[b])
  rw[Tm.cmp];simp only[Tm.kind,Tm.num,Tm.name,Tm.args,yk,Iz,uN,c l ih];split<;>first|rfl|(split<;>rfl)
theorem Tm.oB:∀l:List Tm,Tm.eI l l=0
 |[]=>rfl
 |t::r=>by rw[Tm.eI,t.DA,uN];exact Tm.oB r
mutual
def Tm.wgh:Tm->Int->Int->Int
 |.mk _ _ s l,left,deep=>if deep-1=0\/left-1-(s.size:Int).tdiv 8<l.length then-1 else Tm.oD l (left-1-(s.size:Int).tdiv 8) (deep-1)
def Tm.oD:List Tm->Int->Int->Int
 |[],left,_=>left
 |t::r,left,deep=>if left<0 then left else Tm.oD r (Tm.wgh t left deep) deep
end
def cV(l:List Tm)(left deep:Int):Int:=if deep=0\/left<l.length then-1 else Tm.oD l left deep
theorem Tm.Ei(t:Tm)(left deep:Int):t.wgh left deep=cV t.args (left-1-(t.name.size:Int).tdiv 8) (deep-1):=by
 obtain⟨k,n,s,l⟩:=t;rw[Tm.wgh];rfl
theorem xt(n:Nat):(n:Int).tdiv 8=((n/8:Nat):Int):=by rw[Int.tdiv_eq_ediv_of_nonneg (by omega)];rfl
theorem Hj{l:List Tm}{j:Nat}{x:Tm}(a:l[j]? =some x){left:Int}(h:0<=left)(deep:Int):Tm.oD (l.drop j) left deep=Tm.oD (l.drop (j+1)) (x.wgh left deep) deep:=by
 obtain⟨b,rfl⟩:=zB.1 a;rw[zH b,Tm.oD,if_neg (by omega)]
theorem I4(l:List Tm){left:Int}(h:left<0)(deep:Int):Tm.oD l left deep=left:=by
 cases l with
 |nil=>rfl
 |cons t r=>rw[Tm.oD,if_pos h]
theorem tS(t:Tm):∀left deep:Int,-1<=cV t.args left deep/\cV t.args left deep<=max left (-1):=by
 induction t using Tm.bA with
 |h k n s l ih=>
  have e:∀r:List Tm,(∀t∈r,t∈l)->∀left deep:Int,-1<=left->-1<=Tm.oD r left deep/\Tm.oD r left deep<=left:=λr=>by
   induction r with
   |nil=>intro _ left deep h;simp only[Tm.oD];omega
   |cons t r a=>
    intro hm left deep h;have c:=ih t (hm t (by simp)) (left-1-(t.name.size:Int).tdiv 8) (deep-1)
    rw[<-Tm.Ei,xt] at c;simp only[Tm.oD];split
    .omega
    .have f:=a (λx d=>hm x (by simp[d])) (t.wgh left deep) deep c.1
     omega
  intro left deep;show-1<=cV l left deep/\cV l left deep<=max left (-1)
  by_cases b:deep=0\/left<l.length
  .rw [cV,if_pos b];omega
  .rw [cV,if_neg b];have:=e l (λ_ h=>h) left deep (by omega)
   omega
theorem M3(t:Tm)(left deep:Int)(h:-1<=left):-1<=t.wgh left deep/\t.wgh left deep<=left:=by
 have:=tS t (left-1-(t.name.size:Int).tdiv 8) (deep-1);rw[<-Tm.Ei,xt] at this;omega
end Go.CK
namespace Go.CK
open Go.AM Go.Proofs
theorem tO{p:Prop}[Decidable p](h:¬p):AV.bool false=AV.bool (decide p):=by rw[decide_eq_false h]
theorem DO{p:Prop}[Decidable p](h:p):AV.bool true=AV.bool (decide p):=by rw[decide_eq_true h]
theorem L6{x:Int}:Fun Tryz.prog 152 [.int .i64 x] (.bool false):=by
 refine Fun.of (rN (by simp) ?_) rfl rfl
 conv=>whnf
 repeat' refine ag.nrm ?_<;>conv=>whnf
 simp
theorem L5{x:ByteArray}:Fun Tryz.prog 254 [.str x] (.bool false):=by
 refine Fun.of (oK (by simp) ?_) rfl rfl
 conv=>whnf
 repeat' refine ag.nrm ?_<;>conv=>whnf
 simp
theorem G6{x y:Int}:Fun Tryz.prog 101 [.int .i64 x,.int .i64 y] (.int .i64 (eU x y)):=by
 refine Fun.of (py (by simp) ?_) rfl rfl
 conv=>whnf
 repeat' (first|refine gF (ae.fn (L6) ?_)|(refine gC ?_;first|refine cN ?_|refine ak.lt (λa=>?_) (λa=>?_))|refine ag.nrm ?_)<;>conv=>whnf
 .rw [eU,if_pos (by omega)]
 .rw [eU,if_neg (by omega),if_pos (by omega)]
 .rw [eU,if_neg (by omega),if_neg (by omega)]
theorem G5{x y:ByteArray}:Fun Tryz.prog 238 [.str x,.str y] (.int .i64 (oO x y)):=by
 refine Fun.of (mR (by simp) ?_) rfl rfl
 conv=>whnf
 repeat' (first|refine gF (ae.fn (L5) ?_)|(refine gC ?_;first|refine cN ?_|refine .not ?_|refine cNa ?_|with_reducible refine ak.or ?_|refine ak.dec (λa=>?_) (λa=>?_)|refine ak.any (λa=>?_) (λa=>?_))|refine ag.nrm ?_)<;>conv=>whnf
 .simp [oO,eB, *]
 .simp [oO,eB, *]
 .simp [oO,eB, *]
theorem ph{x y:Int}:Fun Tryz.prog 160 [.int .i64 x,.int .i64 y] (.int .i64 (eU x y)):=by
 refine Fun.of (lg (by simp) ?_) rfl rfl
 conv=>whnf
 repeat' (first|(refine gC ?_;refine ak.lt (λa=>?_) (λa=>?_))|refine ag.nrm ?_)<;>conv=>whnf
 .rw [eU,if_pos (by omega)]
 .rw [eU,if_neg (by omega),if_pos (by omega)]
 .rw [eU,if_neg (by omega),if_neg (by omega)]
theorem Ci{x y:ByteArray}:Fun Tryz.prog 159 [.str x,.str y] (.int .i64 (oO x y)):=by
 refine Fun.of (kf (by simp) ?_) rfl rfl
 conv=>whnf
 repeat' (first|(refine gC ?_;first|refine .not ?_|refine cNa ?_|with_reducible refine ak.or ?_|refine ak.dec (λa=>?_) (λa=>?_)|refine ak.any (λa=>?_) (λa=>?_))|refine ag.nrm ?_)<;>conv=>whnf
 .simp [oO,eB, *]
 .simp [oO,eB, *]
 .simp [oO,eB, *]
def orL:List Int->Int
 |[]=>0
 |x::l=>orI x (orL l)
theorem Cw{l:List Int}{j:Nat}{x:Int}(h:l[j]? =some x):orL (l.drop j)=orI x (orL (l.drop (j+1))):=by
 obtain⟨a,rfl⟩:=zB.1 h;rw[zH a,orL]
theorem NF{l:List Int}:Fun Tryz.prog 240 [slA aG l] (.int .i64 (orL l)):=by
 refine Fun.assume rfl λc=>?_;have g:=(aS (c (slA aG l) (by simp))).1
 refine Fun.of (w9 (by simp) ?_) rfl rfl
 conv=>whnf
 repeat' refine gL (.map ?_)<;>conv=>whnf
 refine ax.count (fb:=true) (l.length) (λb j=>b.bD [(8,.int .i64 j)]) (λj=>orL (l.drop j)=orL l) ?_ ?_ (λj f a=>?_) (λa=>?_)
 .rfl
 .exact aN
 .conv=>whnf
  repeat' (first|(refine gC ?_;first|refine .not ?_|refine gD (cI ?_)|refine ak.dec (λd=>?_) (λd=>?_))|refine gW (wI ?_)|(refine gI ?_;(refine gM ?_;refine iH λx e=>?_))|refine ag.nrm ?_)<;>conv=>whnf
  .rw [Cw (by assumption)] at a
   refine⟨?_,?_⟩
   .rw [<-a];simp[orI, *]
   .exact aN
  .rw [Cw (by assumption),GD (by assumption)] at a
   rw[a]
 .conv=>whnf
  repeat' (first|refine gC (gD (cJ ?_))|refine ag.nrm ?_)<;>conv=>whnf
  rw[zj] at a;rw[<-a];rfl
theorem NG{a b c:Int}:Fun Tryz.prog 240 [.sl .no [.int .i64 a,.int .i64 b,.int .i64 c]] (.int .i64 (orI a (orI b c))):=by
 have:=NF (l:=[a,b,c]);have e:orL [a,b,c]=orI a (orI b c):=by simp only[orL,orI];repeat' split<;>first|rfl|omega
 rwa [e] at this
theorem Gw{k:Int}:Fun Tryz.prog 237 [.int .i64 k] (.int .i64 (iG k)):=by
 refine Fun.of (AP (by simp) ?_) rfl rfl
 conv=>whnf
 repeat' (first|(refine gC ?_;refine ak.dec (λa=>?_) (λa=>?_))|refine ag.nrm ?_)<;>conv=>whnf
 all_goals simp[iG, *]
theorem DB{t:Tm}:Fun Tryz.prog 203 [t.avw] (.int .i64 (iG t.kind)):=by
 refine Fun.of (ko (by simp) ?_) rfl rfl
 conv=>whnf
 repeat' (first|(refine gC ?_;refine ak.dec (λa=>?_) (λa=>?_))|refine ag.nrm ?_)<;>conv=>whnf
 all_goals simp[iG, *]
theorem Mh{l m:List Tm}(e:l.length=m.length)(ih:∀t∈l,∀b:Tm,Fun Tryz.prog 213 [t.avw,b.avw] (.int .i64 (t.cmp b))):Fun Tryz.prog 239 [slA Tm.av l,slA Tm.av m] (.int .i64 (Tm.eI l m)):=by
 refine Fun.assume rfl λd=>?_;have i:=(aS (d (slA Tm.av l) (by simp))).1
 refine Fun.of (AR (by simp) ?_) rfl rfl
 conv=>whnf
 repeat' refine gL (.map ?_)<;>conv=>whnf
 refine ax.count (fb:=true) (l.length) (λc j=>c.bD [(9,.int .i64 j)]) (λj=>Tm.eI (l.drop j) (m.drop j)=Tm.eI l m) ?_ ?_ (λj h a=>?_) (λa=>?_)
 .rfl
 .exact aN
 .conv=>whnf
  repeat' (first|(refine gG ?_;refine aW.fn (ih _ (zE (by assumption)) _) ?_)|(refine gC ?_;first|refine .not ?_|refine gD (cI ?_)|refine ak.dec (λf=>?_) (λf=>?_))|refine gW (wI ?_)|(refine gI ?_;(refine gT ?_;refine iC λx g=>?_))|refine ag.nrm ?_)<;>conv=>whnf
  .rw [oz (by assumption) (by assumption)] at a
   refine⟨?_,?_⟩
   .rw [<-a];simp[orI, *]
   .exact aN
  .rw [oz (by assumption) (by assumption),GD (by assumption)] at a
   rw[a]
 .conv=>whnf
  repeat' (first|refine gC (gD (cJ ?_))|refine ag.nrm ?_)<;>conv=>whnf
  rw[vZ (zG _) (by omega) (.inl rfl),e,yk] at a
  rw[<-a]
theorem CV{l m:List Tm}(ih:∀t∈l,∀b:Tm,Fun Tryz.prog 161 [t.avw,b.avw] (.int .i64 (t.cmp b))):Fun Tryz.prog 110 [slA Tm.av l,slA Tm.av m] (.int .i64 (Tm.eI l m)):=by
 refine Fun.assume rfl λd=>?_;have i:=(aS (d (slA Tm.av l) (by simp))).1
 refine Fun.of (kg (by simp) ?_) rfl rfl
 conv=>whnf
 skip;refine ax.by (fb:=true) (λc j=>c.bD [(5,.int .i64 (j:Nat))]) (λj=>j<=l.length/\j<=m.length/\Tm.eI (l.drop j) (m.drop j)=Tm.eI l m) (λj=>l.length-j) 0 ⟨by omega,by omega,rfl⟩ ?_ ?_
 .exact aN
 .rintro j ⟨g,f,a⟩
  conv=>whnf
  repeat' (first|refine gF (ae.fn (ph) ?_)|(refine gG ?_;refine aW.fn (ih _ (zE (by assumption)) _) ?_)|(refine gC ?_;first|refine cN ?_|refine .not ?_|(refine gD ?_;first|refine cI ?_|refine cJ ?_)|refine ak.lt (λe=>?_) (λe=>?_)|refine ak.dec (λe=>?_) (λe=>?_))|refine gW (wI ?_)|refine gL (.map ?_)|(refine gI ?_;(refine gT ?_;refine iC λx h=>?_))|refine ag.nrm ?_)<;>conv=>whnf
  .rw [oz (by assumption) (by assumption)] at a
   refine⟨j+1,⟨⟨by omega,by omega,?_⟩,by omega⟩,?_⟩
   .rw [<-a];simp[orI, *]
   .exact aN
  .rw [oz (by assumption) (by assumption),GD (by assumption)] at a
   rw[a]
  .rw [vZ g f (by omega)] at a
   rw[a]
  .rw [vZ g f (by omega)] at a
   rw[a]
theorem Ga(a:Tm):∀b:Tm,Fun Tryz.prog 213 [a.avw,b.avw] (.int .i64 (a.cmp b)):=by
 induction a using Tm.bA with
 |h k n s l ih=>
 intro b;generalize c:Tm.mk k n s l=a;have ih:∀t∈a.args,∀b:Tm,Fun Tryz.prog 213 [t.avw,b.avw] (.int .i64 (t.cmp b)):=by subst c;exact ih
 clear c;rw[Tm.cmp_eq];refine Fun.of (tj (by simp) ?_) rfl rfl
 conv=>whnf
 repeat' (first|(refine gF ?_;first|refine ae.fn (Gw) ?_|refine ae.fn (G6) ?_|refine ae.fn (G5) ?_|refine ae.fn (Mh (by have:=si.1 (show eU (a.args.length:Int) b.args.length=0 by assumption);omega) ih) ?_)|(refine gG ?_;first|refine aW.fn (Gw) ?_|refine aW.fn (G6) ?_|refine aW.fn (G5) ?_|refine aW.fn (NG) ?_)|(refine gC ?_;first|refine .not ?_|refine gD (cI ?_)|refine ak.dec (λd=>?_) (λd=>?_))|refine gL (.map ?_)|refine ag.nrm ?_)<;>conv=>whnf
 all_goals (clear ih;simp_all[orI])
theorem wN(a:Tm):∀b:Tm,Fun Tryz.prog 161 [a.avw,b.avw] (.int .i64 (a.cmp b)):=by
 induction a using Tm.bA with
 |h k n s l ih=>
 intro b;generalize c:Tm.mk k n s l=a;have ih:∀t∈a.args,∀b:Tm,Fun Tryz.prog 161 [t.avw,b.avw] (.int .i64 (t.cmp b)):=by subst c;exact ih
 clear c;rw[Tm.cmp_eq];refine Fun.of (iQ (by simp) ?_) rfl rfl
 conv=>whnf
 repeat' (first|(refine gF ?_;first|refine ae.fn (DB) ?_|refine ae.fn (ph) ?_|refine ae.fn (Ci) ?_|refine ae.fn (CV ih) ?_)|(refine gG ?_;first|refine aW.fn (DB) ?_|refine aW.fn (ph) ?_)|(refine gC ?_;first|refine .not ?_|(refine gD ?_;first|refine cI ?_|refine cJ ?_)|refine ak.dec (λd=>?_) (λd=>?_))|refine gL (.map ?_)|refine ag.nrm ?_)<;>conv=>whnf
 all_goals (clear ih;simp_all[orI])
theorem J9{l m:List Tm}:Fun Tryz.prog 110 [slA Tm.av l,slA Tm.av m] (.int .i64 (Tm.eI l m)):=CV λt _ b=>wN t b
theorem I5(a:Tm):∀left deep:Int,-4294967296<=left->left<=4294967296->0<=deep->deep<=64->Fun Tryz.prog 93 [slA Tm.av a.args,.int .i64 left,.int .i64 deep] (.int .i64 (cV a.args left deep)):=by
 induction a using Tm.bA with
 |h k n s l ih=>
 intro left deep z y w v;rw[show (Tm.mk k n s l).args=l from rfl];refine Fun.assume rfl λf=>?_;have c:=aS (f (slA Tm.av l) (by simp))
 have t:=c.1;refine Fun.of (ke (by simp) ?_) rfl rfl
 conv=>whnf
 repeat' (first|(refine gC ?_;first|refine cY ?_|(refine gD ?_;first|refine cI ?_|refine cJ ?_)|refine ak.lt (λg=>?_) (λg=>?_)|refine ak.dec (λg=>?_) (λg=>?_))|refine gL (.map ?_)|refine ag.nrm ?_)<;>conv=>whnf
 .rw [cV,if_pos (.inl (by assumption))]
 .rw [cV,if_pos (.inr (by assumption))]
 .have p:cV l left deep=Tm.oD l left deep:=by rw[cV,if_neg (by omega)]
  rw[p];refine ax.by (fb:=true) (λs (q:Nat×Int)=>s.bD [(1,.int .i64 q.2),(7,.int .i64 q.1)]) (λq=>q.1<=l.length/\(-1<=q.2/\q.2<=4294967296)/\Tm.oD (l.drop q.1) q.2 deep=Tm.oD l left deep) (λq=>l.length-q.1) (0,left) ⟨zJ _,by simp only;omega,rfl⟩ ?_ ?_
  .exact aN
  .rintro ⟨j,r⟩ ⟨o,hr,he⟩;dsimp only at o hr he|-
   by_cases b:j<l.length
   .obtain ⟨x,i⟩:∃x,l[j]? =some x:=⟨_,zA b⟩;have m:=(ox (vJ (c.2 x (zE i)))).1
    by_cases d:0<=r
    .rw [Hj i d] at he;have hw:=M3 x r deep hr.1;rw[Tm.Ei] at hw he;have u:=xt x.name.size
     conv=>whnf
     repeat' (first|(refine gG ?_;refine aW.fn (ih _ (zE (by assumption)) _ _ (by omega) (by omega) (by omega) (by omega)) ?_)|refine gC (gD (cI ?_))|refine gW (wI ?_)|refine gL (.map ?_)|refine gN (nS ?_)|refine gI (gT (iA ?_)))<;>conv=>whnf
     refine⟨(j+1,cV x.args (r-1-(x.name.size:Int).tdiv 8) (deep-1)),⟨⟨b,?_,he⟩,by simp only;omega⟩,?_⟩
     .simp only;omega
     .exact aN
    .rw [I4 _ (by omega)] at he
     conv=>whnf
     repeat' (first|(refine gC ?_;(refine gD ?_;first|refine cI ?_|refine cJ ?_))|refine gL (.map ?_)|refine ag.nrm ?_)<;>conv=>whnf
     rw[he]
   .have e:j=l.length:=by omega
    subst e;rw[zj,Tm.oD] at he
    conv=>whnf
    repeat' (first|(refine gC ?_;first|refine cN ?_|refine gD (cJ ?_))|refine gL (.map ?_)|refine ag.nrm ?_)<;>conv=>whnf
    rw[he]
theorem BK{l:List Tm}{left deep:Int}(d:-4294967296<=left)(c:left<=4294967296)(b:0<=deep)(a:deep<=64):Fun Tryz.prog 93 [slA Tm.av l,.int .i64 left,.int .i64 deep] (.int .i64 (cV l left deep)):=I5 (.mk 0 0 .empty l) left deep d c b a
end Go.CK
namespace Go.CK
open Go.AM Go.Proofs
def tT{α:Type}(a b:List α)(j:Nat):Prop:=∀i,i<j->a[i]? =b[i]?
theorem tT.zero{α:Type}{a b:List α}:tT a b 0:=λi h=>by omega
theorem tT.succ{α:Type}{a b:List α}{j:Nat}{x y:α}(h:tT a b j)(f:a[j]? =some x)(d:b[j]? =some y)(e:x=y):tT a b (j+1):=λi g=>by
 by_cases c:i=j
 .subst c;rw[f,d,e]
 .exact h i (by omega)
theorem tT.all{α:Type}{a b:List α}(h:tT a b a.length)(d:a.length=b.length):a=b:=Zo λi=>by
 rcases zt i a.length with c|c
 .exact h i c
 .rw [zR c,zR (by omega)]
theorem MO{α:Type}{a b:List α}{j:Nat}{x y:α}(d:a[j]? =some x)(c:b[j]? =some y)(e:¬x=y):¬a=b:=λh=>by subst h;rw[d] at c;exact e (yJ c)
theorem JY{α:Type}{a b:List α}(h:¬(a.length:Int)=b.length):¬a=b:=λe=>h (by rw[e])
theorem B8{a b:List Int}:Fun Tryz.prog 17 [slA aG a,slA aG b] (.bool (decide (a=b))):=by
 refine Fun.assume rfl λe=>?_;refine Fun.of (gU (by simp) ?_) rfl rfl
 conv=>whnf
 have i:=(aS (e (slA aG a) (by simp))).1
 conv=>whnf
 repeat' (first|(refine gC ?_;first|refine .not ?_|refine ak.dec (λf=>?_) (λf=>?_))|refine gL (.map ?_)|refine ag.nrm ?_)<;>conv=>whnf
 .refine ax.count (fb:=true) (a.length) (λd j=>d.bD [(5,.int .i64 j)]) (λj=>tT a b j) ?_ ?_ (λj h c=>?_) (λc=>?_)
  .exact tT.zero
  .exact aN
  .conv=>whnf
   repeat' (first|(refine gC ?_;first|refine .not ?_|refine gD (cI ?_)|refine ak.dec (λf=>?_) (λf=>?_))|refine gW (wI ?_)|refine gL (.map ?_)|(refine gI ?_;(refine gM ?_;refine iH λx g=>?_))|refine ag.nrm ?_)<;>conv=>whnf
   .refine ⟨c.succ (by assumption) (by assumption) (by assumption),?_⟩
    exact aN
   .exact tO (MO (by assumption) (by assumption) (by assumption))
  .conv=>whnf
   repeat' (first|(refine gC ?_;first|refine cN ?_|refine gD (cJ ?_))|refine gL (.map ?_)|refine ag.nrm ?_)<;>conv=>whnf
   exact DO (c.all (by omega))
 .exact tO (JY (by assumption))
theorem ye{a b:List Int}:Fun Tryz.prog 131 [slA aG a,slA aG b] (.bool (decide (a=b))):=by
 refine Fun.assume rfl λe=>?_;refine Fun.of (k8 (by simp) ?_) rfl rfl
 conv=>whnf
 have i:=(aS (e (slA aG a) (by simp))).1
 conv=>whnf
 repeat' (first|(refine gC ?_;first|refine .not ?_|refine ak.dec (λf=>?_) (λf=>?_))|refine gL (.map ?_)|refine ag.nrm ?_)<;>conv=>whnf
 .refine ax.count (fb:=true) (a.length) (λd j=>d.bD [(13,.int .i64 j)]) (λj=>tT a b j) ?_ ?_ (λj h c=>?_) (λc=>?_)
  .exact tT.zero
  .exact aN
  .conv=>whnf
   repeat' (first|(refine gC ?_;first|refine .not ?_|refine gD (cI ?_)|refine ak.dec (λf=>?_) (λf=>?_))|refine gW (wI ?_)|(refine gI ?_;(refine gM ?_;refine iH λx g=>?_))|refine ag.nrm ?_)<;>conv=>whnf
   .refine ⟨c.succ (by assumption) (by assumption) (by assumption),?_⟩
    exact aN
   .exact tO (MO (by assumption) (by assumption) (by assumption))
  .conv=>whnf
   repeat' (first|refine gC (gD (cJ ?_))|refine ag.nrm ?_)<;>conv=>whnf
   exact DO (c.all (by omega))
 .exact tO (JY (by assumption))
def isI(n:Int)(x:Int):Bool:=decide (n=x)
theorem BD(l:List Int)(n:Int):l.any (isI n)=decide (n∈l):=by
 rw[Bool.eq_iff_iff];simp[isI]
theorem Ks{l:List Int}{n:Int}:Fun Tryz.prog 177 [slA aG l,.int .i64 n] (.int .i64 (eV (isI n) l)):=by
 refine Fun.assume rfl λc=>?_;have g:=(aS (c (slA aG l) (by simp))).1
 refine Fun.of (k7 (by simp) ?_) rfl rfl
 conv=>whnf
 repeat' refine gL (.map ?_)<;>conv=>whnf
 refine ax.count (fb:=true) (l.length) (λb j=>b.bD [(8,.int .i64 j)]) (λj=>∀i x,i<j->l[i]? =some x->isI n x=false) ?_ ?_ (λj f a=>?_) (λa=>?_)
 .exact ch
 .exact aN
 .conv=>whnf
  repeat' (first|(refine gC ?_;first|refine gD (cI ?_)|refine ak.dec (λd=>?_) (λd=>?_))|refine gW (wI ?_)|(refine gI ?_;(refine gM ?_;refine iH λx e=>?_))|refine ag.nrm ?_)<;>conv=>whnf
  .rw [fN a (by assumption) (by simp[isI, *])]
  .refine ⟨bM a (by assumption) (by simp[isI, *]),?_⟩
   exact aN
 .conv=>whnf
  repeat' (first|refine gC (gD (cJ ?_))|refine ag.nrm ?_)<;>conv=>whnf
  rw[jc a]
theorem s0{l:List Int}{n:Int}:Fun Tryz.prog 127 [slA aG l,.int .i64 n] (.bool (decide (n∈l))):=by
 rw[<-BD,<-fh];refine Fun.of (iM (by simp) ?_) rfl rfl
 conv=>whnf
 repeat' (first|refine gF (ae.fn (Ks) ?_)|refine ag.nrm ?_)<;>conv=>whnf
theorem KA{l:List Int}{n:Int}:Fun Tryz.prog 234 [slA aG l,.int .i64 n] (.bool (decide (n∈l))):=by
 rw[<-BD];refine Fun.assume rfl λc=>?_;have g:=(aS (c (slA aG l) (by simp))).1
 refine Fun.of (l0 (by simp) ?_) rfl rfl
 conv=>whnf
 skip;refine ax.count (fb:=true) (l.length) (λb j=>b.bD [(5,.int .i64 j)]) (λj=>∀i x,i<j->l[i]? =some x->isI n x=false) ?_ ?_ (λj f a=>?_) (λa=>?_)
 .exact ch
 .exact aN
 .conv=>whnf
  repeat' (first|(refine gC ?_;first|refine gD (cI ?_)|refine ak.dec (λd=>?_) (λd=>?_))|refine gW (wI ?_)|refine gL (.map ?_)|(refine gI ?_;(refine gM ?_;refine iH λx e=>?_))|refine ag.nrm ?_)<;>conv=>whnf
  .rw [n9 (by assumption) (by simp[isI, *])]
  .refine ⟨bM a (by assumption) (by simp[isI];omega),?_⟩
   exact aN
 .conv=>whnf
  repeat' (first|refine gC (gD (cJ ?_))|refine gL (.map ?_)|refine ag.nrm ?_)<;>conv=>whnf
  rw[ss a]
theorem Al{l m:List Tm}:Fun Tryz.prog 58 [slA Tm.av l,slA Tm.av m] (.bool (decide (Tm.eI l m=0))):=by
 refine Fun.of (gb (by simp) ?_) rfl rfl
 conv=>whnf
 repeat' (first|refine gF (ae.fn (J9) ?_)|refine ag.nrm ?_)<;>conv=>whnf
end Go.CK
namespace Go.CK
open Go.AM Go.Proofs
mutual
def Tm.vs:Tm->List Int
 |.mk k n _ l=>if k=1 then [n] else if k=2 then Tm.vss l else []
def Tm.vss:List Tm->List Int
 |[]=>[]
 |t::r=>t.vs++Tm.vss r
end
def Tm.use(t:Tm):List Tm:=if t.kind=2 then t.args else []
theorem Tm.Ou{t:Tm}(h:t.kind=1):t.vs=[t.num]:=by
 obtain⟨k,n,s,l⟩:=t;simp only[Tm.kind] at h;rw[Tm.vs,if_pos h];rfl
theorem Tm.M4{t:Tm}(h:¬t.kind=1):t.vs=Tm.vss t.use:=by
 obtain⟨k,n,s,l⟩:=t;simp only[Tm.kind] at h;rw[Tm.vs,if_neg h];unfold Tm.use;show _=Tm.vss (if k=2 then l else [])
 by_cases a:k=2
 .rw [if_pos a,if_pos a]
 .rw [if_neg a,if_neg a,Tm.vss]
theorem Tm.js:∀l m:List Tm,Tm.vss (l++m)=Tm.vss l++Tm.vss m
 |[],m=>rfl
 |t::l,m=>by rw[ze,Tm.vss,Tm.vss,Tm.js l m,zg]
theorem Tm.mZ{l:List Tm}{j:Nat}{x:Tm}(h:l[j]? =some x):Tm.vss (l.take (j+1))=Tm.vss (l.take j)++x.vs:=by
 obtain⟨a,rfl⟩:=zB.1 h;rw[List.take_succ_eq_append_getElem a,Tm.js];simp[Tm.vss]
theorem Tm.kH{l:List Tm}{j:Nat}{x:Tm}(h:l[j]? =some x):Tm.vss l=Tm.vss (l.take j)++(x.vs++Tm.vss (l.drop (j+1))):=by
 rw[<-zg,<-Tm.mZ h,<-Tm.js,List.take_append_drop]
def ys1(l:List Int):List (List AV):=l.map λn=>[aG n]
theorem pO(l m:List Int):ys1 (l++m)=ys1 l++ys1 m:=by simp[ys1]
theorem GJ{a:Tm}{x:Tm}(h:x∈a.use):x∈a.args:=by
 unfold Tm.use at h;split at h
 .exact h
 .cases h
theorem MH{a:Tm}:Fun Tryz.prog 209 [a.avw] (slA Tm.av a.use):=by
 refine Fun.of (AT (by simp) ?_) rfl rfl
 conv=>whnf
 repeat' (first|(refine gC ?_;refine ak.dec (λb=>?_) (λb=>?_))|refine ag.nrm ?_)<;>conv=>whnf
 all_goals simp[Tm.use, *]
theorem iw{a:Tm}:Fun Tryz.prog 212 [a.avw] (slA Tm.av a.use):=by
 refine Fun.of (lh (by simp) ?_) rfl rfl
 conv=>whnf
 repeat' (first|(refine gC ?_;refine ak.dec (λb=>?_) (λb=>?_))|refine ag.nrm ?_)<;>conv=>whnf
 all_goals simp[Tm.use, *]
structure YC(P:Program)(b n0:Nat)(xs:List (List AV))(J:List (List AV)->List Box->Prop)(Jx:List Box->Prop):Prop where
 hb:b<n0
 hJ:∀pre bs',J pre bs'->bs'.length=n0/\aj n0 bs'=true
 hJx:∀bs',Jx bs'->bs'.length=n0/\aj n0 bs'=true
 hr:∀pre y rest bs' cs,pre++y::rest=xs->J pre bs'->mB P b y (bs'++cs) λr bs2=>∃own,bs2=own++cs/\((r=.bool true/\J (pre++[y]) own)\/(r=.bool false/\Jx own))
theorem bl2{a:Nat}{own cs:List Box}(h:own.length=a/\aj a own=true)(b:aj (a+cs.length) cs=true):aj (own++cs).length (own++cs)=true:=by
 rw[zC,h.1];exact aY (bc (yA _ _) h.2) b
theorem Ly(a:Tm):∀{b f:Nat} {xs:List (List AV)} {J:List (List AV)->List Box->Prop} {Jx:List Box->Prop} (hC:YC Tryz.prog b f xs J Jx) (pre rest:List (List AV)) (bs cs:List Box),pre++(ys1 a.vs++rest)=xs->J pre bs->aj (f+cs.length) cs=true->
  AM.Sem Tryz.prog 183 [a.avw,.yl b] (bs++cs) λr bs'=>∃own,bs'=own++cs/\((r=.bool true/\J (pre++ys1 a.vs) own)\/(r=.bool false/\Jx own)):=by
 induction a using Tm.bA with
 |h k n s l ih=>
 intro b f xs J Jx hC pre rest bs cs m z d;generalize D:Tm.mk k n s l=a at m|-
 have ih:∀t∈a.args,∀{b f:Nat} {xs:List (List AV)} {J:List (List AV)->List Box->Prop} {Jx:List Box->Prop} (hC:YC Tryz.prog b f xs J Jx) (pre rest:List (List AV)) (bs cs:List Box),pre++(ys1 t.vs++rest)=xs->J pre bs->aj (f+cs.length) cs=true->
  AM.Sem Tryz.prog 183 [t.avw,.yl b] (bs++cs) λr bs'=>∃own,bs'=own++cs/\((r=.bool true/\J (pre++ys1 t.vs) own)\/(r=.bool false/\Jx own)):=by subst D;exact ih
 clear D;have C:=hC.hJ _ _ z;refine Sem.assume λA _=>?_;have G:=(ox (A a.avw (by simp) rfl)).2.1
 have F:a.use.length<=4294967296:=by unfold Tm.use;split<;>simp[G]
 refine xa (by simp) ?_
 conv=>whnf
 repeat' (first|refine gF (ae.fn (MH) ?_)|(refine gC ?_;refine ak.dec (λB=>?_) (λB=>?_))|refine gL (.map ?_)|refine gB (.last ?_))<;>conv=>whnf
 .rw [Tm.Ou B] at m|-;have E:=hC.hr pre [aG a.num] rest bs (cs++[.cells [.int .i64 a.kind,.int .i64 a.num,.str a.name,.sl .no (a.args.map Tm.av)]]) m z;rw[<-zg] at E;refine sw.of E ?_;rintro r bs' ⟨own,rfl,h⟩
  have w:own.length=f/\aj f own=true:=by
   rcases h with ⟨_,h⟩|⟨_,h⟩
   .exact hC.hJ _ _ h
   .exact hC.hJx _ h
  rcases h with ⟨rfl,h⟩|⟨rfl,h⟩
  .conv=>whnf
   skip;refine ag.qU (own:=own++cs) (zg _ _ _).symm (show (bs++cs).length<=(own++cs).length by simp;omega) rfl (bl2 w d) ?_
   exact ag.slot ⟨own,rfl,.inl ⟨rfl,h⟩⟩
  .conv=>whnf
   skip;refine ag.qU (own:=own++cs) (zg _ _ _).symm (show (bs++cs).length<=(own++cs).length by simp;omega) rfl (bl2 w d) ?_
   exact ag.slot ⟨own,rfl,.inr ⟨rfl,h⟩⟩
 .rw [Tm.M4 B] at m|-;refine ax.by (fb:=false) (λ_ (q:Nat×List Box)=>⟨[(1,.yl b),(15,slA Tm.av a.use),(16,.int .i64 a.use.length),(17,.int .i64 q.1)],q.2++cs,(bs++cs).length⟩) (λq=>q.1<=a.use.length/\J (pre++ys1 (Tm.vss (a.use.take q.1))) q.2) (λq=>a.use.length-q.1) (0,bs) ⟨zJ _,by simpa[Tm.vss,ys1] using z⟩ ?_ ?_
  .refine al.qU (own:=bs++cs) rfl (zG _) ?_ (bl2 C d) ?_
   .simp [fO,AV.lt,AV.lt1,AV.lt0,AV.aZ];have:=hC.hb;omega
   .refine al.atS ?_ rfl rfl
    conv=>whnf
    repeat' (first|(refine gV ?_;first|refine vE ?_|refine vI ?_)|exact True.intro)<;>conv=>whnf
  .rintro ⟨j,own⟩ ⟨y,e⟩;dsimp only at y e|-;have w:=hC.hJ _ _ e
   by_cases o:j<a.use.length
   .obtain ⟨x,g⟩:∃x,a.use[j]? =some x:=⟨_,zA o⟩
    conv=>whnf
    repeat' (first|refine gC (gD (cI ?_))|refine gI (gT (iA ?_))|refine gB (.last ?_)|refine jI.last ?_)<;>conv=>whnf
    have v:=Tm.kH g;have u:=Tm.mZ g;have p:=ih x (GJ (zE g)) hC (pre++ys1 (Tm.vss (a.use.take j))) (ys1 (Tm.vss (a.use.drop (j+1)))++rest) own (cs++[.cells [.int .i64 x.kind,.int .i64 x.num,.str x.name,.sl .no (x.args.map Tm.av)]]) (by rw[<-m,v];simp[pO]) e (aY (bc (by simp) d) rfl)
    rw[<-zg] at p;refine ae.raw p ?_;rintro r bs' ⟨c,rfl,⟨rfl,h⟩|⟨rfl,h⟩⟩
    .have i:=hC.hJ _ _ h
     conv=>whnf
     repeat' (first|(refine gC ?_;first|refine cY ?_|refine .not ?_)|refine gW (wI ?_)|fail)<;>conv=>whnf
     refine⟨(j+1,c),⟨⟨o,?_⟩,by simp only;omega⟩,al.qU (own:=c++cs) (zg _ _ _).symm (show (bs++cs).length<=(c++cs).length by simp;omega) ?_ (bl2 i d) ?_⟩
     .dsimp only;rw[u,pO,<-zg];exact h
     .simp [fO,AV.lt,AV.lt1,AV.lt0,AV.aZ];have:=hC.hb;omega
     .refine al.atS ?_ rfl rfl
      conv=>whnf
      repeat' (first|(refine gV ?_;first|refine vE ?_|refine vI ?_)|exact True.intro)<;>conv=>whnf
    .have i:=hC.hJx _ h
     conv=>whnf
     repeat' (refine gC ?_;first|refine cN ?_|refine .not ?_)<;>conv=>whnf
     refine ag.qU (own:=c++cs) (zg _ _ _).symm (show (bs++cs).length<=(c++cs).length by simp;omega) rfl (bl2 i d) ?_
     exact ag.slot ⟨c,rfl,.inr ⟨rfl,h⟩⟩
   .obtain rfl:j=a.use.length:=by omega
    rw[zz] at e
    conv=>whnf
    repeat' refine gC (gD (cJ ?_))<;>conv=>whnf
    exact ag.slot ⟨own,rfl,.inl ⟨rfl,e⟩⟩
theorem Bm{l:List Tm}:Fun Tryz.prog 134 [slA Tm.av l] (.fn (.func 182) [] [.ept [slA Tm.av l]]):=by
 refine Fun.of (AS (by simp) ?_) rfl rfl
 conv=>whnf
 skip;refine ag.of (Lp.freeze 0 rfl rfl rfl rfl ?_)
 conv=>whnf
 rfl
theorem Iq(l:List Tm):yw Tryz.prog 182 [.ept [slA Tm.av l]] (ys1 (Tm.vss l)):=by
 intro b bs J Jx hb hJ hJx hr o;have hC:YC Tryz.prog b bs.length (ys1 (Tm.vss l)) J Jx:=⟨hb,hJ,hJx,hr⟩;refine Sem.assume λ_ m=>?_;have s:=(aS (m [slA Tm.av l] (by simp) (slA Tm.av l) (by simp))).1
 refine tt (by simp) ?_
 conv=>whnf
 repeat' refine gL (.map ?_)<;>conv=>whnf
 refine ax.by (fb:=false) (λ_ (q:Nat×List Box)=>⟨[(0,.yl b),(1,.ept [slA Tm.av l]),(5,.int .i64 l.length),(6,.int .i64 q.1)],q.2,bs.length⟩) (λq=>q.1<=l.length/\J (ys1 (Tm.vss (l.take q.1))) q.2) (λq=>l.length-q.1) (0,bs) ⟨zJ _,by simpa[Tm.vss,ys1] using o⟩ (al.eqS rfl rfl rfl) ?_
 rintro⟨j,own⟩ ⟨k,a⟩;dsimp only at k a|-;have p:=hC.hJ _ _ a
 by_cases e:j<l.length
 .obtain ⟨x,d⟩:∃x,l[j]? =some x:=⟨_,zA e⟩
  conv=>whnf
  repeat' (first|refine gC (gD (cI ?_))|refine gI (gT (iA ?_)))<;>conv=>whnf
  have i:=Tm.kH d;have g:=Tm.mZ d;have f:=Ly x hC (ys1 (Tm.vss (l.take j))) (ys1 (Tm.vss (l.drop (j+1)))) own [] (by rw[i,pO,pO]) a rfl
  rw[zy] at f;refine ae.raw f ?_;rintro r bs' ⟨c,rfl,⟨rfl,h⟩|⟨rfl,h⟩⟩
  .have n:=hC.hJ _ _ h
   conv=>whnf
   repeat' (first|(refine gC ?_;first|refine cY ?_|refine .not ?_)|refine gW (wI ?_)|fail)<;>conv=>whnf
   refine⟨(j+1,c),⟨⟨e,?_⟩,by simp only;omega⟩,?_⟩
   .dsimp only;rw[g,pO];exact h
   .refine al.atS ?_ (zy _) rfl
    conv=>whnf
    repeat' (first|(refine gV ?_;first|refine vE ?_|refine vI ?_)|exact True.intro)<;>conv=>whnf
  .conv=>whnf
   repeat' (first|(refine gC ?_;first|refine cN ?_|refine .not ?_)|refine ag.nrm ?_)<;>conv=>whnf
   refine Or.inr ?_;rw[zy];exact h
 .obtain rfl:j=l.length:=by omega
  rw[zz] at a
  conv=>whnf
  repeat' (first|refine gC (gD (cJ ?_))|refine ag.nrm ?_)<;>conv=>whnf
  exact Or.inl a
def wD(l:List Int)(n:Int):List Int:=if n∈l then l else l++[n]
def bT(l m:List Int):List Int:=m.foldl wD l
theorem oC(l m k:List Int):bT l (m++k)=bT (bT l m) k:=by simp[bT]
theorem F3(l m:List Int)(n:Int):bT l (m++[n])=wD (bT l m) n:=by simp[bT]
theorem Lm(l:List Int)(n:Int):(wD l n).length<=l.length+1:=by
 unfold wD;split<;>simp
theorem cU:∀(m l:List Int),(bT l m).length<=l.length+m.length
 |[],l=>by simp[bT]
 |n::m,l=>by
  have b:=cU m (wD l n);have a:=Lm l n;show (bT (wD l n) m).length<=_;simp only[zX];omega
theorem Hc{l:List Int}{n:Int}(h:n∈l):wD l n=l:=if_pos h
theorem Ec{l:List Int}{n:Int}(h:¬n∈l):wD l n=l++[n]:=if_neg h
def aV(l:List Int):List Int:=bT [] l
theorem A1{l:List Tm}(f:(Tm.vss l).length<=100000):Fun Tryz.prog 133 [.fn (.func 182) [] [.ept [slA Tm.av l]]] (slA aG (aV (Tm.vss l))):=by
 refine Fun.of (AQ (by simp) ?_) rfl rfl
 conv=>whnf
 skip
 refine jl.each (λn:Int=>[aG n]) (Tm.vss l) ⟨[(2,.sl .full []),(3,.ptr 0 0),(4,.ptr 2 0),(7,.fn (.func 182) [] [.ept [slA Tm.av l]])],[.cells [.sl (.own 1) []],.mp [],.cells [.mpt 1]],0⟩
  (λpre=>[.cells [.sl (.own 1) ((aV pre).map aG)],.mp (dX (.bool true) (aV pre)),.cells [.mpt 1]]) (Iq l) (by kernel_rfl) ?_ rfl (λ_=>rfl) (λ_=>rfl) rfl (λ_=>⟨rfl,rfl⟩) ?_ ?_
 .refine al.Bn 0 0 1 rfl (by simp) ?_
  exact al.eqS rfl rfl rfl
 .intro x pre y rest b
  have d:(aV pre).length+1<=100000:=by
   have:=congrArg List.length b;have e:=cU pre [];simp at this;unfold aV;simp at e;omega
  have a:aV (pre++[y])=wD (aV pre) y:=F3 [] pre y
  conv=>whnf
  repeat' (first|(refine gC ?_;first|refine cY ?_|refine cN ?_|refine .not ?_)|refine gN (nS ?_)|refine gA (aP ?_)|refine gMp (mA ?_)|(refine gMs ?_;refine mS (λc=>?_) (λc=>?_)))<;>conv=>whnf
  .rw [Hc c] at a;refine sB.by ?_ rfl rfl rfl
   conv=>whnf
   repeat' (first|refine xB ?_|(refine BxN.mk ?_ ?_;(focus (simp[a];done)))|exact True.intro)<;>conv=>whnf
  .rw [Ec c] at a;refine sB.by ?_ rfl rfl rfl
   conv=>whnf
   repeat' (first|refine xB ?_|(refine BxN.mk ?_ ?_;(focus (simp[a,qv,St.ev];done)))|exact True.intro)<;>conv=>whnf
 .conv=>whnf
  repeat' refine ag.nrm ?_<;>conv=>whnf
end Go.CK
