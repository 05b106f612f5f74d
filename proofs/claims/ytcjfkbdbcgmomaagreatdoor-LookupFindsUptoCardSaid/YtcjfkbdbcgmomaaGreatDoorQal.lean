/-
  By an AI agent.
-/
import Derived.Test.YtcjfkbdbcgmomaaGreatDoorQak
set_option linter.unusedSimpArgs false
set_option linter.unusedVariables false
namespace Go.AM
open Go.CK Go.RowKit
def cellsD(bs:List Box)(b:Nat):Option (List AV):=match aa bs b with
 |some cs=>some (cs.map AV.aI)
 |none=>none
def stb(bs bs':List Box):List AV->Prop
 |[]=>True
 |.ptr b _::vs=>cellsD bs' b=cellsD bs b/\stb bs bs' vs
 |.elp b _ _ _::vs=>cellsD bs' b=cellsD bs b/\stb bs bs' vs
 |_::vs=>stb bs bs' vs
def Chk(vs:List AV)(bs bs':List Box):Prop:=(∃t,bs'=bs++t)\/stb bs bs' vs
structure Ee(vs:List AV)(bs bs':List Box)(K:Prop):Prop where
 h:Chk vs bs bs'
 k:K
def Fy(s:St):List Nat->List AV
 |[]=>[]
 |t::ts=>s.ev (.t t)::Fy s ts
theorem Df{s:St}{t:Nat}:∀{ts:List Nat},t∈ts->s.ev (.t t)∈Fy s ts
 |_::ts,h=>by
  rcases zI.1 h with rfl|h
  .simp [Fy]
  .exact zQ _ (Df h)
def iV(P:Program)(V:List Nat):List (Nat×ROp)->St->(St->Prop)->Prop
 |[],s,K=>K s
 |(c,r)::l,s,K=>match c with
  |0=>r.run P true s λa=>iV P V l a K
  |1=>r.run P false s λa=>iV P V l a K
  |_+2=>r.run P false s λa=>Ee (Fy s V) s.bs a.bs (iV P V l a K)
def iv(P:Program)(rs:List ROp)(cs V:List Nat):List Nat->St->(St->Prop)->Prop
 |[],s,K=>K s
 |i::l,s,K=>∃r,rs[i]? =some r/\match cs.getD i 0 with
  |0=>r.run P true s λa=>iv P rs cs V l a K
  |1=>r.run P false s λa=>iv P rs cs V l a K
  |_+2=>r.run P false s λa=>Ee (Fy s V) s.bs a.bs (iv P rs cs V l a K)
def iY:List (Nat×ROp)->List Nat
 |[]=>[]
 |(0,r)::l=>match r.rx.looks with
  |true=>slotsOf r.rx.bp++iY l
  |false=>iY l
 |(_+1,_)::l=>iY l
def MI:List Opd->Bool
 |[]=>true
 |.t _::os=>MI os
 |_::_=>false
def cH(rs:List ROp)(cs:List Nat):List Nat->Option (List (Nat×ROp))
 |[]=>some []
 |i::l=>match rs[i]?,cH rs cs l with
  |some r,some q=>some ((cs.getD i 0,r)::q)
  |_,_=>none
def RX.comes:RX->Bool
 |.call .. |.dM .. |.eff .. |.load .. =>true
 |_=>false
def Dx(q e:ROp):Bool:=(q.rx.ep&&(!q.rx.looks||MI q.rx.bp))&&(e.rx.comes&&(apart q.writes (e.reads++e.writes)&&apart e.writes q.reads))
def Cu(rs:List ROp)(cs:List Nat)(m i k:Nat):Bool:=m.testBit k||(Nat.beq (cs.getD k 0) 0&&match rs[k]?,rs[i]? with
 |some x,some y=>match cs.getD i 0 with
  |0=>indep x y
  |1=>false
  |_+2=>Dx x y
 |_,_=>false)
def LP(rs:List ROp)(cs:List Nat)(m i:Nat):List Nat->Bool
 |[]=>true
 |k::l=>Cu rs cs m i k&&LP rs cs m i l
def sH(rs:List ROp)(cs ms:List Nat)(seen:List Nat):List Nat->Bool
 |[]=>true
 |i::l=>LP rs cs (ms.getD i 0) i seen&&sH rs cs ms (i::seen) l
def pB(i:Nat):List Nat->Bool
 |[]=>true
 |k::l=>!(Nat.beq k i)&&pB i l
def uZ:List Nat->Bool
 |[]=>true
 |i::l=>pB i l&&uZ l
def oa(pi:List Nat):Nat->Bool
 |0=>true
 |n+1=>!(pB n pi)&&oa pi n
def Af(rs:List ROp)(sl:List Nat):List Nat->Bool
 |[]=>true
 |k::l=>(match rs[k]? with
  |some y=>apart y.writes sl
  |none=>true)&&Af rs sl l
def Jt(rs:List ROp):List Nat->Bool
 |[]=>true
 |k::l=>(match rs[k]? with
  |some x=>!x.rx.looks||Af rs (slotsOf x.rx.bp) (k::l)
  |none=>true)&&Jt rs l
def Ssa(rs:List ROp)(k m:Nat):Prop:=∀x y,rs[k]? =some x->rs[m]? =some y->x.rx.looks=true->∀t∈slotsOf x.rx.bp,t∉y.writes
theorem sG{rs:List ROp}{sl:List Nat}:∀{l:List Nat},Af rs sl l=true->∀m∈l,∀y,rs[m]? =some y->∀t∈sl,t∉y.writes
 |k::l,h,m,hm,y,a,t,b=>by
  simp only[Af,zD] at h;rcases zI.1 hm with rfl|hm
  .have c:=h.1;rw[a] at c;exact λhw=>apart_spec c t hw b
  .exact sG h.2 m hm y a t b
theorem oh{rs:List ROp}:∀{l:List Nat},Jt rs l=true->l.Pairwise (Ssa rs)/\∀k∈l,Ssa rs k k
 |[],_=>⟨.nil,λk hk=>by cases hk⟩
 |k::l,h=>by
  simp only[Jt,zD] at h;obtain⟨f,e⟩:=oh h.2
  have key:∀m∈k::l,Ssa rs k m:=λm hm x y c b d=>by
   have a:=h.1;rw[c] at a;simp only[d,Bool.not_true,Bool.false_or] at a;exact sG a m hm y b
  exact⟨ZA.2 ⟨λm hm=>key m (by simp[hm]),f⟩,λm hm=>by
   rcases zI.1 hm with rfl|hm
   .exact key _ (by simp)
   .exact e m hm⟩
def x5(ops:Array Oper)(rs:List ROp)(pi cs:List Nat):Bool:=Jt rs pi&&jy ops.toList 0&&(uZ pi&&(oa pi ops.size&&sH rs cs (aQ [] ops.toList) [] pi))
theorem sQ{i:Nat}:∀{l:List Nat},pB i l=true->i∉l
 |[],_,h=>by cases h
 |k::l,h,hm=>by
  simp only[pB,zD,zb] at h;rcases zI.1 hm with rfl|hm
  .rw [lI] at h;cases h.1
  .exact sQ h.2 hm
theorem qt{i:Nat}:∀{l:List Nat},pB i l=false->i∈l
 |[],h=>by cases h
 |k::l,h=>by
  by_cases e:k=i
  .subst e;simp
  .simp only[pB,cw e,Bool.not_false,za] at h;exact zQ _ (qt h)
theorem jv:∀{l:List Nat},uZ l=true->l.Nodup
 |[],_=>.nil
 |i::l,h=>by
  simp only[uZ,zD] at h;exact Zc.2 ⟨sQ h.1,jv h.2⟩
theorem fA{pi:List Nat}:∀{n:Nat},oa pi n=true->∀i,i<n->i∈pi
 |0,_,i,a=>by omega
 |n+1,h,i,a=>by
  simp only[oa,zD,zb] at h
  by_cases e:i=n
  .subst e;exact qt h.1
  .exact fA h.2 i (by omega)
theorem xA{rs:List ROp}{cs:List Nat}{m i:Nat}:∀{l:List Nat},LP rs cs m i l=true->∀k∈l,Cu rs cs m i k=true
 |[],_,k,hk=>by cases hk
 |k0::l,h,k,hk=>by
  simp only[LP,zD] at h;rcases zI.1 hk with rfl|hk
  .exact h.1
  .exact xA h.2 k hk
theorem uh{rs:List ROp}{cs ms:List Nat}:∀{A:List Nat} {seen:List Nat} {i:Nat} {B:List Nat},sH rs cs ms seen (A++i::B)=true->∀k,k∈A\/k∈seen->Cu rs cs (ms.getD i 0) i k=true
 |[],seen,i,B,h,k,hk=>by
  simp only[Zi,sH,zD] at h;rcases hk with hk|hk
  .cases hk
  .exact xA h.1 k hk
 |a::A,seen,i,B,h,k,hk=>by
  simp only[ze,sH,zD] at h;refine uh (A:=A) h.2 k ?_;rcases hk with hk|hk
  .rcases zI.1 hk with rfl|hk
   .exact .inr (by simp)
   .exact .inl hk
  .exact .inr (by simp[hk])
section
variable{P:Program}{rs:List ROp}{cs V:List Nat}{K:St->Prop}
theorem bg{K':St->Prop}(hk:∀x,K x->K' x):∀{q:List (Nat×ROp)} {s:St},iV P V q s K->iV P V q s K'
 |[],_,h=>hk _ h
 |(0,_)::_,_,h=>ROp.mono (λ_ a=>bg hk a) h
 |(1,_)::_,_,h=>ROp.mono (λ_ a=>bg hk a) h
 |(_+2,_)::_,_,h=>ROp.mono (λ_ a=>⟨a.h,bg hk a.k⟩) h
theorem fe:∀{pi:List Nat} {q:List (Nat×ROp)} {s:St},cH rs cs pi=some q->iV P V q s K->iv P rs cs V pi s K
 |[],q,s,d,h=>by cases d;exact h
 |i::l,q,s,d,h=>by
  simp only[cH] at d;split at d
  .rename_i r f hr b;cases d;refine⟨r,hr,?_⟩;revert h
   cases cs.getD i 0 with
   |zero=>exact λh=>ROp.mono (λe a=>fe b a) h
   |succ c=>
    cases c with
    |zero=>exact λh=>ROp.mono (λe a=>fe b a) h
    |succ c=>exact λh=>ROp.mono (λe a=>⟨a.h,fe b a.k⟩) h
  .cases d
theorem ff:∀{pi:List Nat} {q:List (Nat×ROp)},cH rs cs pi=some q->∀k∈pi,cs.getD k 0=0->∀x,rs[k]? =some x->x.rx.looks=true->∀t∈slotsOf x.rx.bp,t∈iY q
 |[],q,a,k,hk=>by cases hk
 |i::l,q,a,k,hk=>by
  simp only[cH] at a;split at a
  .rename_i r e hr d;cases a;intro j x b g t f
   have sub:t∈iY e->t∈iY ((cs.getD i 0,r)::e):=λh=>by
    cases cs.getD i 0 with
    |zero=>
     simp only[iY];split
     .exact ZU _ h
     .exact h
    |succ c=>exact h
   rcases zI.1 hk with rfl|hk
   .rw [hr] at b;cases b;rw[j];simp only[iY,g];exact ZB _ f
   .exact sub (ff d k hk j x b g t f)
  .cases a
theorem iU:∀{pi:List Nat} {q:List (Nat×ROp)},cH rs cs pi=some q->∀i∈pi,i<rs.length
 |[],q,b,i,a=>by cases a
 |k::l,q,b,i,a=>by
  simp only[cH] at b;split at b
  .rename_i r d hr c;rcases zI.1 a with rfl|a
   .exact (zB.1 hr).1
   .exact iU c i a
  .cases b
theorem uf:∀{pre post:List Nat} {s:St},(∀k∈pre,cs.getD k 0=0)->iv P rs cs V (pre++post) s K->∃sm,lL P rs pre s sm/\iv P rs cs V post sm K
 |[],post,s,_,h=>⟨s,rfl,h⟩
 |k::pre,post,s,b,⟨r,hr,h⟩=>by
  rw[b k (by simp)] at h
  obtain⟨s1,f,e⟩:=ROp.ex h;obtain⟨sm,d,c⟩:=uf (λk' a=>b k' (by simp[a])) e
  exact⟨sm,⟨s1,⟨r,hr,f⟩,d⟩,c⟩
theorem rk:∀{pre post:List Nat} {s sm:St},(∀k∈pre,cs.getD k 0=0)->lL P rs pre s sm->iv P rs cs V post sm K->iv P rs cs V (pre++post) s K
 |[],post,s,sm,_,h,k=>by have h:s=sm:=h;subst h;exact k
 |k::pre,post,s,sm,b,⟨s1,⟨r,hr,d⟩,c⟩,hk=>by
  refine⟨r,hr,?_⟩;rw[b k (by simp)]
  refine ROp.mono (λf e=>?_) d;subst e;exact rk (λk' a=>b k' (by simp[a])) c hk
theorem Cq(e:List (Nat×AV))(bs:List Box)(lo k:Nat)(v:AV){d:Option Nat}(a:d≠some k)(r:AV):(⟨aT e k v,bs,lo⟩:St).put d r=((⟨e,bs,lo⟩:St).put d r).put (some k) v:=by
 cases d with
 |none=>rfl
 |some j=>exact St.put_comm (⟨e,bs,lo⟩:St) v r (λx=>a (by rw[x]))
theorem LH{e:TbE}{ab:List AV}{env:List (Nat×AV)}{bs:List Box}{lo k:Nat}{v:AV}{d:Option Nat}{K:St->Prop}
  (pp:∀(bs:List Box) (r:AV),K ((⟨aT env k v,bs,lo⟩:St).put d r)->K (((⟨env,bs,lo⟩:St).put d r).put (some k) v)) (h:tbK e ab ⟨aT env k v,bs,lo⟩ d K):tbK e ab ⟨env,bs,lo⟩ d λn=>K (n.put (some k) v):=by
 cases e with
 |get=>
  obtain⟨b,x,l,key,i,g,f,c,p⟩:=h
  exact⟨b,x,l,key,i,g,f,λr hr m=>pp _ _ (c r hr m),λo=>pp _ _ (p o)⟩
 |put=>
  obtain⟨b,x,l,r,i,g,f,c⟩:=h
  exact⟨b,x,l,r,i,g,f,λj a=>c j a⟩
 |del=>exact h.elim
 |clr=>
  obtain⟨b,x,i,g,f,c⟩:=h
  exact⟨b,x,i,g,f,λj a=>pp _ _ (c j a)⟩
 |Ic=>exact h.elim
 |HQ=>exact h.elim
 |H3=>exact h.elim
theorem Jj{e:TbE}{ab:List AV}{s:St}{d:Option Nat}{K:St->Prop}(h:tbK e ab s d K):tbK e ab s d λm=>K m/\∃bs' c,(∃r,m=(⟨s.env,bs',c⟩:St).put d r)\/m=⟨s.env,bs',c⟩:=by
 cases e with
 |get=>
  obtain⟨b,x,l,key,j,i,g,f,p⟩:=h
  exact⟨b,x,l,key,j,i,g,λr hr n=>⟨f r hr n,_,_,.inl ⟨_,rfl⟩⟩,λo=>⟨p o,_,_,.inl ⟨_,rfl⟩⟩⟩
 |put=>
  obtain⟨b,x,l,r,j,i,g,f⟩:=h
  exact⟨b,x,l,r,j,i,g,λk a=>⟨f k a,_,_,.inr rfl⟩⟩
 |del=>exact h.elim
 |clr=>
  obtain⟨b,x,j,i,g,f⟩:=h
  exact⟨b,x,j,i,g,λk a=>⟨f k a,_,_,.inl ⟨_,rfl⟩⟩⟩
 |Ic=>exact h.elim
 |HQ=>exact h.elim
 |H3=>exact h.elim
theorem KY{e:Eff}{ab:List AV}{s:St}{k:Nat}{v:AV}{d:Option Nat}{K:St->Prop}(g:d≠some k)(h:sf e ab (s.put (some k) v) d K):sf e ab s d λf=>K (f.put (some k) v):=by
 obtain⟨env,bs,lo⟩:=s
 have pp:∀(bs:List Box) (r:AV),K ((⟨aT env k v,bs,lo⟩:St).put d r)->K (((⟨env,bs,lo⟩:St).put d r).put (some k) v):=λbs r x=>by
  rw[Cq _ _ _ _ _ g] at x;exact x
 simp only[St.put] at h;unfold sf at h|-;split at h
 .exact ig (λm k' c ob h=>sd (λn ys h=>⟨h.1,λk' a=>pp _ _ (h.2 k' a)⟩) h) h
 .unfold sq at h|-;split at h
  .exact ig (λm k' c ob h=>⟨h.1,λk' a=>pp _ _ (h.2 k' a)⟩) h
  .exact h
 .unfold Eu at h|-;split at h
  .exact ⟨h.1,pp _ _ h.2⟩
  .exact h
 .exact pp _ _ h
 .exact pp _ _ h
 .unfold ue at h|-;split at h
  .simp only at h|-;split at h
   .exact h
   .exact h
   .exact h.elim
  .exact h
 .unfold vK at h|-;split at h
  .simp only at h|-;split at h
   .split at h
    .exact ⟨h.1,pp _ _ h.2⟩
    .exact pp _ _ h
   .split at h
    .exact ⟨h.1,pp _ _ h.2⟩
    .exact pp _ _ h
   .exact h
  .exact pp _ _ h
  .exact h
 .unfold mkB at h|-;split at h
  .exact ⟨h.1,pp _ _ h.2⟩
  .exact h
 .exact h.elim
 .exact h.elim
 .exact ⟨h.1,pp _ _ h.2⟩
 .exact ⟨λe=>pp _ _ (h.1 e),λe b=>pp _ _ (h.2 e b)⟩
 .exact h.elim
 .exact h.elim
 .exact LH pp h
 .exact h
theorem E6{s:St}{t b off z:Nat}{l:List AV}(h:s.at (.bx b off)=some (.sl (.own z) l)):(((s.put (some t) (.sl .no l)).upd (.bx b off) (.sl .no l)).upd (.sl t) (.sl (.own z) l))=(⟨s.env,(s.upd (.bx b off) (.sl .no l)).bs,s.lo⟩:St).put (some t) (.sl (.own z) l):=by
 obtain⟨env,bs,lo⟩:=s;simp only[St.at] at h
 cases hb:aa bs b with
 |none=>rw[hb] at h;cases h
 |some cs=>simp only[St.upd,St.put,hb,St.aU,pI]
theorem vl{agg:Bool}{n:Nat}{cs:Option (List AV)}{K K':AV->Prop}(hk:∀x,K x->K' x)(h:bV agg n cs K):bV agg n cs K':=by
 unfold bV at h|-;split at h
 .split at h
  .exact af.2 ⟨(af.1 h).1,hk _ (af.1 h).2⟩
  .split at h<;>first|exact hk _ h|exact h
 .exact h
def tF(agg:Bool)(s:St)(d:Option Nat)(p:AV):Prop:=∃t b off z l,agg=false/\d=some t/\p=.ptr b off/\s.at (.bx b off)=some (.sl (.own z) l)
theorem mh{agg:Bool}{n:Nat}{s:St}{d:Option Nat}{p:AV}{K:St->Prop}(h:¬tF agg s d p):eA agg n s d p K=bV agg n (s.rd p) λr=>K (s.put d r):=by
 unfold eA;split
 .rename_i t b off;split
  .rename_i z l a;exact absurd ⟨t,b,off,z,l,rfl,rfl,rfl,a⟩ h
  .rfl
 .rfl
theorem mg{n t b off z:Nat}{l:List AV}{s:St}{K:St->Prop}(a:s.at (.bx b off)=some (.sl (.own z) l)):eA false n s (some t) (.ptr b off) K=K ((⟨s.env,(s.upd (.bx b off) (.sl .no l)).bs,s.lo⟩:St).put (some t) (.sl (.own z) l)):=by
 unfold eA;simp only[a];rw[E6 a]
theorem E5{agg:Bool}{n k:Nat}{v:AV}{d:Option Nat}(m:d≠some k){s:St}{p:AV}{K:St->Prop}(h:eA agg n (s.put (some k) v) d p K):eA agg n s d p λo=>K (o.put (some k) v):=by
 have a:∀b off,(s.put (some k) v).at (.bx b off)=s.at (.bx b off):=λb off=>by rw[St.dY,if_neg (by simp)]
 by_cases g:tF agg s d p
 .obtain ⟨t,b,off,z,l,rfl,rfl,rfl,i⟩:=g;rw[mg ((a b off).trans i)] at h;rw[mg i]
  have e:((⟨(s.put (some k) v).env,((s.put (some k) v).upd (.bx b off) (.sl .no l)).bs,(s.put (some k) v).lo⟩:St).put (some t) (.sl (.own z) l))=((⟨s.env,(s.upd (.bx b off) (.sl .no l)).bs,s.lo⟩:St).put (some t) (.sl (.own z) l)).put (some k) v:=by
   have hb:((s.put (some k) v).upd (.bx b off) (.sl .no l)).bs=(s.upd (.bx b off) (.sl .no l)).bs:=by
    obtain⟨env,bs,lo⟩:=s;simp only[St.upd,St.put];cases aa bs b<;>rfl
   rw[hb];exact St.put_comm (⟨s.env,(s.upd (.bx b off) (.sl .no l)).bs,s.lo⟩:St) v _ (j:=k) (k:=t) (λe=>m (by rw[e]))
  rw[e] at h;exact h
 .have f:¬tF agg (s.put (some k) v) d p:=λ⟨t,b,off,z,l,w,u,r,q⟩=>g ⟨t,b,off,z,l,w,u,r,(a b off).symm.trans q⟩;rw[mh f] at h;rw[mh g];rw[St.rq] at h;refine vl (λx c=>?_) h
  cases d with
  |none=>exact c
  |some j=>
   have:=St.put_comm s v x (j:=k) (k:=j) (λe=>m (by rw[e]))
   rw[this] at c;exact c
theorem Dz{rx:RX}(m:rx.comes=true){d:Option Nat}{k:Nat}(v:AV)(p:k∉slotsOf rx.bp)(j:d≠some k){s:St}{K:St->Prop}(h:rx.run P false (s.put (some k) v) d K):rx.run P false s d λl=>K (l.put (some k) v):=by
 have a:∀o∈rx.bp,(s.put (some k) v).ev o=s.ev o:=λo c=>St.Bk s k v λhk=>p (eg c hk)
 have pp:∀(bs:List Box) (r:AV),K ((⟨aT s.env k v,bs,s.lo⟩:St).put d r)->K (((⟨s.env,bs,s.lo⟩:St).put d r).put (some k) v):=λbs r x=>by
  rw[Cq _ _ _ _ _ j] at x;exact x
 cases rx<;>simp[RX.comes] at m
 case call f args=>
  simp only[RX.run] at h|-;rw[a f (by simp[RX.bp]),dw (λo c=>a o (by simp[RX.bp,c]))] at h
  unfold jD at h|-;split at h
  .obtain ⟨Q,i,g⟩:=h;exact⟨Q,i,λr bs' b=>pp bs' r (g r bs' b)⟩
  .obtain ⟨Q,i,g⟩:=h;exact⟨Q,i,λr bs' b=>pp bs' r (g r bs' b)⟩
  .exact h
 case dM f args=>
  simp only[RX.run] at h|-;rw[a f (by simp[RX.bp]),dw (λo c=>a o (by simp[RX.bp,c]))] at h
  refine⟨h.1,?_⟩;have h:=h.2;unfold jD at h|-;split at h
  .obtain ⟨Q,i,g⟩:=h;exact⟨Q,i,λr bs' b=>pp bs' r (g r bs' b)⟩
  .obtain ⟨Q,i,g⟩:=h;exact⟨Q,i,λr bs' b=>pp bs' r (g r bs' b)⟩
  .exact h
 case load agg n o=>
  simp only[RX.run] at h|-;rw[a o (by simp[RX.bp])] at h
  exact E5 j h
 case eff e args=>
  simp only[RX.run] at h|-;rw[dw (λo c=>a o (by simp[RX.bp,c]))] at h
  exact KY j h
theorem Bt{bs t:List Box}{b:Nat}{cs:List AV}(h:aa bs b=some cs):aa (bs++t) b=some cs:=by
 have hb:=aC h;simp only[aa,zK hb];exact h
theorem Nt{s b:St}{t:List Box}(h:b.bs=s.bs++t)(x:AV)(cs:List AV)(a:s.rd x=some cs):b.rd x=some cs:=by
 cases x<;>simp only[St.rd] at a|-<;>first|exact a|skip
 all_goals
  split at a
  .rename_i d c;rw[h,Bt c];exact a
  .cases a
theorem Dy{rx:RX}(v:rx.comes=true){d:Option Nat}{s:St}{K:St->Prop}(h:rx.run P false s d K):rx.run P false s d λj=>K j/\∃bs' lo,(∃r,j=(⟨s.env,bs',lo⟩:St).put d r)\/j=⟨s.env,bs',lo⟩:=by
 cases rx<;>simp[RX.comes] at v
 case call f args=>
  simp only[RX.run] at h|-;unfold jD at h|-;split at h
  .obtain ⟨Q,i,g⟩:=h;exact⟨Q,i,λr bs' a=>⟨g r bs' a,_,_,.inl ⟨_,rfl⟩⟩⟩
  .obtain ⟨Q,i,g⟩:=h;exact⟨Q,i,λr bs' a=>⟨g r bs' a,_,_,.inl ⟨_,rfl⟩⟩⟩
  .exact h
 case dM f args=>
  simp only[RX.run] at h|-;refine⟨h.1,?_⟩;have h:=h.2;unfold jD at h|-;split at h
  .obtain ⟨Q,i,g⟩:=h;exact⟨Q,i,λr bs' a=>⟨g r bs' a,_,_,.inl ⟨_,rfl⟩⟩⟩
  .obtain ⟨Q,i,g⟩:=h;exact⟨Q,i,λr bs' a=>⟨g r bs' a,_,_,.inl ⟨_,rfl⟩⟩⟩
  .exact h
 case load agg n o=>
  simp only[RX.run] at h|-
  by_cases p:tF agg s d (s.ev o)
  .obtain ⟨t,b,off,z,l,rfl,rfl,hp,u⟩:=p;rw[hp,mg u] at h|-;exact⟨h,_,_,.inl ⟨_,rfl⟩⟩
  .rw [mh p] at h|-;exact vl (λx q=>⟨q,_,_,.inl ⟨x,rfl⟩⟩) h
 case eff e args=>
  simp only[RX.run] at h|-;obtain⟨env,bs,lo⟩:=s;unfold sf at h|-;split at h
  .exact ig (λm k' k ob h=>sd (λn ys h=>⟨h.1,λk' c=>⟨h.2 k' c,_,_,.inl ⟨_,rfl⟩⟩⟩) h) h
  .unfold sq at h|-;split at h
   .exact ig (λm k' k ob h=>⟨h.1,λk' c=>⟨h.2 k' c,_,_,.inl ⟨_,rfl⟩⟩⟩) h
   .exact h
  .unfold Eu at h|-;split at h
   .exact ⟨h.1,h.2,_,_,.inl ⟨_,rfl⟩⟩
   .exact h
  .exact ⟨h,_,_,.inl ⟨_,rfl⟩⟩
  .exact ⟨h,_,_,.inl ⟨_,rfl⟩⟩
  .unfold ue at h|-;split at h
   .simp only at h|-;split at h
    .exact ⟨h.1,h.2,_,_,.inr rfl⟩
    .exact ⟨h.1,h.2,_,_,.inr rfl⟩
    .exact h.elim
   .exact h
  .unfold vK at h|-;split at h
   .simp only at h|-;split at h
    .split at h
     .exact ⟨h.1,h.2,_,_,.inl ⟨_,rfl⟩⟩
     .exact ⟨h,_,_,.inl ⟨_,rfl⟩⟩
    .split at h
     .exact ⟨h.1,h.2,_,_,.inl ⟨_,rfl⟩⟩
     .exact ⟨h,_,_,.inl ⟨_,rfl⟩⟩
    .exact h
   .exact ⟨h,_,_,.inl ⟨_,rfl⟩⟩
   .exact h
  .unfold mkB at h|-;split at h
   .exact ⟨h.1,h.2,_,_,.inl ⟨_,rfl⟩⟩
   .exact h
  .exact h.elim
  .exact h.elim
  .exact ⟨h.1,h.2,_,_,.inl ⟨_,rfl⟩⟩
  .exact ⟨λe=>⟨h.1 e,_,_,.inl ⟨_,rfl⟩⟩,λe b=>⟨h.2 e b,_,_,.inl ⟨_,rfl⟩⟩⟩
  .exact h.elim
  .exact h.elim
  .exact Jj h
  .exact h
theorem mem_reads{r:ROp}{o:Opd}{k:Nat}(h:o∈r.rx.bp)(hk:k∈o.cn):k∈r.reads:=ZU _ (eg h hk)
theorem r9{s:St}{bs':List Box}{lo:Nat}{d:Option Nat}{a:St}(h:(∃r,a=(⟨s.env,bs',lo⟩:St).put d r)\/a=⟨s.env,bs',lo⟩){t:Nat}(b:d≠some t):a.get t=s.get t:=by
 rcases h with ⟨r,rfl⟩|rfl
 .cases d with
  |none=>rfl
  |some d=>exact St.fu _ _ _ (λe=>b (by rw[e]))
 .rfl
theorem Gn{bs bs':List Box}{v:AV}:∀{vs:List AV},stb bs bs' vs->v∈vs->stb bs bs' [v]
 |w::vs,h,a=>by
  have b:stb bs bs' [w]/\stb bs bs' vs:=by cases w<;>first|exact⟨trivial,h⟩|exact⟨⟨h.1,trivial⟩,h.2⟩
  rcases zI.1 a with rfl|a
  .exact b.1
  .exact Gn b.2 a
theorem Nf{s c:St}{v:AV}(h:stb s.bs c.bs [v])(cs:List AV)(a:s.rd v=some cs):c.rd v=some cs:=by
 have key:∀b off,cellsD c.bs b=cellsD s.bs b->(match aa s.bs b with|some cs=>some ((cs.drop off).map AV.aI)|none=>none)=some cs->(match aa c.bs b with|some cs=>some ((cs.drop off).map AV.aI)|none=>none)=some cs:=λb off e a=>by
  unfold cellsD at e
  cases f:aa s.bs b with
  |none=>rw[f] at a;cases a
  |some ds=>
   rw[f] at a e
   cases d:aa c.bs b with
   |none=>rw[d] at e;cases e
   |some g=>
    rw[d] at e;simp only[zN] at e a|-;rw[<-a,List.map_drop,List.map_drop,e]
 cases v<;>simp only[St.rd] at a|-<;>first|exact a|exact key _ _ h.1 a
theorem N8{s a:St}{vs:List AV}{v:AV}(h:Chk vs s.bs a.bs)(c:v∈vs)(cs:List AV)(b:s.rd v=some cs):a.rd v=some cs:=by
 rcases h with ⟨t,d⟩|h
 .exact Nt d v cs b
 .exact Nf (Gn h c) cs b
theorem D5:∀{os:List Opd} {o:Opd},MI os=true->o∈os->∃k,o=.t k/\k∈slotsOf os
 |.t j::os,o,h,a=>by
  rcases zI.1 a with rfl|a
  .exact ⟨j,rfl,by simp[slotsOf,Opd.cn]⟩
  .obtain ⟨k,e,hk⟩:=D5 (os:=os) h a
   exact⟨k,e,by simp only[slotsOf,zY];exact .inr hk⟩
 |.c x::os,o,h,a=>by simp[MI] at h
theorem FM{q e:ROp}(hc:Dx q e=true){s s1:St}(B:q.run P true s λx=>x=s1){K:St->Prop}{vs:List AV}(hvs:q.rx.looks=true->∀t∈slotsOf q.rx.bp,s.ev (.t t)∈vs)(he:e.run P false s1 λf=>Chk vs s1.bs f.bs/\K f):e.run P false s λf=>Chk vs s.bs f.bs/\q.run P true f K:=by
 simp only[Dx,zD] at hc;obtain⟨⟨p,I⟩,L,Z,Y⟩:=hc
 have A:∀k,q.dst=some k->k∉e.reads/\k∉e.writes:=λk hk=>by
  have:=apart_spec Z k (by simp[ROp.writes,hk])
  simp only[zY,not_or] at this;exact this
 have r:∀k,e.dst=some k->k∉q.reads:=λk hk=>apart_spec Y k (by simp[ROp.writes,hk])
 --what q does:a value into its slot,the boxes as they are
 have l:∃v,s1=s.put q.dst v/\∀f:St,(∀o∈q.rx.bp,s.ev o=f.ev o)->(∀g w,q.guard=some (g,w)->f.get g=s.get g)->(q.rx.looks=true->∀o∈q.rx.bp,∀cs,s.rd (s.ev o)=some cs->f.rd (s.ev o)=some cs)->∀K:St->Prop,K (f.put q.dst v)->q.run P true f K:=by
  unfold ROp.run at B;split at B
  .rename_i h;obtain⟨v,N,M⟩:=Cp ((bJ p).1 B);refine⟨v,M.symm,λf R _ Q K E=>?_⟩;unfold ROp.run;rw[h];refine(bJ p).2 (ns R (λF o n _ cs e=>Q F o n cs e) (lW (λy S=>?_) N));rw[S];exact E
  .rename_i g want h;split at B
   .rename_i b hb
    by_cases u:b=want
    .obtain ⟨v,N,M⟩:=Cp ((bJ p).1 (B.1 u));refine⟨v,M.symm,λf R h4 Q K E=>?_⟩;unfold ROp.run;rw[h]
     have D:gv want (f.ev (.t g))=some b:=by
      have:=h4 g want h;simp only[St.ev,this] at hb|-;exact hb
     simp only[D];refine⟨λ_=>(bJ p).2 (ns R (λF o n _ cs e=>Q F o n cs e) (lW (λy S=>?_) N)),λe=>absurd u e⟩;rw[S];exact E
    .refine ⟨.tup [],(B.2 u).symm,λf R h4 Q K E=>?_⟩;unfold ROp.run;rw[h]
     have D:gv want (f.ev (.t g))=some b:=by
      have:=h4 g want h;simp only[St.ev,this] at hb|-;exact hb
     simp only[D];exact⟨λe=>absurd e u,λ_=>E⟩
   .exact B.elim
 obtain⟨v,rfl,l⟩:=l
 have G:(s.put q.dst v).bs=s.bs:=by cases q.dst<;>rfl
 --e,ahead of q
 have J:(e.rx.run P false (s.put q.dst v) e.dst λf=>Chk vs s.bs f.bs/\K f)->e.rx.run P false s e.dst λf=>Chk vs s.bs f.bs/\q.run P true f K:=λhe=>by
  have W:e.rx.run P false s e.dst λf=>Chk vs s.bs f.bs/\K (f.put q.dst v):=by
   cases i:q.dst with
   |none=>rw[i] at he;exact he
   |some k=>
    rw[i] at he;obtain⟨N,M⟩:=A k i;exact Dz L v (λhk=>N (ZU _ hk)) (λm=>M (by simp[ROp.writes,m])) he
  refine Am (λf ⟨⟨O,E⟩,bs',lo,H⟩=>⟨O,?_⟩) (Dy L W)
  refine l f (λo n=>?_) (λg w h=>?_) (λF o n cs T=>N8 O (by
   simp only[F,Bool.not_true,Bool.false_or] at I;obtain⟨k,rfl,hk⟩:=D5 I n;exact hvs F k hk) cs T) K E
  .cases o with
   |c x=>rfl
   |t j=>
    simp only[St.ev];rw[r9 H (λm=>r j m (mem_reads n (by simp[Opd.cn])))]
  .refine r9 H λm=>r g m ?_;simp[ROp.reads,h]
 unfold ROp.run at he|-
 cases V:e.guard with
 |none=>
  rw[V] at he;simp only at he|-;rw[G] at he
  exact J he
 |some gw=>
  obtain⟨g,want⟩:=gw;rw[V] at he;simp only at he|-
  have U:(s.put q.dst v).ev (.t g)=s.ev (.t g):=by
   cases i:q.dst with
   |none=>rfl
   |some k=>
    refine St.Bk s k v λhk=>?_;simp only[Opd.cn,zp] at hk;exact(A k i).1 (by simp[ROp.reads,V,<-hk])
  rw[U,G] at he
  cases hb:gv want (s.ev (.t g)) with
  |none=>rw[hb] at he;exact he.elim
  |some b=>
   rw[hb] at he;simp only at he|-;refine⟨λe1=>J (he.1 e1),λe1=>?_⟩;obtain⟨_,c2⟩:=he.2 e1;have X:(s.put e.dst (.tup [])).bs=s.bs:=by cases e.dst<;>rfl
   have z:∀t,e.dst≠some t->(s.put e.dst (.tup [])).get t=s.get t:=λt O=>r9 (bs':=s.bs) (lo:=s.lo) (.inl ⟨.tup [],rfl⟩) O;refine⟨by rw[X];exact .inl ⟨[],by rw[zy]⟩,l _ (λo n=>?_) (λg' w h=>?_) (λ_ o n cs T=>?_) K ?_⟩
   .cases o with
    |c x=>rfl
    |t j=>
     simp only[St.ev];rw[z j λm=>r j m (mem_reads n (by simp[Opd.cn]))]
   .exact z g' λm=>r g' m (by simp[ROp.reads,h])
   .have:∀x,(s.put e.dst (.tup [])).rd x=s.rd x:=λx=>by cases e.dst<;>rfl
    rw[this];exact T
   .cases i:q.dst with
    |none=>rw[i] at c2;exact c2
    |some k=>
     rw[i] at c2
     cases C:e.dst with
     |none=>rw[C] at c2;exact c2
     |some d=>
      rw[C] at c2;rw[St.put_comm s _ _ (λm=>(A k i).2 (by simp[ROp.writes,C,m]))]
      exact c2
def Lu(P:Program)(rs:List ROp)(vs:List AV):List Nat->St->St->Prop
 |[],s,a=>s=a
 |k::l,s,a=>(∀x,rs[k]? =some x->x.rx.looks=true->∀t∈slotsOf x.rx.bp,s.ev (.t t)∈vs)/\∃s1,AOp P rs k s s1/\Lu P rs vs l s1 a
theorem yd:∀{l:List Nat} {s sm:St},lL P rs l s sm->∀t,(∀m∈l,∀y,rs[m]? =some y->t∉y.writes)->sm.get t=s.get t
 |[],s,sm,h,t,_=>by have h:s=sm:=h;rw[h]
 |k::l,s,sm,⟨s1,⟨x,b,d⟩,c⟩,t,a=>by
  rw[yd c t (λm hm=>a m (by simp[hm]))]
  exact ROp.mod d (a k (by simp) x b)
theorem Dm{V:List Nat}:∀{l:List Nat} {s sm:St},lL P rs l s sm->l.Pairwise (Ssa rs)->(∀k∈l,Ssa rs k k)->(∀k∈l,∀x,rs[k]? =some x->x.rx.looks=true->∀t∈slotsOf x.rx.bp,t∈V)->Lu P rs (Fy sm V) l s sm
 |[],s,sm,h,_,_,_=>h
 |k::l,s,sm,⟨s1,hk,i⟩,hp,a,g=>by
  obtain⟨n,j⟩:=ZA.1 hp;refine⟨λx b d t c=>?_,s1,hk,Dm i j (λm hm=>a m (by simp[hm])) (λm hm=>g m (by simp[hm]))⟩
  have e:sm.get t=s.get t:=yd (l:=k::l) ⟨s1,hk,i⟩ t λm hm y f=>by
   rcases zI.1 hm with rfl|hm
   .exact a _ (by simp) x y b f d t c
   .exact n m hm x y b f d t c
  have o:sm.ev (.t t)=s.ev (.t t):=Bl λk hk=>by
   simp only[Opd.cn,zp] at hk;rw[hk];exact e
  rw[<-o];exact Df (g k (by simp) x b d t c)
theorem Dn{i:Nat}{e:ROp}{vs:List AV}:∀{pre:List Nat} {s sm:St} {K:St->Prop},Lu P rs vs pre s sm->(∀k∈pre,∀x,rs[k]? =some x->Dx x e=true)->(e.run P false sm λa=>Chk vs sm.bs a.bs/\K a)->
  e.run P false s λs1=>Chk vs s.bs s1.bs/\∃s2,lL P rs pre s1 s2/\K s2
 |[],s,sm,K,h,_,he=>by
  have h:s=sm:=h;subst h
  exact ROp.mono (λa b=>⟨b.1,a,rfl,b.2⟩) he
 |k::pre,s,sm,K,⟨l,s1,⟨x,c,q⟩,p⟩,f,he=>by
  have ih:=Dn (i:=i) p (λk' d=>f k' (by simp[d])) he
  have:=FM (f k (by simp) x c) q (l x c) ih
  refine ROp.mono (λa ⟨hp,hr⟩=>⟨hp,?_⟩) this;obtain⟨j,o,g,n,m⟩:=ROp.ex hr;exact⟨g,⟨j,⟨x,c,o⟩,n⟩,m⟩
end
theorem Ag(p:Nat->Bool)(i:Nat){A B:List Nat}(b:(A++i::B).Nodup)(hp:p i=true):(A++i::B).filter p=A.filter p++i::B.filter p/\(A++i::B).filter (λk=>p k&&!(k==i))=A.filter p++B.filter p:=by
 rw[List.nodup_append] at b;obtain⟨_,hB,c⟩:=b;have hB:=Zc.1 hB;refine⟨by rw[yL,List.filter_cons_of_pos hp],?_⟩
 rw[yL,Zs (by simp)]
 congr 1
 .refine Zm λk hk=>?_;have a:(k==i)=false:=by simpa using c k hk i (by simp)
  simp[a]
 .refine Zm λk hk=>?_
  have a:(k==i)=false:=by
   simp only[beq_eq_false_iff_ne,ne_eq];exact λe=>hB.1 (e▸hk)
  simp[a]
section
variable{P:Program}{nt:Nat}{fl:Bool}{ops:Array Oper}{rs:List ROp}{cs pi:List Nat}{E:Entry}{rd:Option Nat}{n:Nat}
end
end Go.AM
