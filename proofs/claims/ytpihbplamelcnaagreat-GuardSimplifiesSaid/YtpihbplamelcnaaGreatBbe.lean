/-
  Texts of this aZ joined (wip/gen/bundle.py),those declarations only that are needed:UrB UrC UrD UrE. By an AI agent.
-/
import Derived.Test.YtpihbplamelcnaaGreatBbd
set_option linter.unusedSimpArgs false
set_option linter.unusedVariables false
set_option maxRecDepth 100000
namespace Go.CK
open Go.AM
def ja(g:Rg)(x y:Nat):Rg:=⟨g.nodes,g.cls.map λc=>if c=y then x else c⟩
def qT(p q:Nd):Bool:=decide (p.t.kind=q.t.kind)&&(decide (p.t.num=q.t.num)&&(decide (p.t.name=q.t.name)&&decide (p.kids.length=q.kids.length)))
def l4(M:Rg->Nat->Nat->Option (Rg×Bool)):Rg->List (Nat×Nat)->Option (Rg×Bool)
 |g,[]=>some (g,true)
 |g,(a,b)::r=>match M g a b with
  |none=>none
  |some (g',false)=>some (g',false)
  |some (g',true)=>l4 M g' r
def kg:Nat->Rg->Nat->Nat->Option (Rg×Bool)
 |0,_,_,_=>none
 |f+1,g,a,b=>match g.cls[a]?,g.cls[b]? with
  |some x,some y=>if x=y then some (g,true) else
   match g.shape x,g.shape y with
   |some m,some n=>match g.nodes[m]?,g.nodes[n]? with
    |some p,some q=>if qT p q=true then l4 (kg f) (ja g x y) (p.kids.zip q.kids) else some (ja g x y,false)
    |_,_=>none
   |_,_=>some (ja g x y,true)
  |_,_=>none
def mb(g:Rg):Nat:=(List.range g.cls.length).countP λk=>decide (g.cls[k]? =some k)
section
variable{g:Rg}
theorem NG(x y k r:Nat):(ja g x y).R k r↔rtM g.R x y k r:=by
 show (g.cls.map _)[k]? =some r↔∃s,g.cls[k]? =some s/\_;rw[ZF]
 cases g.cls[k]? with
 |none=>simp
 |some s=>simp[eq_comm]
theorem KZ(x y:Nat):(ja g x y).R=rtM g.R x y:=funext λk=>funext λr=>propext (NG x y k r)
theorem Ow(h:RW g){x y:Nat}(hx:g.R x x)(hxy:¬x=y):RW (ja g x y):=by
 refine⟨by show (g.cls.map _).length=_;rw[zF];exact h.len,h.nds,λk r hk=>?_⟩
 have hp:=Mv (b:=y) h.par hx hxy;rw[<-KZ] at hp;exact hp.idem k r hk
theorem MN(h:RW g){x y:Nat}(hx:g.R x x)(hy:g.R y y)(hxy:¬x=y):mb (ja g x y)<mb g:=by
 have hylt:=(zB.1 hy).1;have hl:(ja g x y).cls.length=g.cls.length:=zF ..;unfold mb;rw[hl];have hR:∀k,(ja g x y).cls[k]? =some k↔rtM g.R x y k k:=λk=>NG x y k k;refine pG (a:=y) (λk _ hk=>?_) (zd.2 hylt) (decide_eq_true hy) (decide_eq_false ?_)
 .rw [decide_eq_true_iff] at hk|-;obtain⟨s,h1,h2⟩:=(hR k).1 hk
  by_cases hs:s=y
  .rw [if_pos hs] at h2;subst h2;subst hs;exact absurd (h.par.det _ _ _ hx h1) hxy
  .rw [if_neg hs] at h2;subst h2;exact h1
 .intro e;obtain⟨s,h1,h2⟩:=(hR y).1 e;have:=h.par.det _ _ _ h1 hy;subst this;rw[if_pos rfl] at h2;exact hxy h2.symm
theorem LY(h:RW g){i k:Nat}{p q:Nd}(hp:g.nodes[i]? =some p)(hq:g.nodes[k]? =some q):qT p q=dY p.t q.t:=by
 unfold qT dY;rw[h.nds.len _ _ hp,h.nds.len _ _ hq]
end
theorem Hb{nds:List Nd}{rt:Nat->Nat->Prop}{ps ps':List (Nat×Nat)}(hm:∀p∈ps,p∈ps')(h:aK nds rt ps):aK nds rt ps':=λi k r x y hx hy hx1 hy1 hi hk=>(h i k r x y hx hy hx1 hy1 hi hk).mono λc d hcd=>hcd.map (λc d r h1 h2=>.cls h1 h2) λc d hcd=>.pair (hm _ hcd)
theorem rH{nds:List Nd}{rt:Nat->Nat->Prop}{ps ps':List (Nat×Nat)}{σ:Int->Tm}(hm:∀p∈ps,p∈ps')(h:Sat nds rt ps' σ):Sat nds rt ps σ:=⟨h.1,λp hp=>h.2 p (hm p hp)⟩
def Dn(g:Rg)(ps qs:List (Nat×Nat))(g':Rg)(b:Bool):Prop:=g'.nodes=g.nodes/\g'.cls.length=g.cls.length/\(b=true->RW g'/\aK g'.nodes g'.R ps/\mb g'<=mb g/\∀σ,Sat g'.nodes g'.R ps σ↔Sat g.nodes g.R (ps++qs) σ)/\(b=false->∀σ,¬Sat g.nodes g.R (ps++qs) σ)
def Hn(g:Rg)(qs:List (Nat×Nat)):Prop:=∀p∈qs,p.1<g.nodes.length/\p.2<g.nodes.length
theorem A7{M:Rg->Nat->Nat->Option (Rg×Bool)}{n:Nat}(hM:∀(g:Rg) (ps:List (Nat×Nat)) (a b:Nat),RW g->aK g.nodes g.R (ps++[(a,b)])->Hn g [(a,b)]->mb g<n->∃g' b',M g a b=some (g',b')/\Dn g ps [(a,b)] g' b'):∀(qs ps:List (Nat×Nat)) (g:Rg),RW g->aK g.nodes g.R (ps++qs)->Hn g qs->mb g<n->∃g' b',l4 M g qs=some (g',b')/\Dn g ps qs g' b'
 |[],ps,g,hg,hc,_,_=>⟨g,true,rfl,rfl,rfl,λ_=>⟨hg,by rw[zy] at hc;exact hc,zG _,λσ=>by rw[zy]⟩,λe=>by cases e⟩
 |(a,b)::qs,ps,g,hg,hc,hw,hn=>by
  have hm1:∀p∈ps++(a,b)::qs,p∈(ps++qs)++[(a,b)]:=λp hp=>by
   simp only[zY,zI,zp,yh,or_false] at hp|-;rcases hp with h|h|h
   .exact .inl (.inl h)
   .exact .inr h
   .exact .inl (.inr h)
  have hm2:∀p∈(ps++qs)++[(a,b)],p∈ps++(a,b)::qs:=λp hp=>by
   simp only[zY,zI,zp,yh,or_false] at hp|-;rcases hp with (h|h)|h
   .exact .inl h
   .exact .inr (.inr h)
   .exact .inr (.inl h)
  obtain⟨g1,b1,e1,n1,l1,t1,f1⟩:=hM g (ps++qs) a b hg (Hb hm1 hc) (λp hp=>hw p (by rw[zp] at hp;rw[hp];exact zV ..)) hn
  cases b1 with
  |false=>
   refine⟨g1,false,by simp only[l4,e1],n1,l1,λe=>(by cases e),λ_ σ hs=>f1 rfl σ (rH hm2 hs)⟩
  |true=>
   obtain⟨w1,c1,k1,s1⟩:=t1 rfl;obtain⟨g2,b2,e2,n2,l2,t2,f2⟩:=A7 hM qs ps g1 w1 c1 (λp hp=>by rw[n1];exact hw p (zQ _ hp)) (by omega)
   refine⟨g2,b2,by simp only[l4,e1];exact e2,n2.trans n1,l2.trans l1,λe=>?_,λe σ hs=>f2 e σ ((s1 σ).2 (rH hm2 hs))⟩
   obtain⟨w2,c2,k2,s2⟩:=t2 e;exact⟨w2,c2,by omega,λσ=>(s2 σ).trans ((s1 σ).trans ⟨λh=>rH hm1 h,λh=>rH hm2 h⟩)⟩
theorem tB:∀(f:Nat) (g:Rg) (ps:List (Nat×Nat)) (a b:Nat),RW g->aK g.nodes g.R (ps++[(a,b)])->Hn g [(a,b)]->mb g<f->∃g' b',kg f g a b=some (g',b')/\Dn g ps [(a,b)] g' b'
 |0,g,ps,a,b,_,_,_,h=>by omega
 |f+1,g,ps,a,b,hg,hc,hw,hf=>by
  obtain⟨ha,hb⟩:=hw (a,b) (zp.2 rfl);dsimp only at ha hb;have hp:=hg.par;obtain⟨x,hx⟩:=hp.tot a ha;obtain⟨y,hy⟩:=hp.tot b hb;have hx':g.cls[a]? =some x:=hx;have hy':g.cls[b]? =some y:=hy;have hxx:=hp.idem _ _ hx;have hyy:=hp.idem _ _ hy;simp only[kg,hx',hy']
  by_cases hxy:x=y
  .subst hxy;rw[if_pos rfl];exact⟨g,true,rfl,rfl,rfl,λ_=>⟨hg,uy hx hy hc,zG _,λσ=>(DI hx hy σ).symm⟩,λe=>by cases e⟩
  .rw [if_neg hxy];have hmw:=Ow hg hxx hxy;have hmc:=MN hg hxx hyy hxy;have hmR:=KZ (g:=g) x y;have hsat:=λσ=>pn (ps:=ps) hp hx hy σ;have hlen:(ja g x y).cls.length=g.cls.length:=zF ..
   have hnone:(g.shape x=none\/g.shape y=none)->∃g' b',some (ja g x y,true)=some (g',b')/\Dn g ps [(a,b)] g' b':=λhn=>by
    refine⟨_,true,rfl,rfl,hlen,λ_=>⟨hmw,?_,by omega,λσ=>by rw[hmR];exact hsat σ⟩,λe=>by cases e⟩
    rw[hmR];refine jg hg.nds hp hx hy hxy (λp h=>h) hc λi k u v hu hv hu1 hv1 hi hk=>?_;rcases hn with h|h
    .exact absurd ((dv x hxx).2 h i u hu hi) hu1
    .exact absurd ((dv y hyy).2 h k v hv hk) hv1
   cases hsx:g.shape x with
   |none=>exact hnone (.inl hsx)
   |some m=>
    cases hsy:g.shape y with
    |none=>exact hnone (.inr hsy)
    |some n=>
     obtain⟨p,p1,p2,p3⟩:=(dv x hxx).1 m hsx;obtain⟨q,q1,q2,q3⟩:=(dv y hyy).1 n hsy;simp only[p1,q1];rw[LY hg p1 q1]
     cases hal:dY p.t q.t with
     |false=>
      refine⟨ja g x y,false,by rw[if_neg Za],rfl,hlen,λe=>(by cases e),λ_ σ hs=>?_⟩
      have h1:=hs.1;apply AP hg.nds p1 q1 p2 q2 hal σ;rw[h1 _ _ p3,h1 _ _ q3,<-h1 _ _ hx,<-h1 _ _ hy]
      exact hs.2 (a,b) (by simp)
     |true=>
      rw[if_pos rfl]
      have hzip:∀r∈p.kids.zip q.kids,r.1<g.nodes.length/\r.2<g.nodes.length:=λr hr=>by
       obtain⟨j,hj⟩:=ZS hr;obtain⟨j1,j2⟩:=ZU.1 hj;exact⟨fh hg.nds p1 j1,fh hg.nds q1 j2⟩
      have hcm:aK (ja g x y).nodes (ja g x y).R (ps++p.kids.zip q.kids):=by
       rw[hmR];refine jg hg.nds hp hx hy hxy (λr hr=>ZB _ hr) hc λi k u v hu hv hu1 hv1 hi hk=>?_;exact⟨m,n,p,q,p1,q1,p2,q2,p3,q3,xR hal λr hr=>ZW _ hr⟩
      obtain⟨g',b',e1,n1,l1,t1,f1⟩:=A7 (M:=kg f) (n:=f) (λg ps a b h1 h2 h3 h4=>tB f g ps a b h1 h2 h3 h4) (p.kids.zip q.kids) ps (ja g x y) hmw hcm hzip (by omega)
      have hss:∀σ,Sat (ja g x y).nodes (ja g x y).R (ps++p.kids.zip q.kids) σ↔Sat g.nodes g.R (ps++[(a,b)]) σ:=λσ=>by
       have h0:=hsat σ;rw[hmR];constructor
       .intro h;exact h0.1 (rH (λr hr=>ZB _ hr) h)
       .intro h;refine DK (h0.2 h) ?_;refine H9 hg.nds p1 q1 hal p2 ?_;have h1:=h.1;rw[h1 _ _ p3,h1 _ _ q3,<-h1 _ _ hx,<-h1 _ _ hy];exact h.2 (a,b) (by simp)
      refine⟨g',b',e1,n1,l1.trans hlen,λe=>?_,λe σ hs=>f1 e σ ((hss σ).2 hs)⟩;obtain⟨w1,c1,k1,s1⟩:=t1 e;exact⟨w1,c1,by omega,λσ=>(s1 σ).trans (hss σ)⟩
def nC(M:Nat->Option Tm)(g:Rg):List Nat->Option (List Tm)
 |[]=>some []
 |c::r=>match g.cls[c]? with
  |none=>none
  |some s=>match M s with
   |none=>none
   |some t=>match nC M g r with
    |none=>none
    |some l=>some (t::l)
def oiI(o:Option Int):Int:=match o with
 |none=>-1
 |some w=>w
def js(g:Rg):Nat->Nat->Option Tm
 |0,_=>none
 |f+1,c=>match g.shape c with
  |none=>some (bc (oiI (g.le c)))
  |some k=>match g.nodes[k]? with
   |none=>none
   |some x=>match nC (js g f) g x.kids with
    |none=>none
    |some l=>some (.mk x.t.kind x.t.num x.t.name l)
abbrev Rg.Ex(g:Rg):Nat->Tm->Prop:=Go.CK.Ex g.nodes g.R g.shape g.le
theorem Aq{g:Rg}(hg:RW g){M:Nat->Option Tm}:∀(xs:List Nat) (ts:List Tm),ts.length=xs.length->(∀c∈xs,c<g.nodes.length)->(∀(j c s:Nat) (y:Tm),xs[j]? =some c->g.R c s->ts[j]? =some y->M s=some y)->nC M g xs=some ts
 |[],ts,h,_,_=>by
  have:ts=[]:=zL (by simpa using h)
  rw[this];rfl
 |c::xs,[],h,_,_=>by simp at h
 |c::xs,t::ts,h,hlt,hM=>by
  obtain⟨s,hs⟩:=hg.par.tot c (hlt c (zV ..));have hs':g.cls[c]? =some s:=hs;have h1:=hM 0 c s t rfl hs rfl;have h2:=Aq hg xs ts (by simpa using h) (λd hd=>hlt d (zQ _ hd)) λj d s y e1 e2 e3=>hM (j+1) d s y (by simpa using e1) e2 (by simpa using e3)
  simp only[nC,hs',h1,h2]
theorem Ao{g:Rg}(hg:RW g):∀(f:Nat) (r:Nat) (t:Tm),g.Ex r t->t.dep<=f->js g f r=some t
 |0,r,t,_,h=>by have:=pF t;omega
 |f+1,r,t,ht,hf=>by
  generalize htt:t=t' at ht
  cases ht with
  |var h h1 h2=>simp only[js,h1,h2];rfl
  |leaf h h1 h2 h3=>
   rename_i k x;have hk:x.kids=[]:=zL (by rw[hg.nds.len _ _ h2,h3];rfl)
   simp only[js,h1,h2,hk,nC];obtain⟨q,z⟩:=x;obtain⟨a1,a2,a3,a4⟩:=q;simp only[Tm.args] at h3
   subst h3;rfl
  |fn h h1 h2 h3 h4 h5=>
   rename_i k x ts
   have hk2:x.t.kind=2:=by
    obtain⟨x',e1,e2,_⟩:=(dv r h).1 k h1;rw[h2] at e1;cases e1
    by_cases hk:x.t.kind=2
    .exact hk
    .have:=fW (hg.nds.frm _ _ h2) e2 hk;rw[this] at h3;exact absurd rfl h3
   have hdep:t.dep=Tm.ej ts+1:=by rw[htt];exact ku (t:=Tm.mk x.t.kind x.t.num x.t.name ts) hk2
   have hl:=Aq hg (M:=js g f) x.kids ts h4 (λc hc=>by
    obtain⟨j,hj⟩:=ZS hc;exact fh hg.nds h2 hj) λj c s y e1 e2 e3=>Ao hg f s y (h5 j c s y e1 e2 e3) (by
    have:=Iv (zE e3);omega)
   simp only[js,h1,h2,hl]
end Go.CK
namespace Go.CK
open Go.AM
def o7(x:Int×Int):Prop:=0<=x.1/\x.1<=201/\0<=x.2/\x.2<=21
instance (x:Int×Int):Decidable (o7 x):=inferInstanceAs (Decidable (_/\_))
def xU(x y:Int×Int):Int×Int:=(min (x.1+y.1) 201,min (max x.2 (y.2+1)) 21)
theorem L6{x y:Int×Int}(hx:o7 x)(hy:o7 y):o7 (xU x y):=by
 unfold o7 xU at*;dsimp only;omega
def Aa(g:Rg)(m:List (Int×Int)):List Nat->(Int×Int)->Bool->Option ((Int×Int)×Bool)
 |[],x,d=>some (x,d)
 |c::r,x,d=>match g.cls[c]? with
  |none=>none
  |some s=>match m[s]? with
   |none=>none
   |some y=>if o7 x/\o7 y then Aa g m r (xU x y) (d&&decide (0<y.1)) else none
def oE(g:Rg)(c:Nat):Option (List Nat):=match g.shape c with
 |none=>some []
 |some k=>match g.nodes[k]? with
  |none=>none
  |some x=>some x.kids
def Hx(g:Rg)(i:Nat)(m:List (Int×Int))(left:Int):Option (List (Int×Int)×Int):=match g.cls[i]? with
 |none=>none
 |some c=>match m[c]? with
  |none=>none
  |some y=>if 0<y.1 then some (m,left) else match oE g c with
   |none=>none
   |some l=>match Aa g m l (1,1) true with
    |none=>none
    |some (x,d)=>if d=true then (if 0<left then some (m.set c x,left-1) else none) else some (m,left)
def kC(g:Rg):Nat->List (Int×Int)->Int->Option (List (Int×Int)×Int)
 |0,m,left=>some (m,left)
 |i+1,m,left=>match kC g i m left with
  |none=>none
  |some (m',left')=>Hx g i m' left'
def wP(g:Rg):Nat->List (Int×Int)->Int->Option (Option (List (Int×Int)))
 |0,_,_=>none
 |f+1,m,left=>if 0<left then (match kC g g.nodes.length m left with
  |none=>none
  |some (m',left')=>if left'=left then some none else wP g f m' left') else some (some m)
section
variable{g:Rg}
structure MI(g:Rg)(m:List (Int×Int)):Prop where
 len:m.length=g.nodes.length
 val:∀(c:Nat) (y:Int×Int),m[c]? =some y->y=(0,0)\/∃t,g.Ex c t/\y=fQ t
theorem Fo(t:Tm):o7 (fQ t)/\0<(fQ t).1:=by
 have:=BX t;have:=pF t;unfold o7 fQ;dsimp only;omega
theorem MI.bnd{m:List (Int×Int)}(h:MI g m){c:Nat}{y:Int×Int}(hy:m[c]? =some y):o7 y/\(0<y.1->∃t,g.Ex c t/\y=fQ t)/\(¬0<y.1->y=(0,0)):=by
 rcases h.val c y hy with rfl|⟨t,h1,h2⟩
 .exact ⟨by decide,λe=>absurd e (by decide),λ_=>rfl⟩
 .subst h2;have:=Fo t;exact⟨this.1,λ_=>⟨t,h1,rfl⟩,λe=>absurd this.2 e⟩
def pnd(g:Rg)(m:List (Int×Int))(c:Nat):Bool:=decide (g.cls[c]? =some c)&&decide (m[c]? =some (0,0))
def eX(g:Rg)(m:List (Int×Int)):Nat:=(List.range g.nodes.length).countP (pnd g m)
theorem G0{x:Int×Int}{t:Tm}{ts:List Tm}(h:o7 x):foldM (xU x (fQ t)) ts=foldM x (t::ts):=by
 have:=BX t;have:=pF t;unfold o7 at h;simp only[foldM,xU,fQ,Tm.szs,Tm.ej];congr 1<;>omega
theorem ED(hg:RW g){m:List (Int×Int)}(hm:MI g m):∀(l:List Nat) (x:Int×Int) (d:Bool),(∀c∈l,c<g.nodes.length)->o7 x->1<=x.2->∃x' d',Aa g m l x d=some (x',d')/\(d'=true->d=true/\∃ts:List Tm,ts.length=l.length/\(∀(j c s:Nat) (y:Tm),l[j]? =some c->g.R c s->ts[j]? =some y->g.Ex s y)/\x'=foldM x ts)/\(d'=false->d=false\/∃c s,c∈l/\g.R c s/\m[s]? =some (0,0))
 |[],x,d,_,hx,hx1=>⟨x,d,rfl,λh=>⟨h,[],rfl,λj c s y h=>by simp at h,by
   obtain⟨a,b⟩:=x;unfold o7 at hx;simp only[foldM,Tm.szs,Tm.ej] at hx hx1|-
   congr 1<;>omega⟩,λh=>.inl h⟩
 |c::l,x,d,hl,hx,hx1=>by
  obtain⟨s,hs⟩:=hg.par.tot c (hl c (zV ..));have hs':g.cls[c]? =some s:=hs;have hslt:=(hg.lt hs).2;have hy:m[s]? =some (m[s]'(by rw[hm.len];exact hslt)):=zA _
  generalize m[s]'(by rw[hm.len];exact hslt)=y at hy
  obtain⟨b1,b2,b3⟩:=hm.bnd hy;obtain⟨x',d',e1,e2,e3⟩:=ED hg hm l (xU x y) (d&&decide (0<y.1)) (λc hc=>hl c (zQ _ hc)) (L6 hx b1) (by unfold xU;unfold o7 at*;dsimp only;omega)
  refine⟨x',d',by simp only[Aa,hs',hy];rw[if_pos ⟨hx,b1⟩];exact e1,λh=>?_,λh=>?_⟩
  .obtain ⟨f1,ts,f2,f3,f4⟩:=e2 h;rw[zD,decide_eq_true_eq] at f1;obtain⟨t,ht,hyt⟩:=b2 f1.2;subst hyt;refine⟨f1.1,t::ts,by simp[f2],λj c' s' z h1 h2 h3=>?_,by rw[f4];exact G0 hx⟩
   cases j with
   |zero=>
    simp at h1 h3;subst h1;subst h3
    rw[hg.par.det _ _ _ h2 hs];exact ht
   |succ j=>exact f3 j c' s' z (by simpa using h1) h2 (by simpa using h3)
  .rcases e3 h with h1|⟨c',s',h1,h2,h3⟩
   .rw [Bool.and_eq_false_iff] at h1;rcases h1 with h1|h1
    .exact .inl h1
    .rw [decide_eq_false_iff_not] at h1;exact .inr ⟨c,s,zV ..,hs,by rw[hy,b3 h1]⟩
   .exact .inr ⟨c',s',zQ _ h1,h2,h3⟩
theorem GL(hg:RW g){c k:Nat}{x:Nd}{ts:List Tm}(hc:g.R c c)(hs:g.shape c=some k)(hx:g.nodes[k]? =some x)(hl:ts.length=x.kids.length)(h:∀(j c s:Nat) (y:Tm),x.kids[j]? =some c->g.R c s->ts[j]? =some y->g.Ex s y):∃t,g.Ex c t/\fQ t=foldM (1,1) ts:=by
 obtain⟨x',e1,e2,e3⟩:=(dv c hc).1 k hs;rw[hx] at e1;cases e1;have hlen:=hg.nds.len _ _ hx
 by_cases ha:x.t.args=[]
 .refine ⟨x.t,.leaf hc hs hx ha,?_⟩;have hts:ts=[]:=zL (by rw[hl,hlen,ha];rfl)
  subst hts
  have e1:x.t.sz=1:=by
   by_cases h2:x.t.kind=2
   .rw [n9 h2,ha];rfl
   .exact rz h2
  have e2:x.t.dep=1:=by
   by_cases h2:x.t.kind=2
   .rw [ku h2,ha];rfl
   .exact sI h2
  rw[fQ,e1,e2];rfl
 .have h2:x.t.kind=2:=by
   by_cases hk:x.t.kind=2
   .exact hk
   .have:=fW (hg.nds.frm _ _ hx) e2 hk;rw[this] at ha;exact absurd rfl ha
  refine⟨_,.fn hc hs hx ha hl h,?_⟩;have e1:(Tm.mk x.t.kind x.t.num x.t.name ts).sz=1+Tm.szs ts:=n9 (t:=Tm.mk x.t.kind x.t.num x.t.name ts) h2;have e2:(Tm.mk x.t.kind x.t.num x.t.name ts).dep=Tm.ej ts+1:=ku (t:=Tm.mk x.t.kind x.t.num x.t.name ts) h2;rw[fQ,e1,e2];simp only[foldM];congr 1<;>omega
def L9(g:Rg)(m:List (Int×Int))(c:Nat):Prop:=∃(k:Nat) (x:Nd) (d s:Nat),g.shape c=some k/\g.nodes[k]? =some x/\d∈x.kids/\g.R d s/\m[s]? =some (0,0)
theorem IX(hg:RW g){m:List (Int×Int)}(hm:MI g m){i:Nat}(hi:i<g.nodes.length):∃m' left',Hx g i m (eX g m)=some (m',left')/\MI g m'/\left'=eX g m'/\left'<=eX g m/\(left'=eX g m->m'=m/\∀c,g.R i c->m[c]? =some (0,0)->L9 g m c):=by
 have hp:=hg.par;obtain⟨c,hc⟩:=hp.tot i hi;have hc':g.cls[i]? =some c:=hc;have hclt:=(hg.lt hc).2;have hcc:=hp.idem _ _ hc;have hy:m[c]? =some (m[c]'(by rw[hm.len];exact hclt)):=zA _
 generalize m[c]'(by rw[hm.len];exact hclt)=y at hy
 obtain⟨b1,b2,b3⟩:=hm.bnd hy;simp only[Hx,hc',hy];have hdet:∀c2,g.R i c2->c2=c:=λc2 h=>hp.det _ _ _ h hc
 by_cases hpos:0<y.1
 .refine ⟨m,eX g m,by rw[if_pos hpos],hm,rfl,Int.le_refl _,λ_=>⟨rfl,λc2 h1 h2=>?_⟩⟩
  rw[hdet c2 h1,hy] at h2;cases h2;exact absurd hpos (by decide)
 .rw [if_neg hpos];have hy0:=b3 hpos;subst hy0
  have hpn:pnd g m c=true:=by
   unfold pnd;rw[zD,decide_eq_true_eq,decide_eq_true_eq];exact⟨hcc,hy⟩
  have hset:∀(x:Int×Int) (t:Tm),g.Ex c t->x=fQ t->MI g (m.set c x)/\eX g (m.set c x)+1=eX g m:=λx t ht hx=>by
   refine⟨⟨by rw[zm];exact hm.len,λd z hz=>?_⟩,?_⟩
   .by_cases hd:c=d
    .subst hd;rw[List.getElem?_set_self (by rw[hm.len];exact hclt)] at hz
     cases hz;exact .inr ⟨t,ht,hx⟩
    .rw [Zi hd] at hz;exact hm.val d z hz
   .unfold eX;have hcm:(m.set c x)[c]? =some x:=List.getElem?_set_self (by rw[hm.len];exact hclt)
    have hx0:¬x=(0,0):=λe=>by
     have:=(Fo t).2;rw[<-hx,e] at this;exact absurd this (by decide)
    have key:∀l:List Nat,l.Nodup->c∈l->l.countP (pnd g (m.set c x))+1=l.countP (pnd g m):=by
     have hne:∀d,¬d=c->pnd g (m.set c x) d=pnd g m d:=λd hd=>by
      unfold pnd;rw[Zi (λe=>hd e.symm)]
     intro l
     induction l with
     |nil=>intro _ h;cases h
     |cons d l ih=>
      intro hn hcl;rw[Zg] at hn
      by_cases hd:d=c
      .subst hd
       have h1:pnd g (m.set d x) d=false:=by
        unfold pnd;rw[hcm,Bool.and_eq_false_iff];right;rw[decide_eq_false_iff_not];simp only[zN];exact hx0
       rw[Zj hpn,Zy (by rw[h1];decide)]
       congr 1;refine List.countP_congr λe he=>?_;rw[hne e (λh=>hn.1 (h▸he))]
      .have hcl:c∈l:=by
        rcases zI.1 hcl with h|h
        .exact absurd h.symm hd
        .exact h
       have:=ih hn.2 hcl
       by_cases hq:pnd g m d=true
       .rw [Zj hq,Zj (by rw[hne d hd];exact hq)];omega
       .rw [Zy hq,Zy (by rw[hne d hd];exact hq)];omega
    exact key _ List.nodup_range (zd.2 hclt)
  have hdone:∀(x:Int×Int) (t:Tm),g.Ex c t->x=fQ t->∃m' left',(if 0<(eX g m:Int) then some (m.set c x,(eX g m:Int)-1) else none)=some (m',left')/\MI g m'/\left'=eX g m'/\left'<=eX g m/\(left'=eX g m->m'=m/\∀c,g.R i c->m[c]? =some (0,0)->L9 g m c):=λx t ht hx=>by
   obtain⟨h1,h2⟩:=hset x t ht hx;refine⟨m.set c x,(eX g m:Int)-1,by rw[if_pos (by omega)],h1,by omega,by omega,λe=>?_⟩
   omega
  cases hs:g.shape c with
  |none=>
   have hk:oE g c=some []:=by simp only[oE,hs]
   simp only[hk,Aa,if_true]
   have hle:∃w,g.le c=some w:=by
    cases hl:g.le c with
    |some w=>exact⟨w,rfl⟩
    |none=>
     exfalso;have hx:=zA hclt;exact(EB hg c hcc).2 hl c _ hx hcc ((dv c hcc).2 hs c _ hx hcc)
   obtain⟨w,hw⟩:=hle
   exact hdone (1,1) (bc w) (.var hcc hs hw) rfl
  |some k=>
   obtain⟨x,x1,x2,x3⟩:=(dv c hcc).1 k hs;have hk:oE g c=some x.kids:=by simp only[oE,hs,x1]
   obtain⟨x',d',e1,e2,e3⟩:=ED hg hm x.kids (1,1) true (λd hd=>by
    obtain⟨j,hj⟩:=ZS hd;exact fh hg.nds x1 hj) (by decide) (by decide)
   simp only[hk,e1]
   cases d' with
   |true=>
    rw[if_pos rfl];obtain⟨_,ts,f1,f2,f3⟩:=e2 rfl;obtain⟨t,ht,htt⟩:=GL hg hcc hs x1 f1 f2
    exact hdone x' t ht (by rw[f3,htt])
   |false=>
    rw[if_neg Za];refine⟨m,eX g m,rfl,hm,rfl,Int.le_refl _,λ_=>⟨rfl,λc2 h1 h2=>?_⟩⟩;rw[hdet c2 h1];rcases e3 rfl with h|⟨d,s,h3,h4,h5⟩
    .cases h
    .exact ⟨k,x,d,s,hs,x1,h3,h4,h5⟩
theorem vA(hg:RW g){m:List (Int×Int)}(hm:MI g m):∀n:Nat,n<=g.nodes.length->∃m' left',kC g n m (eX g m)=some (m',left')/\MI g m'/\left'=eX g m'/\left'<=eX g m/\(left'=eX g m->m'=m/\∀i c,i<n->g.R i c->m[c]? =some (0,0)->L9 g m c)
 |0,_=>⟨m,eX g m,rfl,hm,rfl,Int.le_refl _,λ_=>⟨rfl,λi c h=>by omega⟩⟩
 |n+1,hn=>by
  obtain⟨m1,l1,e1,e2,e3,e4,e5⟩:=vA hg hm n (by omega)
  subst e3;obtain⟨m2,l2,f1,f2,f3,f4,f5⟩:=IX hg e2 (i:=n) (by omega)
  refine⟨m2,l2,by simp only[kC,e1];exact f1,f2,f3,by omega,λe=>?_⟩
  obtain⟨a1,a2⟩:=e5 (by omega)
  subst a1;obtain⟨b1,b2⟩:=f5 (by omega)
  refine⟨b1,λi c hi hc h0=>?_⟩
  by_cases h:i=n
  .subst h;exact b2 c hc h0
  .exact a2 i c (by omega) hc h0
theorem A4(hg:RW g):∀(f:Nat) (m:List (Int×Int)),MI g m->eX g m<f->∃r,wP g f m (eX g m)=some r/\((∃m',r=some m'/\MI g m'/\eX g m'=0)\/(r=none/\∀σ,¬Sat g.nodes g.R [] σ))
 |0,m,_,h=>by omega
 |f+1,m,hm,hf=>by
  by_cases hp:0<(eX g m:Int)
  .obtain ⟨m',l',e1,e2,e3,e4,e5⟩:=vA hg hm g.nodes.length (zG _);simp only[wP,if_pos hp,e1]
   by_cases hl:l'=eX g m
   .rw [if_pos hl];refine⟨none,rfl,.inr ⟨rfl,λσ hσ=>?_⟩⟩;obtain⟨_,hst⟩:=e5 hl
    have key:∀N c,g.R c c->m[c]? =some (0,0)->(gv g.nodes σ c).nodes<=N->False:=by
     intro N
     induction N with
     |zero=>intro c _ _ h;have:=(gv g.nodes σ c).AQ;omega
     |succ N ih=>
      intro c hc h0 hN;obtain⟨k,x,d,s,s1,s2,s3,s4,s5⟩:=hst c c (hg.lt hc).1 hc h0;obtain⟨x',x1,x2,x3⟩:=(dv c hc).1 k s1;rw[s2] at x1;cases x1
      have h2:x.t.kind=2:=by
       by_cases h2:x.t.kind=2
       .exact h2
       .have hi:=fW (hg.nds.frm _ _ s2) x2 h2;have hlen:=hg.nds.len _ _ s2;rw[hi] at hlen;have:x.kids=[]:=zL hlen;rw[this] at s3;cases s3
      have hlt:(gv g.nodes σ s).nodes<(gv g.nodes σ c).nodes:=by
       rw[<-hσ.1 _ _ s4,<-hσ.1 _ _ x3,qG hg.nds s2 σ h2];have:=fK (ZX (f:=gv g.nodes σ) s3);simp only[Tm.nodes];omega
      exact ih s (hg.par.idem _ _ s4) s5 (by omega)
    have:∃c,c∈List.range g.nodes.length/\pnd g m c=true:=by
     have:=List.countP_pos_iff (p:=pnd g m) (l:=List.range g.nodes.length);exact this.1 (by unfold eX at hp;omega)
    obtain⟨c,_,hc⟩:=this;unfold pnd at hc;rw[zD,decide_eq_true_eq,decide_eq_true_eq] at hc;exact key _ c hc.1 hc.2 (zG _)
   .rw [if_neg hl];subst e3;exact A4 hg f m' e2 (by omega)
  .exact ⟨some m,by simp only[wP,if_neg hp],.inl ⟨m,rfl,hm,by omega⟩⟩
theorem mi0(n:Nat)(hn:n=g.nodes.length):MI g (List.replicate n (0,0)):=⟨by rw[zf];exact hn,λc y hy=>by
 rw[List.getElem?_replicate] at hy;split at hy
 .cases hy;exact .inl rfl
 .cases hy⟩
theorem ND(hg:RW g):eX g (List.replicate g.nodes.length (0,0))=mb g:=by
 unfold eX mb;rw[hg.len];refine List.countP_congr λc hc=>?_;rw[zd] at hc;unfold pnd;rw[List.getElem?_replicate,if_pos hc,decide_eq_true (p:=some ((0:Int),(0:Int))=some (0,0)) rfl,Bool.and_true]
end
def Er(g:Rg):Option (Option (List (Int×Int))):=wP g (g.nodes.length+1) (List.replicate g.nodes.length (0,0)) (mb g)
theorem Jl{g:Rg}(hg:RW g):∃r,Er g=some r/\((∃m,r=some m/\MI g m/\∀c,g.R c c->∃t,g.Ex c t/\m[c]? =some (fQ t))\/(r=none/\∀σ,¬Sat g.nodes g.R [] σ)):=by
 have hle:mb g<=g.nodes.length:=by
  unfold mb;have:=yB (p:=λk=>decide (g.cls[k]? =some k)) (l:=List.range g.cls.length);rw[Zw,hg.len] at this;rw[hg.len];exact this
 obtain⟨r,h1,h2⟩:=A4 hg (g.nodes.length+1) (List.replicate g.nodes.length (0,0)) (mi0 _ rfl) (by rw[ND hg];omega)
 rw[ND hg] at h1;refine⟨r,h1,?_⟩;rcases h2 with ⟨m,rfl,hm,h0⟩|h2
 .refine .inl ⟨m,rfl,hm,λc hc=>?_⟩;have hclt:=(hg.lt hc).1;have hy:m[c]? =some (m[c]'(by rw[hm.len];exact hclt)):=zA _
  generalize m[c]'(by rw[hm.len];exact hclt)=y at hy
  rcases hm.val c y hy with rfl|⟨t,ht,rfl⟩
  .exfalso
   have:pnd g m c=true:=by
    unfold pnd;rw[zD,decide_eq_true_eq,decide_eq_true_eq];exact⟨hc,hy⟩
   have:=List.countP_pos_iff.2 ⟨c,zd.2 hclt,this⟩;unfold eX at h0;omega
  .exact ⟨t,ht,hy⟩
 .exact .inr h2
end Go.CK
namespace Go.CK
open Go.AM
def gz(v:Int):List Bnd->Nat
 |[]=>0
 |b::l=>if b.v<v then gz v l+1 else 0
def nh(x:Bnd)(l:List Bnd):List Bnd:=l.take (gz x.v l)++x::l.drop (gz x.v l)
theorem CL(v:Int):∀l:List Bnd,gz v l<=l.length
 |[]=>zG _
 |b::l=>by
  have:=CL v l;rw[gz];split
  .simp only[zX];omega
  .exact zJ _
theorem Ie(v:Int):∀(l:List Bnd) (j:Nat) (b:Bnd),l[j]? =some b->j<gz v l->b.v<v
 |[],j,b,h,_=>by simp at h
 |c::l,j,b,h,hj=>by
  rw[gz] at hj;split at hj
  .cases j with
   |zero=>simp at h;subst h;assumption
   |succ j=>exact Ie v l j b (by simpa using h) (by omega)
  .omega
theorem Ig(v:Int):∀(l:List Bnd) (b:Bnd),l[gz v l]? =some b->¬b.v<v
 |[],b,h=>by simp at h
 |c::l,b,h=>by
  rw[gz] at h;split at h
  .exact Ig v l b (by simpa using h)
  .simp at h;subst h;assumption
theorem kj{v:Int}{l:List Bnd}{k:Nat}(hk:k<=l.length)(h1:∀j b,l[j]? =some b->j<k->b.v<v)(h2:∀b,l[k]? =some b->¬b.v<v):gz v l=k:=by
 have h3:=CL v l
 by_cases h:gz v l<k
 .have hlt:gz v l<l.length:=by omega
  have e:=zA hlt;exact absurd (h1 _ _ e h) (Ig v l _ e)
 .by_cases h':k<gz v l
  .have hlt:k<l.length:=by omega
   have e:=zA hlt;exact absurd (Ie v l k _ e h') (h2 _ e)
  .omega
theorem wY{x b:Bnd}{l:List Bnd}:b∈nh x l↔b=x\/b∈l:=by
 unfold nh;rw[zY,zI];constructor
 .rintro (h|h|h)
  .exact .inr (List.mem_of_mem_take h)
  .exact .inl h
  .exact .inr (List.mem_of_mem_drop h)
 .rintro (h|h)
  .exact .inr (.inl h)
  .rw [<-List.take_append_drop (gz x.v l) l,zY] at h;rcases h with h|h
   .exact .inl h
   .exact .inr (.inr h)
theorem EF{x:Bnd}:∀{l:List Bnd},(l.map (·.v)).Pairwise (·<·)->(∀b∈l,b.v≠x.v)->((nh x l).map (·.v)).Pairwise (·<·)
 |[],_,_=>by simp[nh,gz]
 |c::l,h,hn=>by
  have hc:=hn c (zV ..);have h0:=h;rw[zP,ZA] at h;unfold nh;rw[gz];split
  .rename_i hlt;have ih:=EF h.2 λb hb=>hn b (zQ _ hb);rw[yP,List.drop_succ_cons,ze,zP,ZA];refine⟨λv hv=>?_,ih⟩;obtain⟨b,hb,rfl⟩:=zk.1 hv;rcases wY.1 hb with rfl|hb
   .exact hlt
   .exact h.1 _ (ZX hb)
  .rename_i hlt;rw[ZL,List.drop_zero,Zo,zP,ZA];refine⟨λv hv=>?_,h0⟩;rw[zP] at hv;rcases zI.1 hv with rfl|hv
   .omega
   .have:=h.1 v hv;omega
def KY(g:Rg)(m:List (Int×Int))(i:Nat)(out:List Bnd):Option (Option (List Bnd)):=match g.nodes[i]?,g.cls[i]? with
 |some x,some c=>if¬x.t.kind=1\/(g.shape c=none/\oiI (g.le c)=x.t.num) then some (some out) else
  match m[c]? with
  |none=>none
  |some y=>if 200<y.1\/20<y.2 then some none else match js g 20 c with
   |none=>none
   |some t=>some (some (nh ⟨x.t.num,t⟩ out))
 |_,_=>none
def jE(g:Rg)(m:List (Int×Int)):Nat->Option (Option (List Bnd))
 |0=>some (some [])
 |i+1=>match jE g m i with
  |none=>none
  |some none=>some none
  |some (some out)=>KY g m i out
section
variable{g:Rg}
noncomputable abbrev Rg.M (g:Rg):Int->Tm:=mguM g.nodes g.R g.shape g.le
theorem wB(hg:RW g){m:List (Int×Int)}(hm:∀c,g.R c c->∃t,g.Ex c t/\m[c]? =some (fQ t)):∀n:Nat,n<=g.nodes.length->∃r,jE g m n=some r/\
  ((∃out,r=some out/\(out.map (·.v)).Pairwise (·<·)/\(∀v t,(⟨v,t⟩:Bnd)∈out↔∃(i:Nat) (x:Nd),i<n/\g.nodes[i]? =some x/\x.t=bc v/\t=g.M v/\¬g.M v=bc v)/\∀b∈out,fits b.t)\/(r=none/\∃v,¬g.M v=bc v/\¬fits (g.M v)))
 |0,_=>⟨some [],rfl,.inl ⟨[],rfl,.nil,λv t=>⟨λh=>(by cases h),λ⟨i,x,h,_⟩=>by omega⟩,λb h=>by cases h⟩⟩
 |n+1,hn=>by
  obtain⟨r,e1,e2⟩:=wB hg hm n (by omega)
  rcases e2 with ⟨out,rfl,h1,h2,h3⟩|⟨rfl,h1⟩
  rotate_left
  .exact ⟨none,by simp only[jE,e1],.inr ⟨rfl,h1⟩⟩
  have hp:=hg.par;obtain⟨x,hx⟩:∃x,g.nodes[n]? =some x:=⟨_,zA (by omega)⟩
  obtain⟨c,hc⟩:=hp.tot n (by omega)
  have hc':g.cls[n]? =some c:=hc;have hcc:=hp.idem _ _ hc;obtain⟨t,ht,hmt⟩:=hm c hcc
  simp only[jE,e1,KY,hx,hc']
  --what is skipped brings nothing
  have hskip:(∀v,x.t=bc v->g.M v=bc v)->∃r,some (some out)=some r/\((∃out,r=some out/\(out.map (·.v)).Pairwise (·<·)/\(∀v t,(⟨v,t⟩:Bnd)∈out↔∃(i:Nat) (x:Nd),i<n+1/\g.nodes[i]? =some x/\x.t=bc v/\t=g.M v/\¬g.M v=bc v)/\∀b∈out,fits b.t)\/(r=none/\∃v,¬g.M v=bc v/\¬fits (g.M v))):=λhs=>by
   refine⟨some out,rfl,.inl ⟨out,rfl,h1,λv t=>(h2 v t).trans ⟨λ⟨i,y,a,b⟩=>⟨i,y,by omega,b⟩,λ⟨i,y,a,b1,b2,b3,b4⟩=>?_⟩,h3⟩⟩
   by_cases hi:i=n
   .subst hi;rw[hx] at b1;cases b1;exact absurd (hs v b2) b4
   .exact ⟨i,y,by omega,b1,b2,b3,b4⟩
  by_cases hk:x.t.kind=1
  rotate_left
  .rw [if_pos (.inl hk)];exact hskip λv hv=>absurd (by rw[hv];rfl) hk
  have hxv:x.t=bc x.t.num:=lr (fX _ (hg.nds.frm _ _ hx)) hk;have hM:g.M x.t.num=t:=mY hg.nds hp hx hxv hc ht;have hnum:∀v,x.t=bc v->v=x.t.num:=λv hv=>by rw[hv];rfl
  have hiff:(g.shape c=none/\oiI (g.le c)=x.t.num)↔g.M x.t.num=bc x.t.num:=by
   rw[hM];obtain⟨s1,s2⟩:=dv c hcc;generalize htt:t=t' at ht
   cases ht with
   |var h a1 a2=>
    rw[a1,a2]
    exact⟨λe=>by rw[<-e.2];rfl,λe=>⟨rfl,qZ e⟩⟩
   |leaf h a1 a2 a3=>
    rw[a1];refine⟨λe=>(by cases e.1),λe=>?_⟩
    obtain⟨y',f1,f2,_⟩:=s1 _ a1;rw[a2] at f1;cases f1
    rw[e] at f2;exact absurd rfl f2
   |fn h a1 a2 a3 a4 a5=>
    rw[a1];refine⟨λe=>(by cases e.1),λe=>?_⟩
    obtain⟨y',f1,f2,_⟩:=s1 _ a1;rw[a2] at f1;cases f1;exact absurd (congrArg Tm.kind e) f2
  by_cases hs:g.M x.t.num=bc x.t.num
  .rw [if_pos (.inr (hiff.2 hs))];exact hskip λv hv=>by rw[hnum v hv];exact hs
  .rw [if_neg (λe=>e.elim (λe=>e hk) λe=>hs (hiff.1 e))];simp only[hmt]
   by_cases hbig:200<(fQ t).1\/20<(fQ t).2
   .rw [if_pos hbig];exact⟨none,rfl,.inr ⟨rfl,x.t.num,hs,by rw[hM];exact(mc t).1 hbig⟩⟩
   .rw [if_neg hbig];have hfit:fits t:=Decidable.byContradiction λe=>hbig ((mc t).2 e);simp only[Ao hg 20 c t ht hfit.2];refine⟨some (nh ⟨x.t.num,t⟩ out),rfl,.inl ⟨_,rfl,EF h1 (λb hb e=>?_),λv t'=>?_,λb hb=>?_⟩⟩
    .have hb':(⟨b.v,b.t⟩:Bnd)∈out:=hb;obtain⟨i,y,a1,a2,a3,_⟩:=(h2 b.v b.t).1 hb';have e:b.v=x.t.num:=e;have:=hg.nds.one i n y x a2 hx (by rw[a3];rfl) (by rw[a3,e];exact hxv.symm)
     omega
    .rw [wY];constructor
     .rintro (e|e)
      .cases e;exact⟨n,x,by omega,hx,hxv,hM.symm,hs⟩
      .obtain ⟨i,y,a,b⟩:=(h2 v t').1 e;exact⟨i,y,by omega,b⟩
     .rintro ⟨i,y,a,b1,b2,b3,b4⟩
      by_cases hi:i=n
      .subst hi;rw[hx] at b1;cases b1;left;have:=hnum v b2;subst this;rw[b3,hM]
      .exact .inr ((h2 v t').2 ⟨i,y,by omega,b1,b2,b3,b4⟩)
    .rcases wY.1 hb with rfl|hb
     .exact hfit
     .exact h3 b hb
def Kp(g:Rg):Option (List Bnd×Int):=match Er g with
 |none=>none
 |some none=>some ([],13)
 |some (some m)=>match jE g m g.nodes.length with
  |none=>none
  |some none=>some ([],6)
  |some (some out)=>some (out,0)
theorem Ko(hg:RW g)(hc:aK g.nodes g.R []):∃out e,Kp g=some (out,e)/\Ans (Sat g.nodes g.R []) out e:=by
 obtain⟨r,e1,e2⟩:=Jl hg;unfold Kp;rcases e2 with ⟨m,rfl,_,hm⟩|⟨rfl,hn⟩
 .simp only[e1]
  have hmg:Mgu (Sat g.nodes g.R []) g.M:=K5 hg.nds hg.par (dv (g:=g)) (EB hg) hc λr hr=>by
   obtain⟨t,ht,_⟩:=hm r hr;exact⟨t,ht⟩
  obtain⟨r,f1,f2⟩:=wB hg hm g.nodes.length (zG _);rcases f2 with ⟨out,rfl,h1,h2,h3⟩|⟨rfl,v,h1,h2⟩
  .refine ⟨out,0,by simp only[f1],.inr ⟨g.M,hmg,.inl ⟨⟨h1,λv t=>?_⟩,h3,rfl⟩⟩⟩
   rw[h2 v t];constructor
   .rintro ⟨i,x,_,_,_,a,b⟩;exact⟨a,b⟩
   .rintro ⟨a,b⟩
    by_cases h:∃(k:Nat) (x:Nd),g.nodes[k]? =some x/\x.t=bc v
    .obtain ⟨k,x,q1,q2⟩:=h;exact⟨k,x,(zB.1 q1).1,q1,q2,a,b⟩
    .exact absurd (sc h) b
  .exact ⟨[],6,by simp only[f1],.inr ⟨g.M,hmg,.inr ⟨⟨v,h1,h2⟩,rfl,rfl⟩⟩⟩
 .exact ⟨[],13,by simp only[e1],.inl ⟨hn,rfl,rfl⟩⟩
end
def ym(f:Nat):Rg->List (Tm×Tm)->Option (Rg×Bool)
 |g,[]=>some (g,true)
 |g,(x,y)::ps=>match kg f (bG (bG g x).1 y).1 (bG g x).2 (bG (bG g x).1 y).2 with
  |none=>none
  |some (g',false)=>some (g',false)
  |some (g',true)=>ym f g' ps
theorem ID(g:Rg):mb g<=g.cls.length:=by
 unfold mb;have:=yB (p:=λk=>decide (g.cls[k]? =some k)) (l:=List.range g.cls.length);rw[Zw] at this;exact this
theorem DN{f:Nat}:∀(ps:List (Tm×Tm)) (g:Rg),RW g->aK g.nodes g.R []->(∀p∈ps,p.1.form=true/\p.2.form=true)->g.cls.length+(Tm.aj (ps.map (·.1))+Tm.aj (ps.map (·.2)))<f->
  ∃g' b,ym f g ps=some (g',b)/\(b=true->RW g'/\aK g'.nodes g'.R []/\∀σ,Sat g'.nodes g'.R [] σ↔(Sat g.nodes g.R [] σ/\Eqs ps σ))/\(b=false->∀σ,¬(Sat g.nodes g.R [] σ/\Eqs ps σ))
 |[],g,hg,hc,_,_=>⟨g,true,rfl,λ_=>⟨hg,hc,λσ=>⟨λh=>⟨h,λp hp=>by cases hp⟩,λh=>h.1⟩⟩,λe=>by cases e⟩
 |(x,y)::ps,g,hg,hc,hfm,hf=>by
  obtain⟨fx,fy⟩:=hfm (x,y) (zV ..);simp only[zP,Tm.aj] at hf;obtain⟨a1,n1,a2,a3⟩:=oT x hg hc fx;have l1:=(oS g x).2;obtain⟨b1,n2,b2,b3⟩:=oT y a1.gw a1.cl fy;have l2:=(oS (bG g x).1 y).2;have hab:=a1.trans b1;have hx2:=b1.old _ _ a2;have hcls:=ID (bG (bG g x).1 y).1
  obtain⟨g',b,q1,q2,q3,q4,q5⟩:=tB f (bG (bG g x).1 y).1 [] (bG g x).2 (bG (bG g x).1 y).2 b1.gw (oW b1.cl) (λp hp=>by
   rw[zp] at hp;subst hp;exact⟨(zB.1 hx2).1,(zB.1 b2).1⟩) (by omega)
  rw[Zo] at q4 q5
  have hsat:∀σ,Sat (bG (bG g x).1 y).1.nodes (bG (bG g x).1 y).1.R [((bG g x).2,(bG (bG g x).1 y).2)] σ↔(Sat g.nodes g.R [] σ/\app σ x=app σ y):=λσ=>by
   rw[DJ,hab.sat σ,l7 hx2,l7 b2,a3,b3]
  have hcons:∀σ,Eqs ((x,y)::ps) σ↔(app σ x=app σ y/\Eqs ps σ):=λσ=>⟨λh=>⟨h (x,y) (zV ..),λp hp=>h p (zQ _ hp)⟩,λh p hp=>by
   rcases zI.1 hp with rfl|hp
   .exact h.1
   .exact h.2 p hp⟩
  cases b with
  |false=>
   refine⟨g',false,by simp only[ym,q1],λe=>(by cases e),λ_ σ hs=>?_⟩
   rw[hcons] at hs
   exact q5 rfl σ ((hsat σ).2 ⟨hs.1,hs.2.1⟩)
  |true=>
   obtain⟨k1,k2,k3,k4⟩:=q4 rfl;obtain⟨g3,b3',p1,p2,p3⟩:=DN (f:=f) ps g' k1 k2 (λp hp=>hfm p (zQ _ hp)) (by omega)
   refine⟨g3,b3',by simp only[ym,q1];exact p1,λe=>?_,λe σ hs=>?_⟩
   .obtain ⟨s1,s2,s3⟩:=p2 e;refine⟨s1,s2,λσ=>?_⟩;rw[s3 σ,k4 σ,hsat σ,hcons σ,and_assoc]
   .rw [hcons] at hs;exact p3 e σ ⟨(k4 σ).2 ((hsat σ).2 ⟨hs.1,hs.2.1⟩),hs.2.2⟩
def rg0:Rg:=⟨[],[]⟩
theorem KG:RW rg0:=⟨rfl,⟨λi x h=>(by simp[rg0] at h),λi x h=>(by simp[rg0] at h),λi x h=>(by simp[rg0] at h),λi j x y h=>by simp[rg0] at h⟩,λk r h=>by simp[rg0] at h⟩
theorem vJ:aK rg0.nodes rg0.R []:=λi k r x y h=>by simp[rg0] at h
theorem HI(σ:Int->Tm):Sat rg0.nodes rg0.R [] σ:=⟨λk r h=>(by have h:rg0.cls[k]? =some r:=h;simp[rg0] at h),λp hp=>by cases hp⟩
abbrev fR:Nat:=300000001
def Hk(a b:List Tm):Option (List Bnd×Int):=
 if (a.all Tm.right&&b.all Tm.right)=true then
  if a.length=b.length then match ym fR rg0 (a.zip b) with
   |none=>none
   |some (_,false)=>some ([],13)
   |some (g,true)=>Kp g
  else some ([],9)
 else some ([],2)
theorem LW{a b:List Tm}(hN:Tm.aj a+Tm.aj b<=300000000):∃out e,Hk a b=some (out,e)/\(if (a.all Tm.right&&b.all Tm.right)=true then (if a.length=b.length then Ans (Eqs (a.zip b)) out e else out=[]/\e=9) else out=[]/\e=2):=by
 have hfR:fR=300000001:=rfl;unfold Hk
 by_cases hr:(a.all Tm.right&&b.all Tm.right)=true
 .simp only[if_pos hr]
  by_cases hl:a.length=b.length
  .simp only[if_pos hl];simp only[zD] at hr
   have hfm:∀p∈a.zip b,p.1.form=true/\p.2.form=true:=λp hp=>by
    have:=List.of_mem_zip hp;exact⟨dw (zS.1 hr.1 _ this.1),dw (zS.1 hr.2 _ this.2)⟩
   obtain⟨z1,z2⟩:=BM hl;obtain⟨g,bb,q1,q2,q3⟩:=DN (f:=fR) (a.zip b) rg0 KG vJ hfm (by rw[z1,z2];show 0+_<_;omega)
   rw[q1]
   cases bb with
   |false=>exact⟨[],13,rfl,.inl ⟨λσ hs=>q3 rfl σ ⟨HI σ,hs⟩,rfl,rfl⟩⟩
   |true=>
    obtain⟨s1,s2,s3⟩:=q2 rfl;obtain⟨out,e,p1,p2⟩:=Ko s1 s2;refine⟨out,e,p1,p2.congr λσ=>?_⟩;rw[s3 σ];exact⟨λh=>h.2,λh=>⟨HI σ,h⟩⟩
  .simp only[if_neg hl];exact⟨[],9,rfl,rfl,rfl⟩
 .simp only[if_neg hr];exact⟨[],2,rfl,rfl,rfl⟩
end Go.CK
namespace Go.CK
open Go.AM Go.Proofs
def Nd.avr(x:Nd):AV:=.agg [.int .i64 x.t.kind,.int .i64 x.t.num,.str x.t.name,.sl .no (x.kids.map bP)]
def rbs(l:List Nd)(c:List Nat)(cap:Nat):List Box:=[.cells [.sl (.own 4) (l.map Nd.avr),.bsl 1 c.length cap],aS bP 1 cap c]
abbrev Rg.bs(g:Rg)(cap:Nat):List Box:=rbs g.nodes g.cls cap
def oiN(o:Option Nat):Int:=match o with
 |none=>-1
 |some k=>k
theorem OD{g:Rg}{c j i:Nat}{x:Nd}(hx:g.nodes[j]? =some x)(hi:g.cls[j]? =some i):g.isS c j=(decide (i=c)&&decide (¬x.t.kind=1)):=by
 unfold Rg.isS;rw[hx,hi];simp
theorem rF{g:Rg}{c cap:Nat}(hcap:g.cls.length<=cap)(hl:g.cls.length=g.nodes.length)(hn:g.nodes.length<=4000000000):AM.Sem Tryz.prog 162 [.ptr 0 0,.int .i64 (c:Int)] (g.bs cap) λr bs'=>r=.int .i64 (oiN (g.shape c))/\bs'=g.bs cap:=by
 refine fa (by simp) ?_
 conv=>whnf
 skip;refine aD.by (fb:=true) (λ_ (j:Nat)=>⟨[(0,.ptr 0 0),(1,.int .i64 (c:Int)),(5,.int .i64 (j:Int))],g.bs cap,2⟩) (λj=>j<=g.nodes.length/\∀i,i<j->g.isS c i=false) (λj=>g.nodes.length-j) 0 ⟨zJ _,λi h=>by omega⟩ ?_ ?_
 .exact aH
 .rintro j ⟨q1,q2⟩
  by_cases hj:j<g.nodes.length
  .obtain ⟨x,hx⟩:∃x,g.nodes[j]? =some x:=⟨_,zA hj⟩;obtain⟨i,hi⟩:∃i,g.cls[j]? =some i:=⟨_,zA (by omega)⟩
   have hs:=OD (c:=c) hx hi
   have hno:¬(i=c/\¬x.t.kind=1)->∀k,k<j+1->g.isS c k=false:=λh k hk=>by
    by_cases e:k=j
    .subst e;rw[hs];simpa using h
    .exact q2 k (by omega)
   by_cases h1:i=c<;>by_cases h2:x.t.kind=1
   .have h1':(i:Int)=(c:Int):=by omega
    conv=>whnf
    repeat' (first|(refine gC ?_;first|refine .not ?_|refine gD (cI ?_))|refine gW (wI ?_)|refine gL (.map ?_)|refine gN (nS ?_)|refine gI (gM (iE ?_))|(refine gE ?_;refine eLn ?_))<;>conv=>whnf
    refine⟨j+1,⟨⟨hj,hno (λe=>e.2 h2)⟩,by omega⟩,?_⟩
    exact aH
   .have h1':(i:Int)=(c:Int):=by omega
    have he:g.shape c=some j:=Bl hj (by rw[hs,h1,decide_eq_true rfl,decide_eq_true h2];rfl) q2
    conv=>whnf
    repeat' (first|(refine gC ?_;first|refine .not ?_|(refine gD ?_;first|refine cI ?_|refine cJ ?_))|refine gL (.map ?_)|refine gN (nS ?_)|refine gI (gM (iE ?_))|(refine gE ?_;refine eLn ?_)|refine ae.nrm ?_)<;>conv=>whnf
    rw[he];exact⟨rfl,rfl⟩
   .have h1':¬(i:Int)=(c:Int):=by omega
    conv=>whnf
    repeat' (first|(refine gC ?_;first|refine cN ?_|(refine gD ?_;first|refine cI ?_|refine cJ ?_))|refine gW (wI ?_)|refine gL (.map ?_)|refine gN (nS ?_)|(refine gE ?_;refine eLn ?_))<;>conv=>whnf
    refine⟨j+1,⟨⟨hj,hno (λe=>h1 e.1)⟩,by omega⟩,?_⟩
    exact aH
   .have h1':¬(i:Int)=(c:Int):=by omega
    conv=>whnf
    repeat' (first|(refine gC ?_;first|refine cN ?_|(refine gD ?_;first|refine cI ?_|refine cJ ?_))|refine gW (wI ?_)|refine gL (.map ?_)|refine gN (nS ?_)|(refine gE ?_;refine eLn ?_))<;>conv=>whnf
    refine⟨j+1,⟨⟨hj,hno (λe=>h1 e.1)⟩,by omega⟩,?_⟩
    exact aH
  .obtain rfl:j=g.nodes.length:=by omega
   have he:g.shape c=none:=gO.2 q2
   conv=>whnf
   repeat' (first|refine gC (gD (cJ ?_))|refine gL (.map ?_)|refine ae.nrm ?_)<;>conv=>whnf
   rw[he];exact⟨rfl,rfl⟩
theorem H7{g:Rg}{c cap:Nat}(hcap:g.cls.length<=cap)(hl:g.cls.length=g.nodes.length)(hn:g.nodes.length<=4000000000)(hpos:∀(i:Nat) (x:Nd),g.nodes[i]? =some x->x.t.kind=1->0<=x.t.num):AM.Sem Tryz.prog 163 [.ptr 0 0,.int .i64 (c:Int)] (g.bs cap) λr bs'=>r=.int .i64 (oiI (g.le c))/\bs'=g.bs cap:=by
 have hle:∀n w,g.leN c n=some w->0<=w:=by
  intro n
  induction n with
  |zero=>intro w h;cases h
  |succ n ih=>
   intro w h;rw[Rg.leN] at h;split at h
   .exact ih w h
   .rename_i x hx;split at h
    .rename_i hc;have:=hpos n x hx hc.2
     cases hl0:g.leN c n with
     |none=>rw[hl0] at h;cases h;exact this
     |some w0=>
      have:=ih w0 hl0;rw[hl0,uo] at h;split at h<;>(cases h;omega)
    .exact ih w h
 refine fc (by simp) ?_
 conv=>whnf
 skip;refine aD.by (fb:=true) (λ_ (j:Nat)=>⟨[(0,.ptr 0 0),(1,.int .i64 (c:Int)),(5,.int .i64 (oiI (g.leN c j))),(6,.int .i64 (j:Int))],g.bs cap,2⟩) (λj=>j<=g.nodes.length) (λj=>g.nodes.length-j) 0 (zJ _) ?_ ?_
 .rw [show oiI (g.leN c 0)=-1 from rfl];exact aH
 .rintro j q1
  by_cases hj:j<g.nodes.length
  .obtain ⟨x,hx⟩:∃x,g.nodes[j]? =some x:=⟨_,zA hj⟩;obtain⟨i,hi⟩:∃i,g.cls[j]? =some i:=⟨_,zA (by omega)⟩
   have hstep:g.leN c (j+1)=if i=c/\x.t.kind=1 then uo x.t.num (g.leN c j) else g.leN c j:=by
    rw[Rg.leN,hx];simp only[hi,zN]
   cases hl0:g.leN c j with
   |none=>
    rw[show oiI (none:Option Int)=-1 from rfl];rw[hl0] at hstep
    by_cases h1:i=c
    .have h1':(i:Int)=(c:Int):=by omega
     by_cases h2:x.t.kind=1
     .rw [if_pos ⟨h1,h2⟩] at hstep;have hst:oiI (g.leN c (j+1))=x.t.num:=by rw[hstep];rfl
      conv=>whnf
      repeat' (first|(refine gC ?_;first|refine cY ?_|refine gD (cI ?_))|refine gW (wI ?_)|refine gL (.map ?_)|refine gN (nS ?_)|refine gI (gM (iE ?_))|(refine gE ?_;refine eLn ?_))<;>conv=>whnf
      refine⟨j+1,⟨hj,by omega⟩,?_⟩
      rw[hst];exact aH
     .rw [if_neg (λe=>h2 e.2)] at hstep;have hst:oiI (g.leN c (j+1))=-1:=by rw[hstep];rfl
      conv=>whnf
      repeat' (first|(refine gC ?_;first|refine cN ?_|(refine gD ?_;first|refine cI ?_|refine cJ ?_))|refine gW (wI ?_)|refine gL (.map ?_)|refine gN (nS ?_)|refine gI (gM (iE ?_))|(refine gE ?_;refine eLn ?_))<;>conv=>whnf
      refine⟨j+1,⟨hj,by omega⟩,?_⟩
      rw[hst];exact aH
    .have h1':¬(i:Int)=(c:Int):=by omega
     rw[if_neg (λe=>h1 e.1)] at hstep;have hst:oiI (g.leN c (j+1))=-1:=by rw[hstep];rfl
     conv=>whnf
     repeat' (first|(refine gC ?_;first|refine cN ?_|(refine gD ?_;first|refine cI ?_|refine cJ ?_))|refine gW (wI ?_)|refine gL (.map ?_)|refine gN (nS ?_)|(refine gE ?_;refine eLn ?_))<;>conv=>whnf
     refine⟨j+1,⟨hj,by omega⟩,?_⟩
     rw[hst]
     exact aH
   |some w=>
    rw[show oiI (some w)=w from rfl];rw[hl0] at hstep;have hw:=hle j w hl0
    by_cases h1:i=c
    .have h1':(i:Int)=(c:Int):=by omega
     by_cases h2:x.t.kind=1
     .rw [if_pos ⟨h1,h2⟩] at hstep
      by_cases h3:x.t.num<w
      .have hst:oiI (g.leN c (j+1))=x.t.num:=by rw[hstep,uo,if_pos h3];rfl
       conv=>whnf
       repeat' (first|(refine gC ?_;(refine gD ?_;first|refine cI ?_|refine cJ ?_))|refine gW (wI ?_)|refine gL (.map ?_)|refine gN (nS ?_)|refine gI (gM (iE ?_))|(refine gE ?_;refine eLn ?_))<;>conv=>whnf
       refine⟨j+1,⟨hj,by omega⟩,?_⟩
       rw[hst];exact aH
      .have hst:oiI (g.leN c (j+1))=w:=by rw[hstep,uo,if_neg h3];rfl
       conv=>whnf
       repeat' (first|(refine gC ?_;(refine gD ?_;first|refine cI ?_|refine cJ ?_))|refine gW (wI ?_)|refine gL (.map ?_)|refine gN (nS ?_)|refine gI (gM (iE ?_))|(refine gE ?_;refine eLn ?_))<;>conv=>whnf
       refine⟨j+1,⟨hj,by omega⟩,?_⟩
       rw[hst];exact aH
     .rw [if_neg (λe=>h2 e.2)] at hstep;have hst:oiI (g.leN c (j+1))=w:=by rw[hstep];rfl
      conv=>whnf
      repeat' (first|(refine gC ?_;first|refine cN ?_|(refine gD ?_;first|refine cI ?_|refine cJ ?_))|refine gW (wI ?_)|refine gL (.map ?_)|refine gN (nS ?_)|refine gI (gM (iE ?_))|(refine gE ?_;refine eLn ?_))<;>conv=>whnf
      refine⟨j+1,⟨hj,by omega⟩,?_⟩
      rw[hst];exact aH
    .have h1':¬(i:Int)=(c:Int):=by omega
     rw[if_neg (λe=>h1 e.1)] at hstep;have hst:oiI (g.leN c (j+1))=w:=by rw[hstep];rfl
     conv=>whnf
     repeat' (first|(refine gC ?_;first|refine cN ?_|(refine gD ?_;first|refine cI ?_|refine cJ ?_))|refine gW (wI ?_)|refine gL (.map ?_)|refine gN (nS ?_)|(refine gE ?_;refine eLn ?_))<;>conv=>whnf
     refine⟨j+1,⟨hj,by omega⟩,?_⟩
     rw[hst];exact aH
  .obtain rfl:j=g.nodes.length:=by omega
   conv=>whnf
   repeat' (first|refine gC (gD (cJ ?_))|refine gL (.map ?_)|refine ae.nrm ?_)<;>conv=>whnf
   exact⟨rfl,rfl⟩
end Go.CK
