/-
  Texts of this aX joined (wip/gen/bundle.py),those declarations only that are needed:UlA UlB UlC UlD UlE. By an AI agent.
-/
import Derived.Test.YtpihbplamelcnaaGreatBaz
set_option linter.unusedSimpArgs false
set_option linter.unusedVariables false
namespace Go.CK
open Go.AM
mutual
def app(σ:Int->Tm):Tm->Tm
 |.mk k n s l=>if k=1 then σ n else if k=2 then .mk k n s (apps σ l) else .mk k n s l
def apps(σ:Int->Tm):List Tm->List Tm
 |[]=>[]
 |t::r=>app σ t::apps σ r
end
theorem GA(σ:Int->Tm):∀l:List Tm,apps σ l=l.map (app σ)
 |[]=>rfl
 |t::r=>by rw[apps,GA σ r];rfl
theorem Eo(σ:Int->Tm)(v:Int):app σ (bX v)=σ v:=by rw[bX,app,if_pos rfl]
theorem app_1{σ:Int->Tm}{t:Tm}(h:t.kind=1):app σ t=σ t.num:=by
 obtain⟨k,n,s,l⟩:=t;simp only[Tm.kind] at h;rw[app,if_pos h];rfl
theorem vK{σ:Int->Tm}{t:Tm}(h:t.kind=2):app σ t=.mk t.kind t.num t.name (t.args.map (app σ)):=by
 obtain⟨k,n,s,l⟩:=t;simp only[Tm.kind] at h;rw[app,if_neg (by omega),if_pos h,GA];rfl
theorem C3{σ:Int->Tm}{t:Tm}(h1:¬t.kind=1)(h2:¬t.kind=2):app σ t=t:=by
 obtain⟨k,n,s,l⟩:=t;simp only[Tm.kind] at h1 h2;rw[app,if_neg h1,if_neg h2]
mutual
def Tm.cv:Tm->Prop
 |.mk k _ s l=>(k=1->s=⟨⟨[]⟩⟩/\l=[])/\Tm.cvs l
def Tm.cvs:List Tm->Prop
 |[]=>True
 |t::r=>t.cv/\Tm.cvs r
end
theorem Jn:∀{l:List Tm} {x:Tm},Tm.cvs l->x∈l->x.cv
 |y::l,x,h,hm=>by
  simp only[Tm.cvs] at h;rcases zI.1 hm with rfl|hm
  .exact h.1
  .exact Jn h.2 hm
theorem D9{t:Tm}(h:t.cv)(hk:t.kind=1):t=bX t.num:=by
 obtain⟨k,n,s,l⟩:=t;simp only[Tm.cv] at h;simp only[Tm.kind] at hk;obtain⟨h1,h2⟩:=h.1 hk;rw[hk,h1,h2];rfl
theorem On{t x:Tm}(h:t.cv)(hx:x∈t.args):x.cv:=by
 obtain⟨k,n,s,l⟩:=t;simp only[Tm.cv] at h;exact Jn h.2 hx
theorem Nu(v:Int):(bX v).cv:=⟨λ_=>⟨rfl,rfl⟩,trivial⟩
theorem wP{v w:Int}(h:bX v=bX w):v=w:=congrArg Tm.num h
def Eqs(l:List (Tm×Tm))(σ:Int->Tm):Prop:=∀p∈l,app σ p.1=app σ p.2
structure Mgu(S:(Int->Tm)->Prop)(M:Int->Tm):Prop where
 sol:S M
 gen:∀σ,S σ->∀v,σ v=app σ (M v)
 can:∀v w,M v=bX w->w<=v
 cv:∀v,(M v).cv
theorem GC{A:Int->Tm}{t:Tm}(h:¬t.kind=1):(app A t).kind=t.kind:=by
 by_cases h2:t.kind=2
 .rw [vK h2];rfl
 .rw [C3 h h2]
def fits(t:Tm):Prop:=t.sz<=200/\t.dep<=20
instance (t:Tm):Decidable (fits t):=inferInstanceAs (Decidable (_/\_))
structure QA(M:Int->Tm)(out:List Bnd):Prop where
 asc:(out.map (·.v)).Pairwise (·<·)
 mem:∀v t,(⟨v,t⟩:Bnd)∈out↔(t=M v/\M v≠bX v)
def Ans(S:(Int->Tm)->Prop)(out:List Bnd)(e:Int):Prop:=
 ((∀σ,¬S σ)/\out=[]/\e=13)\/∃M,Mgu S M/\((QA M out/\(∀b∈out,fits b.t)/\e=0)\/((∃v,M v≠bX v/\¬fits (M v))/\out=[]/\e=6))
theorem Ans.congr{S S':(Int->Tm)->Prop}{out:List Bnd}{e:Int}(h:Ans S out e)(hS:∀σ,S σ↔S' σ):Ans S' out e:=by
 have:S=S':=funext λσ=>propext (hS σ);rw[<-this];exact h
end Go.CK
namespace Go.CK
open Go.AM
def gv(nds:List Nd)(σ:Int->Tm)(i:Nat):Tm:=match nds[i]? with
 |some x=>app σ x.t
 |none=>bX 0
theorem pw{nds:List Nd}{σ:Int->Tm}{i:Nat}{x:Nd}(h:nds[i]? =some x):gv nds σ i=app σ x.t:=by unfold gv;rw[h]
structure Nds(nds:List Nd):Prop where
 frm:∀(i:Nat) (x:Nd),nds[i]? =some x->x.t.form=true
 len:∀(i:Nat) (x:Nd),nds[i]? =some x->x.kids.length=x.t.args.length
 kid:∀(i:Nat) (x:Nd),nds[i]? =some x->∀(j c:Nat) (y:Tm),x.kids[j]? =some c->x.t.args[j]? =some y->∃z:Nd,nds[c]? =some z/\z.t=y
 one:∀(i j:Nat) (x y:Nd),nds[i]? =some x->nds[j]? =some y->x.t.kind=1->x.t=y.t->i=j
structure Par(nds:List Nd)(rt:Nat->Nat->Prop):Prop where
 lt:∀k r,rt k r->k<nds.length/\r<nds.length
 tot:∀k,k<nds.length->∃r,rt k r
 det:∀k r s,rt k r->rt k s->r=s
 idem:∀k r,rt k r->rt r r
def Sat(nds:List Nd)(rt:Nat->Nat->Prop)(ps:List (Nat×Nat))(σ:Int->Tm):Prop:=
 (∀k r,rt k r->gv nds σ k=gv nds σ r)/\∀p∈ps,gv nds σ p.1=gv nds σ p.2
def rtM(rt:Nat->Nat->Prop)(a b:Nat):Nat->Nat->Prop:=λk r=>∃s,rt k s/\r=if s=b then a else s
inductive Cl (rt:Nat->Nat->Prop) (ps:List (Nat×Nat)):Nat->Nat->Prop where
 |cls {c d r:Nat} (h:rt c r) (k:rt d r):Cl rt ps c d
 |pair {c d:Nat} (h:(c,d)∈ps):Cl rt ps c d
 |symm {c d:Nat} (h:Cl rt ps c d):Cl rt ps d c
 |trans {c d e:Nat} (h:Cl rt ps c d) (k:Cl rt ps d e):Cl rt ps c e
theorem Cl.map{rt rt':Nat->Nat->Prop}{ps ps':List (Nat×Nat)}(h1:∀c d r,rt c r->rt d r->Cl rt' ps' c d)(h2:∀c d,(c,d)∈ps->Cl rt' ps' c d){c d:Nat}(h:Cl rt ps c d):Cl rt' ps' c d:=by
 induction h with
 |cls h k=>exact h1 _ _ _ h k
 |pair h=>exact h2 _ _ h
 |symm _ ih=>exact ih.symm
 |trans _ _ ih ih2=>exact ih.trans ih2
def Alike(rt:Nat->Nat->Prop)(ps:List (Nat×Nat))(x y:Nd):Prop:=gJ x.t y.t=true/\∀(j c d:Nat),x.kids[j]? =some c->y.kids[j]? =some d->Cl rt ps c d
def bF(nds:List Nd)(rt:Nat->Nat->Prop)(ps:List (Nat×Nat)):Prop:=∀(i k r:Nat) (x y:Nd),nds[i]? =some x->nds[k]? =some y->¬x.t.kind=1->¬y.t.kind=1->rt i r->rt k r->Alike rt ps x y
theorem ct{a b:Tm}:gJ a b=true↔a.kind=b.kind/\a.num=b.num/\a.name=b.name/\a.args.length=b.args.length:=by
 unfold gJ;simp only[zD,decide_eq_true_eq]
theorem Alike.symm{rt:Nat->Nat->Prop}{ps:List (Nat×Nat)}{x y:Nd}(h:Alike rt ps x y):Alike rt ps y x:=by
 refine⟨?_,λj c d hc hd=>(h.2 j d c hd hc).symm⟩;have:=ct.1 h.1;exact ct.2 ⟨this.1.symm,this.2.1.symm,this.2.2.1.symm,this.2.2.2.symm⟩
section
variable{nds:List Nd}{rt:Nat->Nat->Prop}{ps:List (Nat×Nat)}{a b:Nat}
theorem Alike.trans(hn:Nds nds){i j k:Nat}{x y z:Nd}(hx:nds[i]? =some x)(hy:nds[j]? =some y)(hz:nds[k]? =some z)(h:Alike rt ps x y)(h2:Alike rt ps y z):Alike rt ps x z:=by
 have e1:=ct.1 h.1;have e2:=ct.1 h2.1;refine⟨ct.2 ⟨e1.1.trans e2.1,e1.2.1.trans e2.2.1,e1.2.2.1.trans e2.2.2.1,e1.2.2.2.trans e2.2.2.2⟩,λq c d hc hd=>?_⟩
 have hq:q<y.kids.length:=by
  have:=(zB.1 hc).1;rw[hn.len _ _ hx] at this;rw[hn.len _ _ hy];omega
 exact(h.2 q c _ hc (zA hq)).trans (h2.2 q _ d (zA hq) hd)
theorem Alike.mono{rt':Nat->Nat->Prop}{ps':List (Nat×Nat)}(hc:∀c d,Cl rt ps c d->Cl rt' ps' c d){x y:Nd}(h:Alike rt ps x y):Alike rt' ps' x y:=⟨h.1,λj c d h1 h2=>hc _ _ (h.2 j c d h1 h2)⟩
theorem tP(h:Par nds rt){x y:Nat}(hx:rt x a)(hy:rt y b)(σ:Int->Tm):Sat nds (rtM rt a b) ps σ↔Sat nds rt (ps++[(x,y)]) σ:=by
 have hb:=h.idem _ _ hy;have ha:=h.idem _ _ hx;constructor
 .rintro ⟨h1,h2⟩;have hab:gv nds σ b=gv nds σ a:=h1 b a ⟨b,hb,by rw[if_pos rfl]⟩
  have h3:∀k r,rt k r->gv nds σ k=gv nds σ r:=λk r hk=>by
   have:=h1 k _ ⟨r,hk,rfl⟩
   by_cases hr:r=b
   .rw [if_pos hr] at this;rw[this,hr,hab]
   .rw [if_neg hr] at this;exact this
  refine⟨h3,λp hp=>?_⟩;rcases zY.1 hp with hp|hp
  .exact h2 p hp
  .rw [zp] at hp;subst hp;show gv nds σ x=gv nds σ y;rw[h3 x a hx,h3 y b hy,hab]
 .rintro ⟨h1,h2⟩;have hxy:gv nds σ x=gv nds σ y:=h2 (x,y) (by simp)
  refine⟨?_,λp hp=>h2 p (ZB _ hp)⟩;rintro k r ⟨s,hk,rfl⟩
  by_cases hs:s=b
  .rw [if_pos hs,h1 k s hk,hs,<-h1 y b hy,<-hxy,h1 x a hx]
  .rw [if_neg hs];exact h1 k s hk
theorem Lx{x y:Nat}(hx:rt x a)(hy:rt y a)(σ:Int->Tm):Sat nds rt (ps++[(x,y)]) σ↔Sat nds rt ps σ:=by
 refine⟨λh=>⟨h.1,λp hp=>h.2 p (ZB _ hp)⟩,λh=>⟨h.1,λp hp=>?_⟩⟩;rcases zY.1 hp with hp|hp
 .exact h.2 p hp
 .rw [zp] at hp;subst hp;show gv nds σ x=gv nds σ y;rw[h.1 x a hx,h.1 y a hy]
theorem Gg{x y:Nat}(hx:rt x a)(hy:rt y a)(h:bF nds rt (ps++[(x,y)])):bF nds rt ps:=λi k r u v hu hv hu1 hv1 hi hk=>(h i k r u v hu hv hu1 hv1 hi hk).mono λc d hcd=>hcd.map (λc d r h1 h2=>.cls h1 h2) λc d hm=>by
 rcases zY.1 hm with hm|hm
 .exact .pair hm
 .rw [zp] at hm;cases hm;exact .cls hx hy
theorem Iq{x y:Nd}(h:gJ x.t y.t=true){ps':List (Nat×Nat)}(hp:∀p∈x.kids.zip y.kids,p∈ps'):Alike rt ps' x y:=
 ⟨h,λj c d hc hd=>.pair (hp (c,d) (zE (ZU.2 ⟨hc,hd⟩)))⟩
theorem tE(hn:Nds nds)(hp:Par nds rt){x y:Nat}(hx:rt x a)(hy:rt y b)(hab:¬a=b){ps':List (Nat×Nat)}(hps:∀p∈ps,p∈ps')(h:bF nds rt (ps++[(x,y)]))
  (hs:∀(i k:Nat) (u v:Nd),nds[i]? =some u->nds[k]? =some v->¬u.t.kind=1->¬v.t.kind=1->rt i a->rt k b->∃(i' k':Nat) (u' v':Nd),nds[i']? =some u'/\nds[k']? =some v'/\¬u'.t.kind=1/\¬v'.t.kind=1/\rt i' a/\rt k' b/\Alike (rtM rt a b) ps' u' v'):bF nds (rtM rt a b) ps':=by
 have hcl:∀c d,Cl rt (ps++[(x,y)]) c d->Cl (rtM rt a b) ps' c d:=λc d hcd=>hcd.map (λc d r h1 h2=>.cls ⟨r,h1,rfl⟩ ⟨r,h2,rfl⟩) λc d hm=>by
  rcases zY.1 hm with hm|hm
  .exact .pair (hps _ hm)
  .rw [zp] at hm;cases hm;exact .cls (r:=a) ⟨a,hx,by rw[if_neg hab]⟩ ⟨b,hy,by rw[if_pos rfl]⟩
 have hab':∀(i k:Nat) (u v:Nd),nds[i]? =some u->nds[k]? =some v->¬u.t.kind=1->¬v.t.kind=1->rt i a->rt k b->Alike (rtM rt a b) ps' u v:=λi k u v hu hv hu1 hv1 hi hk=>by
  obtain⟨i',k',u',v',e1,e2,e3,e4,e5,e6,e7⟩:=hs i k u v hu hv hu1 hv1 hi hk;have q1:=(h i i' a u u' hu e1 hu1 e3 hi e5).mono hcl;have q2:=(h k' k b v' v e2 hv e4 hv1 e6 hk).mono hcl;exact(q1.trans hn hu e1 e2 e7).trans hn hu e2 hv q2
 rintro i k r u v hu hv hu1 hv1 ⟨s,hi,e1⟩ ⟨s',hk,e2⟩;subst e1
 by_cases hs1:s=b<;>by_cases hs2:s'=b
 .subst hs1;subst hs2;exact(h i k s' u v hu hv hu1 hv1 hi hk).mono hcl
 .subst hs1;rw[if_pos rfl,if_neg hs2] at e2;subst e2;exact(hab' k i v u hv hu hv1 hu1 hk hi).symm
 .subst hs2;rw[if_neg hs1,if_pos rfl] at e2;subst e2;exact hab' i k u v hu hv hu1 hv1 hi hk
 .rw [if_neg hs1,if_neg hs2] at e2;subst e2;exact(h i k s u v hu hv hu1 hv1 hi hk).mono hcl
theorem uH(hn:Nds nds){i:Nat}{x:Nd}(hx:nds[i]? =some x)(σ:Int->Tm)(h:x.t.kind=2):gv nds σ i=.mk 2 x.t.num x.t.name (x.kids.map (gv nds σ)):=by
 rw[pw hx,vK h,h];congr 1;apply Zu;intro j;simp only[ZF]
 cases hk:x.kids[j]? with
 |none=>
  have:x.t.args[j]? =none:=by
   rw[ZK] at hk|-;rw[<-hn.len _ _ hx];exact hk
  rw[this];rfl
 |some c=>
  have hlt:=(zB.1 hk).1;rw[hn.len _ _ hx] at hlt;have hy:=zA hlt;obtain⟨z,h1,h2⟩:=hn.kid _ _ hx j c _ hk hy;rw[hy,zM,zM,pw h1,h2]
theorem nW{t:Tm}(h:t.form=true)(h1:¬t.kind=1)(h2:¬t.kind=2):t=.mk 0 t.num ⟨⟨[]⟩⟩ []:=by
 by_cases h0:t.kind=0
 .rw [Ag h0,decide_eq_true_eq] at h;obtain⟨k,n,s,l⟩:=t;simp only[Tm.kind,Tm.num,Tm.name,Tm.args] at*;rw[h0,h.2.2.1,zL h.2.2.2]
 .rw [Af h0 h1 h2] at h;cases h
theorem Mq(hn:Nds nds){i:Nat}{x:Nd}(hx:nds[i]? =some x)(σ:Int->Tm)(h1:¬x.t.kind=1)(h2:¬x.t.kind=2):gv nds σ i=x.t:=by
 rw[pw hx,C3 h1 h2]
theorem J6(hn:Nds nds){i k:Nat}{x y:Nd}(hx:nds[i]? =some x)(hy:nds[k]? =some y)(hx1:¬x.t.kind=1)(hy1:¬y.t.kind=1)(h:gJ x.t y.t=false)(σ:Int->Tm):gv nds σ i≠gv nds σ k:=by
 intro e
 have:gJ x.t y.t=true:=by
  have hk:=congrArg Tm.kind e;rw[pw hx,pw hy,GC hx1,GC hy1] at hk
  by_cases h2:x.t.kind=2
  .rw [uH hn hx σ h2,uH hn hy σ (hk▸h2)] at e;simp only[Tm.mk.injEq,true_and] at e;refine ct.2 ⟨hk,e.1,e.2.1,?_⟩;have:=congrArg List.length e.2.2;rw[zF,zF,hn.len _ _ hx,hn.len _ _ hy] at this;exact this
  .have h2':¬y.t.kind=2:=by rw[<-hk];exact h2
   rw[Mq hn hx σ hx1 h2,Mq hn hy σ hy1 h2'] at e;rw[e];exact ct.2 ⟨rfl,rfl,rfl,rfl⟩
 rw[h] at this;cases this
theorem N7(hn:Nds nds){i k:Nat}{x y:Nd}(hx:nds[i]? =some x)(hy:nds[k]? =some y)(h:gJ x.t y.t=true)(hx1:¬x.t.kind=1){σ:Int->Tm}(e:gv nds σ i=gv nds σ k):∀p∈x.kids.zip y.kids,gv nds σ p.1=gv nds σ p.2:=by
 have ha:=ct.1 h;intro p hp;obtain⟨j,hj⟩:=ZS hp;obtain⟨h1,h2⟩:=ZU.1 hj
 by_cases hk:x.t.kind=2
 .rw [uH hn hx σ hk,uH hn hy σ (ha.1▸hk)] at e;simp only[Tm.mk.injEq] at e;have:=congrArg (λl=>l[j]?) e.2.2.2;simp only[ZF,h1,h2,zM,zN] at this;exact this
 .have hi:=nW (hn.frm _ _ hx) hx1 hk;have hl:=hn.len _ _ hx;rw[hi] at hl;have:x.kids=[]:=zL hl;rw[this] at h1;simp at h1
theorem Lz{ps':List (Nat×Nat)}{σ:Int->Tm}(h:Sat nds rt ps σ)(hp:∀p∈ps',gv nds σ p.1=gv nds σ p.2):Sat nds rt (ps++ps') σ:=⟨h.1,λp hm=>(zY.1 hm).elim (h.2 p) (hp p)⟩
end
end Go.CK
namespace Go.CK
open Go.AM
def qn(nds:List Nd)(rt:Nat->Nat->Prop)(sh:Nat->Option Nat):Prop:=∀r,rt r r->
 (∀k,sh r=some k->∃x:Nd,nds[k]? =some x/\¬x.t.kind=1/\rt k r)/\(sh r=none->∀(k:Nat) (x:Nd),nds[k]? =some x->rt k r->x.t.kind=1)
def qo(nds:List Nd)(rt:Nat->Nat->Prop)(le:Nat->Option Int):Prop:=∀r,rt r r->
 (∀w,le r=some w->(∃(k:Nat) (x:Nd),nds[k]? =some x/\x.t=bX w/\rt k r)/\∀(k:Nat) (x:Nd),nds[k]? =some x->rt k r->x.t.kind=1->w<=x.t.num)/\(le r=none->∀(k:Nat) (x:Nd),nds[k]? =some x->rt k r->¬x.t.kind=1)
inductive Ex (nds:List Nd) (rt:Nat->Nat->Prop) (sh:Nat->Option Nat) (le:Nat->Option Int):Nat->Tm->Prop where
 |var {r:Nat} {w:Int} (h:rt r r) (h1:sh r=none) (h2:le r=some w):Ex nds rt sh le r (bX w)
 |leaf {r k:Nat} {x:Nd} (h:rt r r) (h1:sh r=some k) (h2:nds[k]? =some x) (h3:x.t.args=[]):Ex nds rt sh le r x.t
 |fn {r k:Nat} {x:Nd} {ts:List Tm} (h:rt r r) (h1:sh r=some k) (h2:nds[k]? =some x) (h3:¬x.t.args=[]) (h4:ts.length=x.kids.length) (h5:∀(j c s:Nat) (y:Tm),x.kids[j]? =some c->rt c s->ts[j]? =some y->Ex nds rt sh le s y):Ex nds rt sh le r (.mk x.t.kind x.t.num x.t.name ts)
mutual
theorem nX:∀(t:Tm),t.form=true->t.cv
 |.mk k n s l,h=>by
  refine⟨λhk=>?_,FY l (qj h)⟩;rw[uL (t:=.mk k n s l) hk,decide_eq_true_eq] at h;exact⟨h.2.2.1,zL h.2.2.2⟩
theorem FY:∀(l:List Tm),Tm.b5 l=true->Tm.cvs l
 |[],_=>trivial
 |t::r,h=>by
  simp only[Tm.b5,zD] at h;exact⟨nX t h.1,FY r h.2⟩
end
theorem FX:∀{l:List Tm},(∀x∈l,x.form=true)->Tm.b5 l=true
 |[],_=>rfl
 |t::r,h=>by
  simp only[Tm.b5,zD];exact⟨h t (zV ..),FX λx hx=>h x (zQ _ hx)⟩
theorem Oe{t:Tm}{l:List Tm}(hk:t.kind=2)(h:t.form=true)(hl:l.length=t.args.length)(hf:Tm.b5 l=true):(Tm.mk t.kind t.num t.name l).form=true:=by
 rw[rT hk] at h;rw[rT (show (Tm.mk t.kind t.num t.name l).kind=2 from hk)];simp only[zD,decide_eq_true_eq,ZN] at h;have e1:(Tm.mk t.kind t.num t.name l).num=t.num:=rfl;have e2:(Tm.mk t.kind t.num t.name l).name=t.name:=rfl;have e3:(Tm.mk t.kind t.num t.name l).args=l:=rfl;rw[e1,e2,e3,hl,hf,Bool.and_true,decide_eq_true h.1,za];rcases h.2.1 with h1|h1
 .rw [h1,Bool.true_or]
 .rw [h1.1,decide_eq_true h1.2,za,Bool.or_true]
section
variable{nds:List Nd}{rt:Nat->Nat->Prop}{sh:Nat->Option Nat}{le:Nat->Option Int}
theorem nR(hn:Nds nds){i j c:Nat}{x:Nd}(hx:nds[i]? =some x)(hc:x.kids[j]? =some c):c<nds.length:=by
 have hlt:=(zB.1 hc).1;rw[hn.len _ _ hx] at hlt;obtain⟨z,h1,_⟩:=hn.kid _ _ hx j c _ hc (zA hlt);exact(zB.1 h1).1
theorem Ex.det(hn:Nds nds)(hp:Par nds rt){r:Nat}{t:Tm}(h:Ex nds rt sh le r t):∀{t':Tm},Ex nds rt sh le r t'->t=t':=by
 induction h with
 |var h h1 h2=>
  intro t' h'
  cases h' with
  |var h' h1' h2'=>rw[h2] at h2';cases h2';rfl
  |leaf h' h1' _ _=>rw[h1] at h1';cases h1'
  |fn h' h1' _ _ _ _=>rw[h1] at h1';cases h1'
 |leaf h h1 h2 h3=>
  intro t' h'
  cases h' with
  |var h' h1' h2'=>rw[h1] at h1';cases h1'
  |leaf h' h1' h2' _=>rw[h1] at h1';cases h1';rw[h2] at h2';cases h2';rfl
  |fn h' h1' h2' h3' _ _=>rw[h1] at h1';cases h1';rw[h2] at h2';cases h2';exact absurd h3 h3'
 |fn h h1 h2 h3 h4 h5 ih=>
  intro t' h'
  cases h' with
  |var h' h1' h2'=>rw[h1] at h1';cases h1'
  |leaf h' h1' h2' h3'=>rw[h1] at h1';cases h1';rw[h2] at h2';cases h2';exact absurd h3' h3
  |fn h' h1' h2' h3' h4' h5'=>
   rw[h1] at h1';cases h1';rw[h2] at h2';cases h2';congr 1;apply Zu;intro j;rename_i r k x ts ts'
   cases hk:x.kids[j]? with
   |none=>
    rw[ZK] at hk
    rw[ZK.2 (by omega),ZK.2 (by omega)]
   |some c=>
    have hlt:=(zB.1 hk).1;obtain⟨s,hs⟩:=hp.tot c (nR hn h2 hk);have e1:ts[j]? =some ts[j]:=zA (by omega)
    have e2:ts'[j]? =some ts'[j]:=zA (by omega)
    rw[e1,e2,ih j c s _ hk hs e1 (h5' j c s _ hk hs e2)]
theorem Ex.form(hn:Nds nds)(hp:Par nds rt)(hsh:qn nds rt sh)(hle:qo nds rt le){r:Nat}{t:Tm}(h:Ex nds rt sh le r t):t.form=true:=by
 induction h with
 |var h h1 h2=>
  obtain⟨⟨k,x,e1,e2,e3⟩,_⟩:=(hle _ h).1 _ h2
  rw[<-e2];exact hn.frm _ _ e1
 |leaf h h1 h2 h3=>exact hn.frm _ _ h2
 |fn h h1 h2 h3 h4 h5 ih=>
  rename_i r k x ts;have hf:=hn.frm _ _ h2;have hl:=hn.len _ _ h2;obtain⟨x',e1,e2,_⟩:=(hsh _ h).1 _ h1;rw[h2] at e1;cases e1
  by_cases hk:x.t.kind=2
  .refine Oe hk hf (by omega) (FX λy hy=>?_)
   obtain⟨j,hj⟩:=ZS hy;have hlt:=(zB.1 hj).1;have hc:x.kids[j]? =some (x.kids[j]'(by omega)):=zA (by omega)
   obtain⟨s,hs⟩:=hp.tot _ (nR hn h2 hc);exact ih j _ s y hc hs hj
  .have:=nW hf e2 hk;rw[this] at h3;exact absurd rfl h3
theorem Pc(hn:Nds nds)(hp:Par nds rt)(hsh:qn nds rt sh)(hle:qo nds rt le){σ:Int->Tm}(hs:Sat nds rt [] σ){r:Nat}{t:Tm}(h:Ex nds rt sh le r t):app σ t=gv nds σ r:=by
 induction h with
 |var h h1 h2=>
  obtain⟨⟨k,x,e1,e2,e3⟩,_⟩:=(hle _ h).1 _ h2
  rw[<-hs.1 _ _ e3,pw e1,e2]
 |leaf h h1 h2 h3=>
  obtain⟨x',e1,e2,e3⟩:=(hsh _ h).1 _ h1
  rw[<-hs.1 _ _ e3,pw h2]
 |fn h h1 h2 h3 h4 h5 ih=>
  rename_i r k x ts;obtain⟨x',e1,e2,e3⟩:=(hsh _ h).1 _ h1;rw[h2] at e1;cases e1;rw[<-hs.1 _ _ e3]
  have hk:x.t.kind=2:=by
   by_cases hk:x.t.kind=2
   .exact hk
   .have:=nW (hn.frm _ _ h2) e2 hk;rw[this] at h3;exact absurd rfl h3
  rw[uH hn h2 σ hk,vK (show (Tm.mk x.t.kind x.t.num x.t.name ts).kind=2 from hk)];simp only[Tm.kind,Tm.num,Tm.name,Tm.args];have hk':=hk;simp only[Tm.kind] at hk';rw[hk'];congr 1;apply Zu;intro j;simp only[ZF]
  cases hc:x.kids[j]? with
  |none=>
   rw[ZK] at hc
   rw[ZK.2 (by omega)];rfl
  |some c=>
   have hlt:=(zB.1 hc).1;have e4:ts[j]? =some ts[j]:=zA (by omega)
   obtain⟨s,hcs⟩:=hp.tot _ (nR hn h2 hc);rw[e4,zM,zM,ih j c s _ hc hcs e4,hs.1 _ _ hcs]
theorem Cl.nil(hp:Par nds rt){c d:Nat}(h:Cl rt [] c d):∃r,rt c r/\rt d r:=by
 induction h with
 |cls h k=>exact⟨_,h,k⟩
 |pair h=>cases h
 |symm _ ih=>obtain⟨r,h1,h2⟩:=ih;exact⟨r,h2,h1⟩
 |trans _ _ ih ih2=>
  obtain⟨r,h1,h2⟩:=ih;obtain⟨s,h3,h4⟩:=ih2;rw[hp.det _ _ _ h2 h3] at h1;exact⟨s,h1,h4⟩
open Classical in
noncomputable def mguM(nds:List Nd)(rt:Nat->Nat->Prop)(sh:Nat->Option Nat)(le:Nat->Option Int)(v:Int):Tm:=
 if h:∃t,∃(k:Nat) (x:Nd) (r:Nat),nds[k]? =some x/\x.t=bX v/\rt k r/\Ex nds rt sh le r t then h.choose else bX v
theorem p9(hn:Nds nds)(hp:Par nds rt){v:Int}{k r:Nat}{x:Nd}{t:Tm}(h1:nds[k]? =some x)(h2:x.t=bX v)(h3:rt k r)(h4:Ex nds rt sh le r t):mguM nds rt sh le v=t:=by
 have h:∃t,∃(k:Nat) (x:Nd) (r:Nat),nds[k]? =some x/\x.t=bX v/\rt k r/\Ex nds rt sh le r t:=⟨t,k,x,r,h1,h2,h3,h4⟩;unfold mguM;rw[dif_pos h];obtain⟨k',x',r',e1,e2,e3,e4⟩:=h.choose_spec;have:k'=k:=hn.one _ _ _ _ e1 h1 (by rw[e2];rfl) (by rw[e2,h2])
 subst this;have:=hp.det _ _ _ e3 h3;subst this;exact e4.det hn hp h4
theorem wC{v:Int}(h:¬∃(k:Nat) (x:Nd),nds[k]? =some x/\x.t=bX v):mguM nds rt sh le v=bX v:=by
 unfold mguM;rw[dif_neg];rintro⟨t,k,x,r,h1,h2,_⟩;exact h ⟨k,x,h1,h2⟩
theorem gvM(hn:Nds nds)(hp:Par nds rt)(hsh:qn nds rt sh)(hle:qo nds rt le)(hc:bF nds rt [])(T:Tm):∀(i:Nat) (x:Nd) (r:Nat) (t:Tm),nds[i]? =some x->x.t=T->rt i r->Ex nds rt sh le r t->app (mguM nds rt sh le) T=t:=by
 induction T using Tm.bK with
 |h k n s l ih=>
 intro i x r t hx hT hr ht;have hf:=hn.frm _ _ hx;rw[hT] at hf
 by_cases h1:k=1
 .have hcv:=D9 (nX _ hf) h1;rw[hcv,Eo];exact p9 hn hp hx (hT.trans hcv) hr ht
 .have hx1:¬x.t.kind=1:=by rw[hT];exact h1
  cases ht with
  |var h e1 e2=>exact absurd ((hsh _ h).2 e1 i x hx hr) hx1
  |leaf h e1 e2 e3=>
   rename_i q y;obtain⟨y',f1,f2,f3⟩:=(hsh _ h).1 _ e1;rw[e2] at f1;cases f1;have ha:=ct.1 (hc i q r x y hx e2 hx1 f2 hr f3).1;rw[hT,e3] at ha;simp only[Tm.kind,Tm.num,Tm.name,Tm.args,ZQ] at ha;have hl:l=[]:=zL ha.2.2.2;subst hl
   have:app (mguM nds rt sh le) (.mk k n s [])=.mk k n s []:=by
    rw[app,if_neg h1];split<;>rfl
   rw[this];have hy:y.t=.mk y.t.kind y.t.num y.t.name y.t.args:=by cases y.t;rfl
   rw[hy,e3];simp only[Tm.kind,Tm.num,Tm.name]
   rw[ha.1,ha.2.1,ha.2.2.1]
  |fn h e1 e2 e3 e4 e5=>
   rename_i q y ts;obtain⟨y',f1,f2,f3⟩:=(hsh _ h).1 _ e1;rw[e2] at f1;cases f1;have hal:=hc i q r x y hx e2 hx1 f2 hr f3;have ha:=ct.1 hal.1
   have hy2:y.t.kind=2:=by
    by_cases hk:y.t.kind=2
    .exact hk
    .have:=nW (hn.frm _ _ e2) f2 hk;rw[this] at e3;exact absurd rfl e3
   have hx2:x.t.kind=2:=ha.1.trans hy2;have hk2:(Tm.mk k n s l).kind=2:=by rw[<-hT];exact hx2
   rw[vK hk2,<-hT];rw[ha.1,ha.2.1,ha.2.2.1];congr 1;apply Zu;intro j;rw[ZF];have hlx:=hn.len _ _ hx;have hly:=hn.len _ _ e2
   cases hj:x.t.args[j]? with
   |none=>
    rw[ZK] at hj
    rw[ZK.2 (by omega)];rfl
   |some a=>
    have hlt:=(zB.1 hj).1;have c1:x.kids[j]? =some (x.kids[j]'(by omega)):=zA (by omega)
    have d1:y.kids[j]? =some (y.kids[j]'(by omega)):=zA (by omega)
    have t1:ts[j]? =some (ts[j]'(by omega)):=zA (by omega)
    obtain⟨u,hu1,hu2⟩:=(hal.2 j _ _ c1 d1).nil hp;obtain⟨z,hz1,hz2⟩:=hn.kid _ _ hx j _ a c1 hj
    have hm:a∈l:=by
     have:=zE hj;rw[hT] at this;exact this
    rw[t1,zM,ih a hm _ z u _ hz1 hz2 hu1 (e5 j _ u _ d1 hu2 t1)]
theorem PC(hn:Nds nds)(hp:Par nds rt)(hsh:qn nds rt sh)(hle:qo nds rt le)(hc:bF nds rt [])(hall:∀r,rt r r->∃t,Ex nds rt sh le r t):Mgu (Sat nds rt []) (mguM nds rt sh le):=by
 have hval:∀(k r:Nat) (t:Tm),rt k r->Ex nds rt sh le r t->gv nds (mguM nds rt sh le) k=t:=λk r t hk ht=>by
  have hlt:=(hp.lt _ _ hk).1;have hx:=zA hlt;rw[pw hx];exact gvM hn hp hsh hle hc _ k _ r t hx rfl hk ht
 refine⟨⟨λk r hk=>?_,λp hp=>by cases hp⟩,λσ hσ v=>?_,λv w hv=>?_,λv=>?_⟩
 .obtain ⟨t,ht⟩:=hall r (hp.idem _ _ hk);rw[hval k r t hk ht,hval r r t (hp.idem _ _ hk) ht]
 .by_cases h:∃(k:Nat) (x:Nd),nds[k]? =some x/\x.t=bX v
  .obtain ⟨k,x,h1,h2⟩:=h;obtain⟨r,hr⟩:=hp.tot k (zB.1 h1).1;obtain⟨t,ht⟩:=hall r (hp.idem _ _ hr);rw[p9 hn hp h1 h2 hr ht,Pc hn hp hsh hle hσ ht,<-hσ.1 _ _ hr,pw h1,h2,Eo]
  .rw [wC h,Eo]
 .by_cases h:∃(k:Nat) (x:Nd),nds[k]? =some x/\x.t=bX v
  .obtain ⟨k,x,h1,h2⟩:=h;obtain⟨r,hr⟩:=hp.tot k (zB.1 h1).1;obtain⟨t,ht⟩:=hall r (hp.idem _ _ hr);rw[p9 hn hp h1 h2 hr ht] at hv;subst hv;generalize hw:bX w=t at ht
   cases ht with
   |var h e1 e2=>
    rename_i w';have:=wP hw;subst this;have:=((hle _ h).1 _ e2).2 k x h1 hr (by rw[h2];rfl)
    rw[h2] at this;exact this
   |leaf h e1 e2 e3=>
    obtain⟨y',f1,f2,f3⟩:=(hsh _ h).1 _ e1;rw[e2] at f1;cases f1
    exfalso;apply f2;rw[<-hw];rfl
   |fn h e1 e2 e3 e4 e5=>
    rename_i q y ts;obtain⟨y',f1,f2,f3⟩:=(hsh _ h).1 _ e1;rw[e2] at f1;cases f1;exfalso;apply f2;have:=congrArg Tm.kind hw;exact this.symm
  .rw [wC h] at hv;rw[wP hv];exact Int.le_refl _
 .by_cases h:∃(k:Nat) (x:Nd),nds[k]? =some x/\x.t=bX v
  .obtain ⟨k,x,h1,h2⟩:=h;obtain⟨r,hr⟩:=hp.tot k (zB.1 h1).1;obtain⟨t,ht⟩:=hall r (hp.idem _ _ hr);rw[p9 hn hp h1 h2 hr ht];exact nX _ (ht.form hn hp hsh hle)
  .rw [wC h];exact Nu v
end
end Go.CK
namespace Go.CK
open Go.AM
inductive Rt (up:List Nat):Nat->Nat->Nat->Prop where
 |root {k:Nat} (h:up[k]? =some k):Rt up k k 0
 |step {k p r d:Nat} (h:up[k]? =some p) (h2:¬p=k) (h3:Rt up p r d):Rt up k r (d+1)
theorem Rt.det{up:List Nat}{k r d:Nat}(h:Rt up k r d):∀{s e:Nat},Rt up k s e->r=s/\d=e:=by
 induction h with
 |root h=>
  intro s e h'
  cases h' with
  |root _=>exact⟨rfl,rfl⟩
  |step h1 h2 _=>rw[h] at h1;cases h1;exact absurd rfl h2
 |step h h2 h3 ih=>
  intro s e h'
  cases h' with
  |root h1=>rw[h] at h1;cases h1;exact absurd rfl h2
  |step h1 _ h4=>
   rw[h] at h1;cases h1;obtain⟨e1,e2⟩:=ih h4;exact⟨e1,by omega⟩
theorem Rt.end_{up:List Nat}{k r d:Nat}(h:Rt up k r d):up[r]? =some r:=by
 induction h with
 |root h=>exact h
 |step _ _ _ ih=>exact ih
theorem Rt.lt{up:List Nat}{k r d:Nat}(h:Rt up k r d):k<up.length:=by
 cases h with
 |root h=>exact(zB.1 h).1
 |step h _ _=>exact(zB.1 h).1
theorem Rt.lt2{up:List Nat}{k r d:Nat}(h:Rt up k r d):r<up.length:=(zB.1 h.end_).1
theorem Rt.self{up:List Nat}{r s d:Nat}(h:up[r]? =some r)(k:Rt up r s d):s=r/\d=0:=by
 obtain⟨e1,e2⟩:=k.det (.root h);exact⟨e1,e2⟩
def UpS(up u:List Nat):Prop:=u.length=up.length/\∀j s d,Rt up j s d->∃e,e<=d/\Rt u j s e
theorem UpS.refl(up:List Nat):UpS up up:=⟨rfl,λj s d h=>⟨d,zG _,h⟩⟩
theorem UpS.trans{a b c:List Nat}(h:UpS a b)(k:UpS b c):UpS a c:=⟨k.1.trans h.1,λj s d hd=>by
 obtain⟨e,h1,h2⟩:=h.2 j s d hd;obtain⟨f,h3,h4⟩:=k.2 j s e h2;exact⟨f,by omega,h4⟩⟩
theorem Qh{up:List Nat}{k p q:Nat}(hk:up[k]? =some p)(hpk:¬p=k)(hq:up[p]? =some q):UpS up (up.set k q):=by
 refine⟨zm,λj s d=>?_⟩;have hne:∀j,¬j=k->(up.set k q)[j]? =up[j]?:=λj h=>Zi (λe=>h e.symm)
 induction d using Nat.strongRecOn generalizing j s with
 |ind d ih=>
  intro hj
  by_cases h:j=k
  .subst h;have hlt:=(zB.1 hk).1;have hset:(up.set j q)[j]? =some q:=by simp[hlt]
   have hj0:=hj
   cases hj with
   |root h1=>rw[hk] at h1;cases h1;exact absurd rfl hpk
   |step h1 h2 h3=>
    rename_i p' d;rw[hk] at h1;cases h1
    cases h3 with
    |root h4=>
     rw[hq] at h4;cases h4
     exact⟨1,by omega,.step hset hpk (.root (by rw[hne _ hpk];exact hq))⟩
    |step h4 h5 h6=>
     rename_i q' d;rw[hq] at h4;cases h4
     have hqk:¬q=j:=by
      rintro rfl;have:=(hj0.det h6).2;omega
     obtain⟨e,h7,h8⟩:=ih d (by omega) q s h6
     exact⟨e+1,by omega,.step hset hqk h8⟩
  .cases hj with
   |root h1=>exact⟨0,zG _,.root (by rw[hne _ h];exact h1)⟩
   |step h1 h2 h3=>
    rename_i p' d;obtain⟨e,h4,h5⟩:=ih d (by omega) p' s h3
    exact⟨e+1,by omega,.step (by rw[hne _ h];exact h1) h2 h5⟩
theorem JX:∀(d:Nat) {up:List Nat} {k r:Nat},Rt up k r d->∀N,d<N->∃u,dg N up k=some (u,r)/\UpS up u:=by
 intro d
 induction d using Nat.strongRecOn with
 |ind d ih=>
  intro up k r h N hN;obtain⟨N,rfl⟩:∃M,N=M+1:=⟨N-1,by omega⟩
  cases h with
  |root h=>exact⟨up,by simp only[dg,h,if_true],.refl _⟩
  |step h1 h2 h3=>
   rename_i p d;obtain⟨q,hq⟩:∃q,up[p]? =some q:=⟨_,zA h3.lt⟩;have hu:=Qh h1 h2 hq
   have h4:∃e,e<=d/\Rt up q r e:=by
    cases h3 with
    |root h5=>rw[hq] at h5;cases h5;exact⟨0,zG _,.root hq⟩
    |step h5 h6 h7=>rw[hq] at h5;cases h5;exact⟨_,by omega,h7⟩
   obtain⟨e,h5,h6⟩:=h4;obtain⟨e',h7,h8⟩:=hu.2 _ _ _ h6;obtain⟨u,h9,h10⟩:=ih e' (by omega) h8 N (by omega)
   exact⟨u,by simp only[dg,h1,if_neg h2,hq];exact h9,hu.trans h10⟩
def cls(up:List Nat):Nat:=(List.range up.length).countP λk=>decide (up[k]? =some k)
theorem uT{α:Type}{p q:α->Bool}:∀{l:List α} {a:α},(∀x∈l,q x=true->p x=true)->a∈l->p a=true->q a=false->l.countP q<l.countP p
 |x::l,a,h,ha,hp,hq=>by
  have hle:l.countP q<=l.countP p:=List.countP_mono_left λy hy=>h y (zQ _ hy);rcases zI.1 ha with rfl|ha
  .rw [List.countP_cons_of_neg (by rw[hq];decide),Zj hp];omega
  .have:=uT (λy hy=>h y (zQ _ hy)) ha hp hq
   by_cases hqx:q x=true
   .rw [Zj hqx,Zj (h x (zV ..) hqx)];omega
   .rw [List.countP_cons_of_neg hqx]
    by_cases hpx:p x=true
    .rw [Zj hpx];omega
    .rw [List.countP_cons_of_neg hpx];exact this
def Tot(up:List Nat):Prop:=∀k,k<up.length->∃r d,Rt up k r d
def RR(up:List Nat):Nat->Nat->Prop:=λk r=>∃d,Rt up k r d
section
variable{up u:List Nat}
theorem UpS.tot(h:UpS up u)(ht:Tot up):Tot u:=λk hk=>by
 obtain⟨r,d,h1⟩:=ht k (by rw[<-h.1];exact hk)
 obtain⟨e,_,h2⟩:=h.2 _ _ _ h1;exact⟨r,e,h2⟩
theorem UpS.back(h:UpS up u)(ht:Tot up){k r e:Nat}(hk:Rt u k r e):∃d,e<=d/\Rt up k r d:=by
 obtain⟨s,d,h1⟩:=ht k (by rw[<-h.1];exact hk.lt)
 obtain⟨e',h2,h3⟩:=h.2 _ _ _ h1;obtain⟨rfl,rfl⟩:=hk.det h3;exact⟨d,h2,h1⟩
theorem UpS.rr(h:UpS up u)(ht:Tot up):RR u=RR up:=by
 funext k r
 refine propext ⟨λ⟨e,he⟩=>?_,λ⟨d,hd⟩=>?_⟩
 .obtain ⟨d,_,h1⟩:=h.back ht he;exact⟨d,h1⟩
 .obtain ⟨e,_,h1⟩:=h.2 _ _ _ hd;exact⟨e,h1⟩
theorem UpS.self(h:UpS up u)(ht:Tot up)(k:Nat):u[k]? =some k↔up[k]? =some k:=by
 constructor
 .intro hk;obtain⟨d,_,h1⟩:=h.back ht (.root hk);exact h1.end_
 .intro hk;obtain⟨e,_,h1⟩:=h.2 _ _ _ (.root hk);exact h1.end_
theorem UpS.cls(h:UpS up u)(ht:Tot up):cls u=cls up:=by
 unfold Go.CK.cls;rw[h.1];refine List.countP_congr λk _=>?_;rw[decide_eq_true_iff,decide_eq_true_iff];exact h.self ht k
theorem xf{a b:Nat}(ha:up[a]? =some a)(hb:up[b]? =some b)(hab:¬a=b){k s d:Nat}(h:Rt up k s d):(s=b->∃e,e<=d+1/\Rt (up.set b a) k a e)/\(¬s=b->Rt (up.set b a) k s d):=by
 have hne:∀j,¬j=b->(up.set b a)[j]? =up[j]?:=λj h=>Zi (λe=>h e.symm);have hblt:=(zB.1 hb).1;have hset:(up.set b a)[b]? =some a:=by simp[hblt]
 have hra:Rt (up.set b a) a a 0:=.root (by rw[hne a hab];exact ha)
 induction h with
 |root h=>
  rename_i k;refine⟨λe=>?_,λe=>.root (by rw[hne k e];exact h)⟩
  subst e
  exact⟨1,zG _,.step hset hab hra⟩
 |step h h2 h3 ih=>
  rename_i k p r d
  have hkb:¬k=b:=by
   rintro rfl;rw[hb] at h;cases h;exact h2 rfl
  refine⟨λe=>?_,λe=>.step (by rw[hne k hkb];exact h) h2 (ih.2 e)⟩
  obtain⟨e',h4,h5⟩:=ih.1 e;exact⟨e'+1,by omega,.step (by rw[hne k hkb];exact h) h2 h5⟩
theorem Kd{a b:Nat}(ha:up[a]? =some a)(hb:up[b]? =some b)(hab:¬a=b)(ht:Tot up):Tot (up.set b a):=λk hk=>by
 rw[zm] at hk;obtain⟨r,d,h⟩:=ht k hk;obtain⟨h1,h2⟩:=xf ha hb hab h
 by_cases hr:r=b
 .obtain ⟨e,_,h3⟩:=h1 hr;exact⟨a,e,h3⟩
 .exact ⟨r,d,h2 hr⟩
theorem ym{a b:Nat}(ha:up[a]? =some a)(hb:up[b]? =some b)(hab:¬a=b)(ht:Tot up){k r e:Nat}(h:Rt (up.set b a) k r e):∃s d,Rt up k s d/\r=(if s=b then a else s)/\e<=d+1:=by
 have hlt:=h.lt;rw[zm] at hlt;obtain⟨s,d,h0⟩:=ht k hlt;obtain⟨h1,h2⟩:=xf ha hb hab h0
 by_cases hs:s=b
 .obtain ⟨e',h3,h4⟩:=h1 hs;obtain⟨rfl,rfl⟩:=h.det h4;exact⟨s,d,h0,by rw[if_pos hs],h3⟩
 .obtain ⟨rfl,rfl⟩:=h.det (h2 hs);exact⟨r,e,h0,by rw[if_neg hs],by omega⟩
theorem Md{a b:Nat}(ha:up[a]? =some a)(hb:up[b]? =some b)(hab:¬a=b)(ht:Tot up):RR (up.set b a)=rtM (RR up) a b:=by
 funext k r
 refine propext ⟨λ⟨e,he⟩=>?_,?_⟩
 .obtain ⟨s,d,h1,h2,_⟩:=ym ha hb hab ht he;exact⟨s,⟨d,h1⟩,h2⟩
 .rintro ⟨s,⟨d,h1⟩,rfl⟩;obtain⟨h2,h3⟩:=xf ha hb hab h1
  by_cases hs:s=b
  .rw [if_pos hs];obtain⟨e,_,h4⟩:=h2 hs;exact⟨e,h4⟩
  .rw [if_neg hs];exact⟨d,h3 hs⟩
theorem Ke{a b:Nat}(hb:up[b]? =some b)(hab:¬a=b):cls (up.set b a)<cls up:=by
 have hblt:=(zB.1 hb).1;unfold cls;rw[zm];refine uT (a:=b) (λk _ hk=>?_) (zd.2 hblt) (decide_eq_true hb) (decide_eq_false ?_)
 .rw [decide_eq_true_iff] at hk|-
  by_cases h:b=k
  .subst h;simp[hblt] at hk;exact absurd hk hab
  .rw [Zi h] at hk;exact hk
 .simp [hblt];exact hab
end
end Go.CK
namespace Go.CK
open Go.AM
abbrev Gr.R(g:Gr):Nat->Nat->Prop:=RR g.up
abbrev Gr.sh(g:Gr):Nat->Option Nat:=λr=>lk g.shape r
abbrev Gr.le(g:Gr):Nat->Option Int:=λr=>lk g.least r
structure GW(N:Nat)(g:Gr):Prop where
 len:g.up.length=g.nodes.length
 tot:Tot g.up
 dep:∀k r d,Rt g.up k r d->d+cls g.up<=g.up.length
 nds:Nds g.nodes
 vars:∀v i,lk g.vars v=some i↔∃x,g.nodes[i]? =some x/\x.t=bX v
 shp:qn g.nodes g.R g.sh
 lst:qo g.nodes g.R g.le
 lim:g.up.length<N
 fr:∀k:Nat,g.nodes.length<=k->lk g.shape k=none/\lk g.least k=none
theorem GW.par{N:Nat}{g:Gr}(h:GW N g):Par g.nodes g.R:=by
 refine⟨λk r ⟨d,hd⟩=>⟨by rw[<-h.len];exact hd.lt,by rw[<-h.len];exact hd.lt2⟩,λk hk=>h.tot k (by rw[h.len];exact hk),λk r s ⟨d,hd⟩ ⟨e,he⟩=>(hd.det he).1,λk r ⟨d,hd⟩=>⟨0,.root hd.end_⟩⟩
theorem GW.upS{N:Nat}{g:Gr}(h:GW N g){u:List Nat}(hu:UpS g.up u):GW N {g with up:=u}:=by
 have e:=hu.rr h.tot;refine⟨hu.1.trans h.len,hu.tot h.tot,λk r d hd=>?_,h.nds,h.vars,?_,?_,by show u.length<N;rw[hu.1];exact h.lim,h.fr⟩
 .obtain ⟨d',h1,h2⟩:=hu.back h.tot hd;have:=h.dep _ _ _ h2;show d+cls u<=u.length;rw[hu.cls h.tot,hu.1];omega
 .show qn g.nodes (RR u) _;rw[e];exact h.shp
 .show qo g.nodes (RR u) _;rw[e];exact h.lst
theorem GW.root{N:Nat}{g:Gr}(h:GW N g){k:Nat}(hk:k<g.up.length):∃u r,dg N g.up k=some (u,r)/\UpS g.up u/\g.R k r:=by
 obtain⟨r,d,hd⟩:=h.tot k hk;have h1:=h.dep _ _ _ hd;have h2:=h.lim;obtain⟨u,h3,h4⟩:=JX d hd N (by omega)
 exact⟨u,r,h3,h4,d,hd⟩
theorem IG{up:List Nat}{r:Nat}(h:RR up r r):up[r]? =some r:=by
 obtain⟨d,hd⟩:=h;exact hd.end_
theorem GW.merge{N:Nat}{g:Gr}(h:GW N g){a b:Nat}(ha:g.R a a)(hb:g.R b b)(hab:¬a=b):GW N (aO g a b)/\(aO g a b).R=rtM g.R a b/\cls (aO g a b).up<cls g.up:=by
 have ha':=IG ha;have hb':=IG hb;have hp:=h.par;have hrr:=Md ha' hb' hab h.tot;have hcl:=Ke hb' hab;have hRR:(aO g a b).R=rtM g.R a b:=hrr
 have hroot:∀r,rtM g.R a b r r->g.R r r/\¬r=b:=by
  rintro r ⟨s,h1,h2⟩
  by_cases hs:s=b
  .rw [if_pos hs] at h2;subst h2;exact⟨ha,hab⟩
  .rw [if_neg hs] at h2;subst h2;exact⟨h1,hs⟩
 have hin:∀k r,rtM g.R a b k r->(¬r=a->g.R k r)/\(r=a->g.R k a\/g.R k b):=by
  rintro k r ⟨s,h1,rfl⟩
  by_cases hs:s=b
  .rw [if_pos hs];subst hs;exact⟨λe=>absurd rfl e,λ_=>.inr h1⟩
  .rw [if_neg hs];exact⟨λ_=>h1,λe=>.inl (e▸h1)⟩
 have hup:∀k r,g.R k r->¬r=b->rtM g.R a b k r:=λk r h1 h2=>⟨r,h1,by rw[if_neg h2]⟩
 have hupb:∀k,g.R k b->rtM g.R a b k a:=λk h1=>⟨b,h1,by rw[if_pos rfl]⟩
 have hne:∀{r:Nat},¬r=a->¬((r:Nat):Int)=(a:Int):=λh e=>h (by omega)
 refine⟨⟨?_,Kd ha' hb' hab h.tot,λk r d hd=>?_,h.nds,h.vars,?_,?_,?_,?_⟩,hRR,hcl⟩
 .show (g.up.set b a).length=_;rw[zm];exact h.len
 .obtain ⟨s,d',h1,_,h2⟩:=ym ha' hb' hab h.tot hd;have:=h.dep _ _ _ h1;show d+cls (g.up.set b a)<=(g.up.set b a).length;rw[zm];omega
 .rw [hRR];intro r hr;obtain⟨hr0,hrb⟩:=hroot r hr;obtain⟨s1,s2⟩:=h.shp r hr0
  by_cases hra:r=a
  .subst hra;obtain⟨t1,t2⟩:=h.shp b hb;show (∀k,lk (aO g r b).shape r=some k->_)/\(lk (aO g r b).shape r=none->_);simp only[aO]
   cases hsb:lk g.shape b with
   |none=>
    simp only;refine⟨λk hk=>?_,λhk k x hx hkr=>?_⟩
    .obtain ⟨x,h1,h2,h3⟩:=s1 k hk;exact⟨x,h1,h2,hup _ _ h3 hrb⟩
    .rcases (hin _ _ hkr).2 rfl with h1|h1
     .exact s2 hk k x hx h1
     .exact t2 hsb k x hx h1
   |some kb=>
    obtain⟨x,h1,h2,h3⟩:=t1 kb hsb
    cases hsa:lk g.shape r with
    |none=>
     simp only[fc,if_pos];refine⟨λk hk=>?_,λhk=>by cases hk⟩
     cases hk
     exact⟨x,h1,h2,hupb _ h3⟩
    |some ka=>
     simp only[hsa];refine⟨λk hk=>?_,λhk=>by cases hk⟩
     cases hk;obtain⟨y,f1,f2,f3⟩:=s1 ka hsa;exact⟨y,f1,f2,hup _ _ f3 hrb⟩
  .have hsh:lk (aO g a b).shape r=lk g.shape r:=by
    simp only[aO];split
    .rfl
    .split
     .rw [fc,if_neg (hne hra)]
     .rfl
   show (∀k,lk (aO g a b).shape r=some k->_)/\(lk (aO g a b).shape r=none->_);rw[hsh];refine⟨λk hk=>?_,λhk k x hx hkr=>s2 hk k x hx ((hin _ _ hkr).1 hra)⟩;obtain⟨x,h1,h2,h3⟩:=s1 k hk;exact⟨x,h1,h2,hup _ _ h3 hrb⟩
 .rw [hRR];intro r hr;obtain⟨hr0,hrb⟩:=hroot r hr;obtain⟨s1,s2⟩:=h.lst r hr0
  by_cases hra:r=a
  .subst hra;obtain⟨t1,t2⟩:=h.lst b hb;show (∀w,lk (aO g r b).least r=some w->_)/\(lk (aO g r b).least r=none->_);simp only[aO]
   cases hsb:lk g.least b with
   |none=>
    simp only;refine⟨λw hw=>?_,λhk k x hx hkr=>?_⟩
    .obtain ⟨⟨k,x,h1,h2,h3⟩,h4⟩:=s1 w hw;refine⟨⟨k,x,h1,h2,hup _ _ h3 hrb⟩,λk x hx hkr hk1=>?_⟩;rcases(hin _ _ hkr).2 rfl with h5|h5
     .exact h4 k x hx h5 hk1
     .exact absurd hk1 (t2 hsb k x hx h5)
    .rcases (hin _ _ hkr).2 rfl with h1|h1
     .exact s2 hk k x hx h1
     .exact t2 hsb k x hx h1
   |some vb=>
    obtain⟨⟨kb,xb,b1,b2,b3⟩,b4⟩:=t1 vb hsb
    cases hsa:lk g.least r with
    |none=>
     simp only[fc,if_pos];refine⟨λw hw=>?_,λhk=>by cases hk⟩
     cases hw;refine⟨⟨kb,xb,b1,b2,hupb _ b3⟩,λk x hx hkr hk1=>?_⟩;rcases(hin _ _ hkr).2 rfl with h5|h5
     .exact absurd hk1 (s2 hsa k x hx h5)
     .exact b4 k x hx h5 hk1
    |some va=>
     obtain⟨⟨ka,xa,a1,a2,a3⟩,a4⟩:=s1 va hsa
     by_cases hlt:vb<va
     .simp only[if_pos hlt,fc,if_pos];refine⟨λw hw=>?_,λhk=>by cases hk⟩
      cases hw;refine⟨⟨kb,xb,b1,b2,hupb _ b3⟩,λk x hx hkr hk1=>?_⟩;rcases(hin _ _ hkr).2 rfl with h5|h5
      .have:=a4 k x hx h5 hk1;omega
      .exact b4 k x hx h5 hk1
     .simp only[if_neg hlt,hsa];refine⟨λw hw=>?_,λhk=>by cases hk⟩
      cases hw;refine⟨⟨ka,xa,a1,a2,hup _ _ a3 hrb⟩,λk x hx hkr hk1=>?_⟩;rcases(hin _ _ hkr).2 rfl with h5|h5
      .exact a4 k x hx h5 hk1
      .have:=b4 k x hx h5 hk1;omega
  .have hsh:lk (aO g a b).least r=lk g.least r:=by
    simp only[aO];split
    .rfl
    .split
     .rw [fc,if_neg (hne hra)]
     .split
      .rw [fc,if_neg (hne hra)]
      .rfl
   show (∀w,lk (aO g a b).least r=some w->_)/\(lk (aO g a b).least r=none->_);rw[hsh];refine⟨λw hw=>?_,λhk k x hx hkr=>s2 hk k x hx ((hin _ _ hkr).1 hra)⟩;obtain⟨⟨k,x,h1,h2,h3⟩,h4⟩:=s1 w hw;exact⟨⟨k,x,h1,h2,hup _ _ h3 hrb⟩,λk x hx hkr hk1=>h4 k x hx ((hin _ _ hkr).1 hra) hk1⟩
 .show (g.up.set b a).length<N;rw[zm];exact h.lim
 .intro k hk;have hk:g.nodes.length<=k:=hk;obtain⟨f1,f2⟩:=h.fr k hk
  have hka:¬(k:Int)=(a:Int):=by
   obtain⟨d,hd⟩:=ha;have:=hd.lt;have:=h.len;omega
  constructor
  .simp only[aO];split
   .exact f1
   .split
    .rw [fc,if_neg hka];exact f1
    .exact f1
  .simp only[aO];split
   .exact f2
   .split
    .rw [fc,if_neg hka];exact f2
    .split
     .rw [fc,if_neg hka];exact f2
     .exact f2
theorem yw{nds:List Nd}(hn:Nds nds){i:Nat}{x:Nd}(hx:nds[i]? =some x):x.kids.length<=6:=by
 rw[hn.len _ _ hx];have hf:=hn.frm _ _ hx
 by_cases h1:x.t.kind=1
 .rw [(pA hf h1).2.2];exact zJ _
 .by_cases h2:x.t.kind=2
  .rw [rT h2] at hf;simp only[zD,decide_eq_true_eq] at hf;exact hf.1.2
  .rw [nW hf h1 h2];exact zJ _
theorem qd{N:Nat}:∀(f:Nat) (g:Gr) (ps:List (Nat×Nat)),GW N g->bF g.nodes g.R ps->(∀p∈ps,p.1<g.up.length/\p.2<g.up.length)->7*cls g.up+ps.length<f->ps.length+7*cls g.up<=3000000000->
  ∃g' b,fe N f g ps=some (g',b)/\(b=true->GW N g'/\bF g'.nodes g'.R []/\g'.nodes=g.nodes/\g'.vars=g.vars/\g'.known=g.known/\∀σ,Sat g'.nodes g'.R [] σ↔Sat g.nodes g.R ps σ)/\(b=false->∀σ,¬Sat g.nodes g.R ps σ)
 |0,g,ps,_,_,_,h,_=>by omega
 |f+1,g,ps,hg,hc,hps,hf,hlim=>by
  rcases List.eq_nil_or_concat ps with rfl|⟨qs,⟨x,y⟩,hq⟩
  .exact ⟨g,true,by simp only[fe,List.getLast?_nil],λ_=>⟨hg,hc,rfl,rfl,rfl,λσ=>Iff.rfl⟩,λh=>by cases h⟩
  .rw [List.concat_eq_append] at hq;subst hq;obtain⟨hx,hy⟩:=hps (x,y) (by simp)
   simp only at hx hy;obtain⟨u1,a,e1,e2,hxa⟩:=hg.root hx;have hg1:=hg.upS e2;have hR1:RR u1=RR g.up:=e2.rr hg.tot;obtain⟨u2,b,e3,e4,hyb⟩:=hg1.root (k:=y) (by show y<u1.length;rw[e2.1];exact hy)
   have hg2:GW N {g with up:=u2}:=hg1.upS e4;have e24:UpS g.up u2:=e2.trans e4;have hR2:RR u2=RR g.up:=e24.rr hg.tot
   have hyb':g.R y b:=by
    have:RR u1 y b:=hyb;rw[hR1] at this;exact this
   have hu2:=e24.1;have hcl2:cls u2=cls g.up:=e24.cls hg.tot;have hlq:(qs++[(x,y)]).length=qs.length+1:=by simp
   have hpq:∀p∈qs,p.1<g.up.length/\p.2<g.up.length:=λp hp=>hps p (ZB _ hp)
   have hj:fe N (f+1) g (qs++[(x,y)])=if a=b then fe N f {g with up:=u2} qs
     else match lk g.shape a,lk g.shape b with
      |some i,some k=>match g.nodes[i]?,g.nodes[k]? with
       |some p,some q=>
        if gJ p.t q.t=true then
         if p.kids.length<=q.kids.length/\b<u2.length/\(qs++[(x,y)]).length+p.kids.length<=4000000000 then fe N f (aO {g with up:=u2} a b) (qs++p.kids.zip q.kids) else none
        else some ({g with up:=u2},false)
       |_,_=>none
      |_,_=>if b<u2.length then fe N f (aO {g with up:=u2} a b) qs else none:=by
    have e3':dg N u1 y=some (u2,b):=e3;simp only[fe,List.getLast?_concat,List.dropLast_concat,e1,e3'];rfl
   have hp:=hg.par;have haa:g.R a a:=hp.idem _ _ hxa;have hbb:g.R b b:=hp.idem _ _ hyb';have haa2:RR u2 a a:=by rw[hR2];exact haa
   have hbb2:RR u2 b b:=by rw[hR2];exact hbb
   rw[hj]
   by_cases hab:a=b
   .rw [if_pos hab];subst hab;obtain⟨g',b',h1,h2,h3⟩:=qd f {g with up:=u2} qs hg2 (by show bF g.nodes (RR u2) qs;rw[hR2];exact Gg hxa hyb' hc) (by show∀p∈qs,p.1<u2.length/\p.2<u2.length;rw[hu2];exact hpq) (by show 7*cls u2+_<f;rw[hcl2];omega) (by show _+7*cls u2<=_;rw[hcl2];omega)
    have hsat:∀σ,Sat g.nodes (RR u2) qs σ↔Sat g.nodes g.R (qs++[(x,y)]) σ:=λσ=>by rw[hR2];exact(Lx hxa hyb' σ).symm
    refine⟨g',b',h1,λe=>?_,λe σ hs=>h3 e σ ((hsat σ).2 hs)⟩;obtain⟨k1,k2,k3,k4,k5,k6⟩:=h2 e;exact⟨k1,k2,k3,k4,k5,λσ=>(k6 σ).trans (hsat σ)⟩
   .rw [if_neg hab];obtain⟨m1,m2,m3⟩:=hg2.merge haa2 hbb2 hab;have hmR:(aO {g with up:=u2} a b).R=rtM g.R a b:=by rw[m2];show rtM (RR u2) a b=_;rw[hR2]
    have hmn:(aO {g with up:=u2} a b).nodes=g.nodes:=rfl;have hmu:(aO {g with up:=u2} a b).up.length=g.up.length:=by show (u2.set b a).length=_;rw[zm];exact hu2
    have hmc:cls (aO {g with up:=u2} a b).up<cls g.up:=by rw[<-hcl2];exact m3
    have hbl:b<u2.length:=by rw[hu2];obtain⟨d,hd⟩:=hbb;exact hd.lt
    have simple:(lk g.shape a=none\/lk g.shape b=none)->∃g' b',fe N f (aO {g with up:=u2} a b) qs=some (g',b')/\(b'=true->GW N g'/\bF g'.nodes g'.R []/\g'.nodes=g.nodes/\g'.vars=g.vars/\g'.known=g.known/\∀σ,Sat g'.nodes g'.R [] σ↔Sat g.nodes g.R (qs++[(x,y)]) σ)/\(b'=false->∀σ,¬Sat g.nodes g.R (qs++[(x,y)]) σ):=λhnone=>by
     have hcm:bF g.nodes (rtM g.R a b) qs:=tE hg.nds hp hxa hyb' hab (λp h=>h) hc λi k u v hu hv hu1 hv1 hi hk=>by
      rcases hnone with h|h
      .exact absurd ((hg.shp a haa).2 h i u hu hi) hu1
      .exact absurd ((hg.shp b hbb).2 h k v hv hk) hv1
     obtain⟨g',b',h1,h2,h3⟩:=qd f (aO {g with up:=u2} a b) qs m1 (by rw[hmR,hmn];exact hcm) (by rw[hmu];exact hpq) (by omega) (by omega)
     have hsat:∀σ,Sat (aO {g with up:=u2} a b).nodes (aO {g with up:=u2} a b).R qs σ↔Sat g.nodes g.R (qs++[(x,y)]) σ:=λσ=>by rw[hmR,hmn];exact tP hp hxa hyb' σ
     refine⟨g',b',h1,λe=>?_,λe σ hs=>h3 e σ ((hsat σ).2 hs)⟩;obtain⟨k1,k2,k3,k4,k5,k6⟩:=h2 e;exact⟨k1,k2,k3,k4,k5,λσ=>(k6 σ).trans (hsat σ)⟩
    cases hsa:lk g.shape a with
    |none=>
     simp only;rw[if_pos hbl]
     exact simple (.inl hsa)
    |some i=>
     cases hsb:lk g.shape b with
     |none=>
      simp only;rw[if_pos hbl]
      exact simple (.inr hsb)
     |some k=>
      obtain⟨p,p1,p2,p3⟩:=(hg.shp a haa).1 i hsa;obtain⟨q,q1,q2,q3⟩:=(hg.shp b hbb).1 k hsb;simp only[p1,q1]
      cases hal:gJ p.t q.t with
      |false=>
       rw[if_neg Za];refine⟨_,_,rfl,λe=>(by cases e),λ_ σ hs=>?_⟩
       apply J6 hg.nds p1 q1 p2 q2 hal σ;rw[hs.1 _ _ p3,hs.1 _ _ q3,<-hs.1 _ _ hxa,<-hs.1 _ _ hyb']
       exact hs.2 (x,y) (by simp)
      |true=>
       have hlen:=(ct.1 hal).2.2.2;have hpl:=hg.nds.len _ _ p1;have hql:=hg.nds.len _ _ q1;have h6:=yw hg.nds p1;have hzl:(p.kids.zip q.kids).length=p.kids.length:=by rw[List.length_zip];omega
       have hcpos:1<=cls g.up:=by omega
       rw[if_pos rfl,if_pos ⟨by omega,hbl,by omega⟩]
       have hcm:bF g.nodes (rtM g.R a b) (qs++p.kids.zip q.kids):=tE hg.nds hp hxa hyb' hab (λr h=>ZB _ h) hc λi' k' u v hu hv hu1 hv1 hi hk=>⟨i,k,p,q,p1,q1,p2,q2,p3,q3,Iq hal λr hr=>ZW _ hr⟩
       have hplt:∀r∈qs++p.kids.zip q.kids,r.1<g.up.length/\r.2<g.up.length:=λr hr=>by
        rcases zY.1 hr with hr|hr
        .exact hpq r hr
        .obtain ⟨j,hj⟩:=ZS hr;obtain⟨j1,j2⟩:=ZU.1 hj;rw[hg.len];exact⟨nR hg.nds p1 j1,nR hg.nds q1 j2⟩
       obtain⟨g',b',h1,h2,h3⟩:=qd f (aO {g with up:=u2} a b) (qs++p.kids.zip q.kids) m1 (by rw[hmR,hmn];exact hcm) (by rw[hmu];exact hplt) (by rw[zC];omega) (by rw[zC];omega)
       have hsat:∀σ,Sat (aO {g with up:=u2} a b).nodes (aO {g with up:=u2} a b).R (qs++p.kids.zip q.kids) σ↔Sat g.nodes g.R (qs++[(x,y)]) σ:=λσ=>by
        rw[hmR,hmn,<-tP hp hxa hyb' σ];refine⟨λh=>⟨h.1,λr hr=>h.2 r (ZB _ hr)⟩,λh=>Lz h ?_⟩;have h0:=(tP hp hxa hyb' σ).1 h;refine N7 hg.nds p1 q1 hal p2 ?_;rw[h0.1 _ _ p3,h0.1 _ _ q3,<-h0.1 _ _ hxa,<-h0.1 _ _ hyb'];exact h0.2 (x,y) (by simp)
       refine⟨g',b',h1,λe=>?_,λe σ hs=>h3 e σ ((hsat σ).2 hs)⟩;obtain⟨k1,k2,k3,k4,k5,k6⟩:=h2 e;exact⟨k1,k2,k3,k4,k5,λσ=>(k6 σ).trans (hsat σ)⟩
end Go.CK
