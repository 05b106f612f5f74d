/-
  Texts of this aQ joined (wip/gen/bundle.py),those declarations only that are needed:UlA UlB UlC UlD. By an AI agent.
-/
import Derived.Test.YtahnpgfkkngimaaGreatBaz
set_option linter.unusedSimpArgs false
set_option linter.unusedVariables false
namespace Go.CK
open Go.AM
mutual
def app(σ:Int->Tm):Tm->Tm
 |.mk k n s l=>if k=1 then σ n else if k=2 then .mk k n s (apps σ l) else .mk k n s l
def apps(σ:Int->Tm):List Tm->List Tm
 |[]=>[]
 |t::r=>app σ t::apps σ r
end
theorem BE(σ:Int->Tm):∀l:List Tm,apps σ l=l.map (app σ)
 |[]=>rfl
 |t::r=>by rw[apps,BE σ r];rfl
theorem qt(σ:Int->Tm)(v:Int):app σ (az v)=σ v:=by rw[az,app,if_pos rfl]
theorem app_1{σ:Int->Tm}{t:Tm}(h:t.kind=1):app σ t=σ t.num:=by
 obtain⟨k,n,s,l⟩:=t;simp only[Tm.kind] at h;rw[app,if_pos h];rfl
theorem x6{σ:Int->Tm}{t:Tm}(h:t.kind=2):app σ t=.mk t.kind t.num t.name (t.args.map (app σ)):=by
 obtain⟨k,n,s,l⟩:=t;simp only[Tm.kind] at h;rw[app,if_neg (by omega),if_pos h,BE];rfl
theorem HK{σ:Int->Tm}{t:Tm}(h1:¬t.kind=1)(h2:¬t.kind=2):app σ t=t:=by
 obtain⟨k,n,s,l⟩:=t;simp only[Tm.kind] at h1 h2;rw[app,if_neg h1,if_neg h2]
mutual
def Tm.cv:Tm->Prop
 |.mk k _ s l=>(k=1->s=⟨⟨[]⟩⟩/\l=[])/\Tm.cvs l
def Tm.cvs:List Tm->Prop
 |[]=>True
 |t::r=>t.cv/\Tm.cvs r
end
theorem D4:∀{l:List Tm} {x:Tm},Tm.cvs l->x∈l->x.cv
 |y::l,x,h,hm=>by
  simp only[Tm.cvs] at h;rcases ZI.1 hm with rfl|hm
  .exact h.1
  .exact D4 h.2 hm
theorem jY{t:Tm}(h:t.cv)(hk:t.kind=1):t=az t.num:=by
 obtain⟨k,n,s,l⟩:=t;simp only[Tm.cv] at h;simp only[Tm.kind] at hk;obtain⟨h1,h2⟩:=h.1 hk;rw[hk,h1,h2];rfl
theorem PW{t x:Tm}(h:t.cv)(hx:x∈t.args):x.cv:=by
 obtain⟨k,n,s,l⟩:=t;simp only[Tm.cv] at h;exact D4 h.2 hx
theorem Ie(v:Int):(az v).cv:=⟨λ_=>⟨rfl,rfl⟩,trivial⟩
theorem pB{v w:Int}(h:az v=az w):v=w:=congrArg Tm.num h
def Eqs(l:List (Tm×Tm))(σ:Int->Tm):Prop:=∀p∈l,app σ p.1=app σ p.2
structure Mgu(S:(Int->Tm)->Prop)(M:Int->Tm):Prop where
 sol:S M
 gen:∀σ,S σ->∀v,σ v=app σ (M v)
 can:∀v w,M v=az w->w<=v
 cv:∀v,(M v).cv
theorem vu{A:Int->Tm}{t:Tm}(h:¬t.kind=1):(app A t).kind=t.kind:=by
 by_cases h2:t.kind=2
 .rw [x6 h2];rfl
 .rw [HK h h2]
theorem Je{A B:Int->Tm}(hA:∀v w,A v=az w->w<=v)(hB:∀v w,B v=az w->w<=v)(hc:∀v,(B v).cv)(t:Tm):t.cv->app A (app B t)=t->app B t=t:=by
 induction t using Tm.bD with
 |h k n s l ih=>
 generalize ha:Tm.mk k n s l=t;replace ih:∀x∈t.args,x.cv->app A (app B x)=x->app B x=x:=by subst ha;exact ih
 clear ha;intro hv h
 by_cases h1:t.kind=1
 .have ht:=jY hv h1;rw[app_1 h1] at h|-
  have h2:(B t.num).kind=1:=by
   by_cases hb1:(B t.num).kind=1
   .exact hb1
   .have:=vu (A:=A) hb1;rw[h,h1] at this;exact this.symm
  have h3:=jY (hc t.num) h2;rw[app_1 h2] at h;have h4:A (B t.num).num=az t.num:=by rw[h];exact ht
  have h5:=hA _ _ h4;have h6:=hB _ _ h3;rw[h3,ht];congr 1;simp only[az,Tm.num] at*;omega
 .by_cases h2:t.kind=2
  .rw [x6 h2] at h|-;rw[x6 (show (Tm.mk t.kind t.num t.name (List.map (app B) t.args)).kind=2 from h2)] at h;obtain⟨k',n',s',l'⟩:=t;simp only[Tm.kind,Tm.num,Tm.name,Tm.args,Tm.mk.injEq,true_and] at h ih hv|-;rw[List.map_map] at h
   have hz:l'.map (app B)=l':=by
    apply Yt;intro i;have:=congrArg (λl=>l[i]?) h;simp only[YD] at this|-
    cases hx:l'[i]? with
    |none=>rfl
    |some x=>
     rw[hx] at this;simp only[ZM,ZN,Function.comp] at this|-;exact ih x (ZE hx) (D4 hv.2 (ZE hx)) this
   exact hz
  .rw [HK h1 h2]
theorem Mgu.one{S:(Int->Tm)->Prop}{M M':Int->Tm}(h:Mgu S M)(h':Mgu S M')(v:Int):M v=M' v:=by
 have h1:M' v=app M' (M v):=h.gen M' h'.sol v;have h2:M v=app M (M' v):=h'.gen M h.sol v;rw[h1] at h2;have:=Je h.can h'.can h'.cv (M v) (h.cv v) h2.symm;rw[<-h1] at this;exact this.symm
def fits(t:Tm):Prop:=t.sz<=200/\t.dep<=20
instance (t:Tm):Decidable (fits t):=inferInstanceAs (Decidable (_/\_))
structure vQ(M:Int->Tm)(out:List Bnd):Prop where
 asc:(out.map (·.v)).Pairwise (·<·)
 mem:∀v t,(⟨v,t⟩:Bnd)∈out↔(t=M v/\M v≠az v)
def Ans(S:(Int->Tm)->Prop)(out:List Bnd)(e:Int):Prop:=
 ((∀σ,¬S σ)/\out=[]/\e=13)\/∃M,Mgu S M/\((vQ M out/\(∀b∈out,fits b.t)/\e=0)\/((∃v,M v≠az v/\¬fits (M v))/\out=[]/\e=6))
theorem Ee:∀{l l':List Bnd},(l.map (·.v)).Pairwise (·<·)->(l'.map (·.v)).Pairwise (·<·)->(∀b,b∈l↔b∈l')->l=l'
 |[],[],_,_,_=>rfl
 |[],b::l',_,_,h=>absurd ((h b).2 (ZV ..)) (by simp)
 |b::l,[],_,_,h=>absurd ((h b).1 (ZV ..)) (by simp)
 |b::l,c::l',h1,h2,h=>by
  simp only[ZP,Zx] at h1 h2
  have hb:b=c:=by
   rcases ZI.1 ((h b).1 (ZV ..)) with e|e
   .exact e
   .rcases ZI.1 ((h c).2 (ZV ..)) with e'|e'
    .exact e'.symm
    .have q1:=h2.1 _ (YV e);have q2:=h1.1 _ (YV e');exact absurd q1 (by omega)
  subst hb;congr 1;refine Ee h1.2 h2.2 λd=>⟨λhd=>?_,λhd=>?_⟩
  .rcases ZI.1 ((h d).1 (ZQ _ hd)) with rfl|e
   .have:=h1.1 _ (YV hd);omega
   .exact e
  .rcases ZI.1 ((h d).2 (ZQ _ hd)) with rfl|e
   .have:=h2.1 _ (YV hd);omega
   .exact e
theorem vQ.one{M:Int->Tm}{l l':List Bnd}(h:vQ M l)(h':vQ M l'):l=l':=
 Ee h.asc h'.asc λ⟨v,t⟩=>(h.mem v t).trans (h'.mem v t).symm
theorem vQ.congr{M M':Int->Tm}{l:List Bnd}(h:vQ M l)(e:∀v,M v=M' v):vQ M' l:=⟨h.asc,λv t=>by rw[<-e];exact h.mem v t⟩
theorem Ans.one{S:(Int->Tm)->Prop}{out out':List Bnd}{e e':Int}(h:Ans S out e)(h':Ans S out' e'):out=out'/\e=e':=by
 rcases h with ⟨h1,rfl,rfl⟩|⟨M,hM,h⟩<;>rcases h' with ⟨h1',rfl,rfl⟩|⟨M',hM',h'⟩
 .exact ⟨rfl,rfl⟩
 .exact absurd hM'.sol (h1 _)
 .exact absurd hM.sol (h1' _)
 .have hMM:=hM.one hM';rcases h with ⟨h1,h2,rfl⟩|⟨⟨v,h1,h2⟩,rfl,rfl⟩<;>rcases h' with ⟨h1',h2',rfl⟩|⟨⟨v',h1',h2'⟩,rfl,rfl⟩
  .exact ⟨(h1.congr hMM).one h1',rfl⟩
  .have:=h2 ⟨v',M v'⟩ ((h1.mem v' _).2 ⟨rfl,by rw[hMM];exact h1'⟩)
   rw[hMM] at this;exact absurd this h2'
  .have:=h2' ⟨v,M' v⟩ ((h1'.mem v _).2 ⟨rfl,by rw[<-hMM];exact h1⟩)
   rw[<-hMM] at this;exact absurd this h2
  .exact ⟨rfl,rfl⟩
theorem Ans.congr{S S':(Int->Tm)->Prop}{out:List Bnd}{e:Int}(h:Ans S out e)(hS:∀σ,S σ↔S' σ):Ans S' out e:=by
 have:S=S':=funext λσ=>propext (hS σ);rw[<-this];exact h
end Go.CK
namespace Go.CK
open Go.AM
def gv(nds:List Nd)(σ:Int->Tm)(i:Nat):Tm:=match nds[i]? with
 |some x=>app σ x.t
 |none=>az 0
theorem kT{nds:List Nd}{σ:Int->Tm}{i:Nat}{x:Nd}(h:nds[i]? =some x):gv nds σ i=app σ x.t:=by unfold gv;rw[h]
structure Nds(nds:List Nd):Prop where
 frm:∀(i:Nat) (x:Nd),nds[i]? =some x->x.t.form=true
 len:∀(i:Nat) (x:Nd),nds[i]? =some x->x.kids.length=x.t.args.length
 kid:∀(i:Nat) (x:Nd),nds[i]? =some x->∀(j c:Nat) (y:Tm),x.kids[j]? =some c->x.t.args[j]? =some y->∃z:Nd,nds[c]? =some z/\z.t=y
 one:∀(i j:Nat) (x y:Nd),nds[i]? =some x->nds[j]? =some y->x.t.kind=1->x.t=y.t->i=j
structure Par(nds:List Nd)(rt:Nat->Nat->Prop):Prop where
 lt:∀k r,rt k r->k<nds.length/\r<nds.length
 tot:∀k,k<nds.length->∃r,rt k r
 det:∀k r s,rt k r->rt k s->r=s
 idem:∀k r,rt k r->rt r r
def Sat(nds:List Nd)(rt:Nat->Nat->Prop)(ps:List (Nat×Nat))(σ:Int->Tm):Prop:=
 (∀k r,rt k r->gv nds σ k=gv nds σ r)/\∀p∈ps,gv nds σ p.1=gv nds σ p.2
def rtM(rt:Nat->Nat->Prop)(a b:Nat):Nat->Nat->Prop:=λk r=>∃s,rt k s/\r=if s=b then a else s
inductive Cl (rt:Nat->Nat->Prop) (ps:List (Nat×Nat)):Nat->Nat->Prop where
 |cls {c d r:Nat} (h:rt c r) (k:rt d r):Cl rt ps c d
 |pair {c d:Nat} (h:(c,d)∈ps):Cl rt ps c d
 |symm {c d:Nat} (h:Cl rt ps c d):Cl rt ps d c
 |trans {c d e:Nat} (h:Cl rt ps c d) (k:Cl rt ps d e):Cl rt ps c e
theorem Cl.map{rt rt':Nat->Nat->Prop}{ps ps':List (Nat×Nat)}(h1:∀c d r,rt c r->rt d r->Cl rt' ps' c d)(h2:∀c d,(c,d)∈ps->Cl rt' ps' c d){c d:Nat}(h:Cl rt ps c d):Cl rt' ps' c d:=by
 induction h with
 |cls h k=>exact h1 _ _ _ h k
 |pair h=>exact h2 _ _ h
 |symm _ ih=>exact ih.symm
 |trans _ _ ih ih2=>exact ih.trans ih2
def Alike(rt:Nat->Nat->Prop)(ps:List (Nat×Nat))(x y:Nd):Prop:=dq x.t y.t=true/\∀(j c d:Nat),x.kids[j]? =some c->y.kids[j]? =some d->Cl rt ps c d
def aE(nds:List Nd)(rt:Nat->Nat->Prop)(ps:List (Nat×Nat)):Prop:=∀(i k r:Nat) (x y:Nd),nds[i]? =some x->nds[k]? =some y->¬x.t.kind=1->¬y.t.kind=1->rt i r->rt k r->Alike rt ps x y
theorem bq{a b:Tm}:dq a b=true↔a.kind=b.kind/\a.num=b.num/\a.name=b.name/\a.args.length=b.args.length:=by
 unfold dq;simp only[ZD,decide_eq_true_eq]
theorem Alike.symm{rt:Nat->Nat->Prop}{ps:List (Nat×Nat)}{x y:Nd}(h:Alike rt ps x y):Alike rt ps y x:=by
 refine⟨?_,λj c d hc hd=>(h.2 j d c hd hc).symm⟩;have:=bq.1 h.1;exact bq.2 ⟨this.1.symm,this.2.1.symm,this.2.2.1.symm,this.2.2.2.symm⟩
section
variable{nds:List Nd}{rt:Nat->Nat->Prop}{ps:List (Nat×Nat)}{a b:Nat}
theorem Alike.trans(hn:Nds nds){i j k:Nat}{x y z:Nd}(hx:nds[i]? =some x)(hy:nds[j]? =some y)(hz:nds[k]? =some z)(h:Alike rt ps x y)(h2:Alike rt ps y z):Alike rt ps x z:=by
 have e1:=bq.1 h.1;have e2:=bq.1 h2.1;refine⟨bq.2 ⟨e1.1.trans e2.1,e1.2.1.trans e2.2.1,e1.2.2.1.trans e2.2.2.1,e1.2.2.2.trans e2.2.2.2⟩,λq c d hc hd=>?_⟩
 have hq:q<y.kids.length:=by
  have:=(ZB.1 hc).1;rw[hn.len _ _ hx] at this;rw[hn.len _ _ hy];omega
 exact(h.2 q c _ hc (ZA hq)).trans (h2.2 q _ d (ZA hq) hd)
theorem Alike.mono{rt':Nat->Nat->Prop}{ps':List (Nat×Nat)}(hc:∀c d,Cl rt ps c d->Cl rt' ps' c d){x y:Nd}(h:Alike rt ps x y):Alike rt' ps' x y:=⟨h.1,λj c d h1 h2=>hc _ _ (h.2 j c d h1 h2)⟩
theorem Ip(h:Par nds rt)(ha:rt a a)(hab:¬a=b):Par nds (rtM rt a b):=by
 refine⟨?_,?_,?_,?_⟩
 .rintro k r ⟨s,h1,rfl⟩;refine⟨(h.lt _ _ h1).1,?_⟩;split
  .exact (h.lt _ _ ha).1
  .exact (h.lt _ _ h1).2
 .intro k hk;obtain⟨r,hr⟩:=h.tot k hk;exact⟨_,r,hr,rfl⟩
 .rintro k r s ⟨r',h1,rfl⟩ ⟨s',h2,rfl⟩;rw[h.det _ _ _ h1 h2]
 .rintro k r ⟨s,h1,rfl⟩
  by_cases hs:s=b
  .rw [if_pos hs];exact⟨a,ha,by rw[if_neg hab]⟩
  .rw [if_neg hs];exact⟨s,h.idem _ _ h1,by rw[if_neg hs]⟩
theorem nW(h:Par nds rt){x y:Nat}(hx:rt x a)(hy:rt y b)(σ:Int->Tm):Sat nds (rtM rt a b) ps σ↔Sat nds rt (ps++[(x,y)]) σ:=by
 have hb:=h.idem _ _ hy;have ha:=h.idem _ _ hx;constructor
 .rintro ⟨h1,h2⟩;have hab:gv nds σ b=gv nds σ a:=h1 b a ⟨b,hb,by rw[if_pos rfl]⟩
  have h3:∀k r,rt k r->gv nds σ k=gv nds σ r:=λk r hk=>by
   have:=h1 k _ ⟨r,hk,rfl⟩
   by_cases hr:r=b
   .rw [if_pos hr] at this;rw[this,hr,hab]
   .rw [if_neg hr] at this;exact this
  refine⟨h3,λp hp=>?_⟩;rcases ZY.1 hp with hp|hp
  .exact h2 p hp
  .rw [Zp] at hp;subst hp;show gv nds σ x=gv nds σ y;rw[h3 x a hx,h3 y b hy,hab]
 .rintro ⟨h1,h2⟩;have hxy:gv nds σ x=gv nds σ y:=h2 (x,y) (by simp)
  refine⟨?_,λp hp=>h2 p (Zy _ hp)⟩;rintro k r ⟨s,hk,rfl⟩
  by_cases hs:s=b
  .rw [if_pos hs,h1 k s hk,hs,<-h1 y b hy,<-hxy,h1 x a hx]
  .rw [if_neg hs];exact h1 k s hk
theorem zJ{x y:Nat}(hx:rt x a)(hy:rt y a)(σ:Int->Tm):Sat nds rt (ps++[(x,y)]) σ↔Sat nds rt ps σ:=by
 refine⟨λh=>⟨h.1,λp hp=>h.2 p (Zy _ hp)⟩,λh=>⟨h.1,λp hp=>?_⟩⟩;rcases ZY.1 hp with hp|hp
 .exact h.2 p hp
 .rw [Zp] at hp;subst hp;show gv nds σ x=gv nds σ y;rw[h.1 x a hx,h.1 y a hy]
theorem sw{x y:Nat}(hx:rt x a)(hy:rt y a)(h:aE nds rt (ps++[(x,y)])):aE nds rt ps:=λi k r u v hu hv hu1 hv1 hi hk=>(h i k r u v hu hv hu1 hv1 hi hk).mono λc d hcd=>hcd.map (λc d r h1 h2=>.cls h1 h2) λc d hm=>by
 rcases ZY.1 hm with hm|hm
 .exact .pair hm
 .rw [Zp] at hm;cases hm;exact .cls hx hy
theorem vz{x y:Nd}(h:dq x.t y.t=true){ps':List (Nat×Nat)}(hp:∀p∈x.kids.zip y.kids,p∈ps'):Alike rt ps' x y:=
 ⟨h,λj c d hc hd=>.pair (hp (c,d) (ZE (YS.2 ⟨hc,hd⟩)))⟩
theorem gk(hn:Nds nds)(hp:Par nds rt){x y:Nat}(hx:rt x a)(hy:rt y b)(hab:¬a=b){ps':List (Nat×Nat)}(hps:∀p∈ps,p∈ps')(h:aE nds rt (ps++[(x,y)]))
  (hs:∀(i k:Nat) (u v:Nd),nds[i]? =some u->nds[k]? =some v->¬u.t.kind=1->¬v.t.kind=1->rt i a->rt k b->∃(i' k':Nat) (u' v':Nd),nds[i']? =some u'/\nds[k']? =some v'/\¬u'.t.kind=1/\¬v'.t.kind=1/\rt i' a/\rt k' b/\Alike (rtM rt a b) ps' u' v'):aE nds (rtM rt a b) ps':=by
 have hcl:∀c d,Cl rt (ps++[(x,y)]) c d->Cl (rtM rt a b) ps' c d:=λc d hcd=>hcd.map (λc d r h1 h2=>.cls ⟨r,h1,rfl⟩ ⟨r,h2,rfl⟩) λc d hm=>by
  rcases ZY.1 hm with hm|hm
  .exact .pair (hps _ hm)
  .rw [Zp] at hm;cases hm;exact .cls (r:=a) ⟨a,hx,by rw[if_neg hab]⟩ ⟨b,hy,by rw[if_pos rfl]⟩
 have hab':∀(i k:Nat) (u v:Nd),nds[i]? =some u->nds[k]? =some v->¬u.t.kind=1->¬v.t.kind=1->rt i a->rt k b->Alike (rtM rt a b) ps' u v:=λi k u v hu hv hu1 hv1 hi hk=>by
  obtain⟨i',k',u',v',e1,e2,e3,e4,e5,e6,e7⟩:=hs i k u v hu hv hu1 hv1 hi hk;have q1:=(h i i' a u u' hu e1 hu1 e3 hi e5).mono hcl;have q2:=(h k' k b v' v e2 hv e4 hv1 e6 hk).mono hcl;exact(q1.trans hn hu e1 e2 e7).trans hn hu e2 hv q2
 rintro i k r u v hu hv hu1 hv1 ⟨s,hi,e1⟩ ⟨s',hk,e2⟩;subst e1
 by_cases hs1:s=b<;>by_cases hs2:s'=b
 .subst hs1;subst hs2;exact(h i k s' u v hu hv hu1 hv1 hi hk).mono hcl
 .subst hs1;rw[if_pos rfl,if_neg hs2] at e2;subst e2;exact(hab' k i v u hv hu hv1 hu1 hk hi).symm
 .subst hs2;rw[if_neg hs1,if_pos rfl] at e2;subst e2;exact hab' i k u v hu hv hu1 hv1 hi hk
 .rw [if_neg hs1,if_neg hs2] at e2;subst e2;exact(h i k s u v hu hv hu1 hv1 hi hk).mono hcl
theorem ph(hn:Nds nds){i:Nat}{x:Nd}(hx:nds[i]? =some x)(σ:Int->Tm)(h:x.t.kind=2):gv nds σ i=.mk 2 x.t.num x.t.name (x.kids.map (gv nds σ)):=by
 rw[kT hx,x6 h,h];congr 1;apply Yt;intro j;simp only[YD]
 cases hk:x.kids[j]? with
 |none=>
  have:x.t.args[j]? =none:=by
   rw[YI] at hk|-;rw[<-hn.len _ _ hx];exact hk
  rw[this];rfl
 |some c=>
  have hlt:=(ZB.1 hk).1;rw[hn.len _ _ hx] at hlt;have hy:=ZA hlt;obtain⟨z,h1,h2⟩:=hn.kid _ _ hx j c _ hk hy;rw[hy,ZM,ZM,kT h1,h2]
theorem fh{t:Tm}(h:t.form=true)(h1:¬t.kind=1)(h2:¬t.kind=2):t=.mk 0 t.num ⟨⟨[]⟩⟩ []:=by
 by_cases h0:t.kind=0
 .rw [uL h0,decide_eq_true_eq] at h;obtain⟨k,n,s,l⟩:=t;simp only[Tm.kind,Tm.num,Tm.name,Tm.args] at*;rw[h0,h.2.2.1,ZL h.2.2.2]
 .rw [uK h0 h1 h2] at h;cases h
theorem Hf(hn:Nds nds){i:Nat}{x:Nd}(hx:nds[i]? =some x)(σ:Int->Tm)(h1:¬x.t.kind=1)(h2:¬x.t.kind=2):gv nds σ i=x.t:=by
 rw[kT hx,HK h1 h2]
theorem xk(hn:Nds nds){i k:Nat}{x y:Nd}(hx:nds[i]? =some x)(hy:nds[k]? =some y)(hx1:¬x.t.kind=1)(hy1:¬y.t.kind=1)(h:dq x.t y.t=false)(σ:Int->Tm):gv nds σ i≠gv nds σ k:=by
 intro e
 have:dq x.t y.t=true:=by
  have hk:=congrArg Tm.kind e;rw[kT hx,kT hy,vu hx1,vu hy1] at hk
  by_cases h2:x.t.kind=2
  .rw [ph hn hx σ h2,ph hn hy σ (hk▸h2)] at e;simp only[Tm.mk.injEq,true_and] at e;refine bq.2 ⟨hk,e.1,e.2.1,?_⟩;have:=congrArg List.length e.2.2;rw[ZF,ZF,hn.len _ _ hx,hn.len _ _ hy] at this;exact this
  .have h2':¬y.t.kind=2:=by rw[<-hk];exact h2
   rw[Hf hn hx σ hx1 h2,Hf hn hy σ hy1 h2'] at e;rw[e];exact bq.2 ⟨rfl,rfl,rfl,rfl⟩
 rw[h] at this;cases this
theorem DK(hn:Nds nds){i k:Nat}{x y:Nd}(hx:nds[i]? =some x)(hy:nds[k]? =some y)(h:dq x.t y.t=true)(hx1:¬x.t.kind=1){σ:Int->Tm}(e:gv nds σ i=gv nds σ k):∀p∈x.kids.zip y.kids,gv nds σ p.1=gv nds σ p.2:=by
 have ha:=bq.1 h;intro p hp;obtain⟨j,hj⟩:=YQ hp;obtain⟨h1,h2⟩:=YS.1 hj
 by_cases hk:x.t.kind=2
 .rw [ph hn hx σ hk,ph hn hy σ (ha.1▸hk)] at e;simp only[Tm.mk.injEq] at e;have:=congrArg (λl=>l[j]?) e.2.2.2;simp only[YD,h1,h2,ZM,ZN] at this;exact this
 .have hi:=fh (hn.frm _ _ hx) hx1 hk;have hl:=hn.len _ _ hx;rw[hi] at hl;have:x.kids=[]:=ZL hl;rw[this] at h1;simp at h1
theorem zL{ps':List (Nat×Nat)}{σ:Int->Tm}(h:Sat nds rt ps σ)(hp:∀p∈ps',gv nds σ p.1=gv nds σ p.2):Sat nds rt (ps++ps') σ:=⟨h.1,λp hm=>(ZY.1 hm).elim (h.2 p) (hp p)⟩
end
end Go.CK
namespace Go.CK
open Go.AM
def ma(nds:List Nd)(rt:Nat->Nat->Prop)(sh:Nat->Option Nat):Prop:=∀r,rt r r->
 (∀k,sh r=some k->∃x:Nd,nds[k]? =some x/\¬x.t.kind=1/\rt k r)/\(sh r=none->∀(k:Nat) (x:Nd),nds[k]? =some x->rt k r->x.t.kind=1)
def mb(nds:List Nd)(rt:Nat->Nat->Prop)(le:Nat->Option Int):Prop:=∀r,rt r r->
 (∀w,le r=some w->(∃(k:Nat) (x:Nd),nds[k]? =some x/\x.t=az w/\rt k r)/\∀(k:Nat) (x:Nd),nds[k]? =some x->rt k r->x.t.kind=1->w<=x.t.num)/\(le r=none->∀(k:Nat) (x:Nd),nds[k]? =some x->rt k r->¬x.t.kind=1)
inductive Ex (nds:List Nd) (rt:Nat->Nat->Prop) (sh:Nat->Option Nat) (le:Nat->Option Int):Nat->Tm->Prop where
 |var {r:Nat} {w:Int} (h:rt r r) (h1:sh r=none) (h2:le r=some w):Ex nds rt sh le r (az w)
 |leaf {r k:Nat} {x:Nd} (h:rt r r) (h1:sh r=some k) (h2:nds[k]? =some x) (h3:x.t.args=[]):Ex nds rt sh le r x.t
 |fn {r k:Nat} {x:Nd} {ts:List Tm} (h:rt r r) (h1:sh r=some k) (h2:nds[k]? =some x) (h3:¬x.t.args=[]) (h4:ts.length=x.kids.length) (h5:∀(j c s:Nat) (y:Tm),x.kids[j]? =some c->rt c s->ts[j]? =some y->Ex nds rt sh le s y):Ex nds rt sh le r (.mk x.t.kind x.t.num x.t.name ts)
mutual
theorem fi:∀(t:Tm),t.form=true->t.cv
 |.mk k n s l,h=>by
  refine⟨λhk=>?_,A1 l (gQ h)⟩;rw[pj (t:=.mk k n s l) hk,decide_eq_true_eq] at h;exact⟨h.2.2.1,ZL h.2.2.2⟩
theorem A1:∀(l:List Tm),Tm.bN l=true->Tm.cvs l
 |[],_=>trivial
 |t::r,h=>by
  simp only[Tm.bN,ZD] at h;exact⟨fi t h.1,A1 r h.2⟩
end
theorem A0:∀{l:List Tm},(∀x∈l,x.form=true)->Tm.bN l=true
 |[],_=>rfl
 |t::r,h=>by
  simp only[Tm.bN,ZD];exact⟨h t (ZV ..),A0 λx hx=>h x (ZQ _ hx)⟩
theorem I4{t:Tm}{l:List Tm}(hk:t.kind=2)(h:t.form=true)(hl:l.length=t.args.length)(hf:Tm.bN l=true):(Tm.mk t.kind t.num t.name l).form=true:=by
 rw[rI hk] at h;rw[rI (show (Tm.mk t.kind t.num t.name l).kind=2 from hk)];simp only[ZD,decide_eq_true_eq,YL] at h;have e1:(Tm.mk t.kind t.num t.name l).num=t.num:=rfl;have e2:(Tm.mk t.kind t.num t.name l).name=t.name:=rfl;have e3:(Tm.mk t.kind t.num t.name l).args=l:=rfl;rw[e1,e2,e3,hl,hf,Bool.and_true,decide_eq_true h.1,Za];rcases h.2.1 with h1|h1
 .rw [h1,Bool.true_or]
 .rw [h1.1,decide_eq_true h1.2,Za,Bool.or_true]
section
variable{nds:List Nd}{rt:Nat->Nat->Prop}{sh:Nat->Option Nat}{le:Nat->Option Int}
theorem ew(hn:Nds nds){i j c:Nat}{x:Nd}(hx:nds[i]? =some x)(hc:x.kids[j]? =some c):c<nds.length:=by
 have hlt:=(ZB.1 hc).1;rw[hn.len _ _ hx] at hlt;obtain⟨z,h1,_⟩:=hn.kid _ _ hx j c _ hc (ZA hlt);exact(ZB.1 h1).1
theorem Ex.det(hn:Nds nds)(hp:Par nds rt){r:Nat}{t:Tm}(h:Ex nds rt sh le r t):∀{t':Tm},Ex nds rt sh le r t'->t=t':=by
 induction h with
 |var h h1 h2=>
  intro t' h'
  cases h' with
  |var h' h1' h2'=>rw[h2] at h2';cases h2';rfl
  |leaf h' h1' _ _=>rw[h1] at h1';cases h1'
  |fn h' h1' _ _ _ _=>rw[h1] at h1';cases h1'
 |leaf h h1 h2 h3=>
  intro t' h'
  cases h' with
  |var h' h1' h2'=>rw[h1] at h1';cases h1'
  |leaf h' h1' h2' _=>rw[h1] at h1';cases h1';rw[h2] at h2';cases h2';rfl
  |fn h' h1' h2' h3' _ _=>rw[h1] at h1';cases h1';rw[h2] at h2';cases h2';exact absurd h3 h3'
 |fn h h1 h2 h3 h4 h5 ih=>
  intro t' h'
  cases h' with
  |var h' h1' h2'=>rw[h1] at h1';cases h1'
  |leaf h' h1' h2' h3'=>rw[h1] at h1';cases h1';rw[h2] at h2';cases h2';exact absurd h3' h3
  |fn h' h1' h2' h3' h4' h5'=>
   rw[h1] at h1';cases h1';rw[h2] at h2';cases h2';congr 1;apply Yt;intro j;rename_i r k x ts ts'
   cases hk:x.kids[j]? with
   |none=>
    rw[YI] at hk
    rw[YI.2 (by omega),YI.2 (by omega)]
   |some c=>
    have hlt:=(ZB.1 hk).1;obtain⟨s,hs⟩:=hp.tot c (ew hn h2 hk);have e1:ts[j]? =some ts[j]:=ZA (by omega)
    have e2:ts'[j]? =some ts'[j]:=ZA (by omega)
    rw[e1,e2,ih j c s _ hk hs e1 (h5' j c s _ hk hs e2)]
theorem Ex.form(hn:Nds nds)(hp:Par nds rt)(hsh:ma nds rt sh)(hle:mb nds rt le){r:Nat}{t:Tm}(h:Ex nds rt sh le r t):t.form=true:=by
 induction h with
 |var h h1 h2=>
  obtain⟨⟨k,x,e1,e2,e3⟩,_⟩:=(hle _ h).1 _ h2
  rw[<-e2];exact hn.frm _ _ e1
 |leaf h h1 h2 h3=>exact hn.frm _ _ h2
 |fn h h1 h2 h3 h4 h5 ih=>
  rename_i r k x ts;have hf:=hn.frm _ _ h2;have hl:=hn.len _ _ h2;obtain⟨x',e1,e2,_⟩:=(hsh _ h).1 _ h1;rw[h2] at e1;cases e1
  by_cases hk:x.t.kind=2
  .refine I4 hk hf (by omega) (A0 λy hy=>?_)
   obtain⟨j,hj⟩:=YQ hy;have hlt:=(ZB.1 hj).1;have hc:x.kids[j]? =some (x.kids[j]'(by omega)):=ZA (by omega)
   obtain⟨s,hs⟩:=hp.tot _ (ew hn h2 hc);exact ih j _ s y hc hs hj
  .have:=fh hf e2 hk;rw[this] at h3;exact absurd rfl h3
theorem JV(hn:Nds nds)(hp:Par nds rt)(hsh:ma nds rt sh)(hle:mb nds rt le){σ:Int->Tm}(hs:Sat nds rt [] σ){r:Nat}{t:Tm}(h:Ex nds rt sh le r t):app σ t=gv nds σ r:=by
 induction h with
 |var h h1 h2=>
  obtain⟨⟨k,x,e1,e2,e3⟩,_⟩:=(hle _ h).1 _ h2
  rw[<-hs.1 _ _ e3,kT e1,e2]
 |leaf h h1 h2 h3=>
  obtain⟨x',e1,e2,e3⟩:=(hsh _ h).1 _ h1
  rw[<-hs.1 _ _ e3,kT h2]
 |fn h h1 h2 h3 h4 h5 ih=>
  rename_i r k x ts;obtain⟨x',e1,e2,e3⟩:=(hsh _ h).1 _ h1;rw[h2] at e1;cases e1;rw[<-hs.1 _ _ e3]
  have hk:x.t.kind=2:=by
   by_cases hk:x.t.kind=2
   .exact hk
   .have:=fh (hn.frm _ _ h2) e2 hk;rw[this] at h3;exact absurd rfl h3
  rw[ph hn h2 σ hk,x6 (show (Tm.mk x.t.kind x.t.num x.t.name ts).kind=2 from hk)];simp only[Tm.kind,Tm.num,Tm.name,Tm.args];have hk':=hk;simp only[Tm.kind] at hk';rw[hk'];congr 1;apply Yt;intro j;simp only[YD]
  cases hc:x.kids[j]? with
  |none=>
   rw[YI] at hc
   rw[YI.2 (by omega)];rfl
  |some c=>
   have hlt:=(ZB.1 hc).1;have e4:ts[j]? =some ts[j]:=ZA (by omega)
   obtain⟨s,hcs⟩:=hp.tot _ (ew hn h2 hc);rw[e4,ZM,ZM,ih j c s _ hc hcs e4,hs.1 _ _ hcs]
theorem Cl.nil(hp:Par nds rt){c d:Nat}(h:Cl rt [] c d):∃r,rt c r/\rt d r:=by
 induction h with
 |cls h k=>exact⟨_,h,k⟩
 |pair h=>cases h
 |symm _ ih=>obtain⟨r,h1,h2⟩:=ih;exact⟨r,h2,h1⟩
 |trans _ _ ih ih2=>
  obtain⟨r,h1,h2⟩:=ih;obtain⟨s,h3,h4⟩:=ih2;rw[hp.det _ _ _ h2 h3] at h1;exact⟨s,h1,h4⟩
open Classical in
noncomputable def mguM(nds:List Nd)(rt:Nat->Nat->Prop)(sh:Nat->Option Nat)(le:Nat->Option Int)(v:Int):Tm:=
 if h:∃t,∃(k:Nat) (x:Nd) (r:Nat),nds[k]? =some x/\x.t=az v/\rt k r/\Ex nds rt sh le r t then h.choose else az v
theorem lO(hn:Nds nds)(hp:Par nds rt){v:Int}{k r:Nat}{x:Nd}{t:Tm}(h1:nds[k]? =some x)(h2:x.t=az v)(h3:rt k r)(h4:Ex nds rt sh le r t):mguM nds rt sh le v=t:=by
 have h:∃t,∃(k:Nat) (x:Nd) (r:Nat),nds[k]? =some x/\x.t=az v/\rt k r/\Ex nds rt sh le r t:=⟨t,k,x,r,h1,h2,h3,h4⟩;unfold mguM;rw[dif_pos h];obtain⟨k',x',r',e1,e2,e3,e4⟩:=h.choose_spec;have:k'=k:=hn.one _ _ _ _ e1 h1 (by rw[e2];rfl) (by rw[e2,h2])
 subst this;have:=hp.det _ _ _ e3 h3;subst this;exact e4.det hn hp h4
theorem p8{v:Int}(h:¬∃(k:Nat) (x:Nd),nds[k]? =some x/\x.t=az v):mguM nds rt sh le v=az v:=by
 unfold mguM;rw[dif_neg];rintro⟨t,k,x,r,h1,h2,_⟩;exact h ⟨k,x,h1,h2⟩
theorem gvM(hn:Nds nds)(hp:Par nds rt)(hsh:ma nds rt sh)(hle:mb nds rt le)(hc:aE nds rt [])(T:Tm):∀(i:Nat) (x:Nd) (r:Nat) (t:Tm),nds[i]? =some x->x.t=T->rt i r->Ex nds rt sh le r t->app (mguM nds rt sh le) T=t:=by
 induction T using Tm.bD with
 |h k n s l ih=>
 intro i x r t hx hT hr ht;have hf:=hn.frm _ _ hx;rw[hT] at hf
 by_cases h1:k=1
 .have hcv:=jY (fi _ hf) h1;rw[hcv,qt];exact lO hn hp hx (hT.trans hcv) hr ht
 .have hx1:¬x.t.kind=1:=by rw[hT];exact h1
  cases ht with
  |var h e1 e2=>exact absurd ((hsh _ h).2 e1 i x hx hr) hx1
  |leaf h e1 e2 e3=>
   rename_i q y;obtain⟨y',f1,f2,f3⟩:=(hsh _ h).1 _ e1;rw[e2] at f1;cases f1;have ha:=bq.1 (hc i q r x y hx e2 hx1 f2 hr f3).1;rw[hT,e3] at ha;simp only[Tm.kind,Tm.num,Tm.name,Tm.args,YO] at ha;have hl:l=[]:=ZL ha.2.2.2;subst hl
   have:app (mguM nds rt sh le) (.mk k n s [])=.mk k n s []:=by
    rw[app,if_neg h1];split<;>rfl
   rw[this];have hy:y.t=.mk y.t.kind y.t.num y.t.name y.t.args:=by cases y.t;rfl
   rw[hy,e3];simp only[Tm.kind,Tm.num,Tm.name]
   rw[ha.1,ha.2.1,ha.2.2.1]
  |fn h e1 e2 e3 e4 e5=>
   rename_i q y ts;obtain⟨y',f1,f2,f3⟩:=(hsh _ h).1 _ e1;rw[e2] at f1;cases f1;have hal:=hc i q r x y hx e2 hx1 f2 hr f3;have ha:=bq.1 hal.1
   have hy2:y.t.kind=2:=by
    by_cases hk:y.t.kind=2
    .exact hk
    .have:=fh (hn.frm _ _ e2) f2 hk;rw[this] at e3;exact absurd rfl e3
   have hx2:x.t.kind=2:=ha.1.trans hy2;have hk2:(Tm.mk k n s l).kind=2:=by rw[<-hT];exact hx2
   rw[x6 hk2,<-hT];rw[ha.1,ha.2.1,ha.2.2.1];congr 1;apply Yt;intro j;rw[YD];have hlx:=hn.len _ _ hx;have hly:=hn.len _ _ e2
   cases hj:x.t.args[j]? with
   |none=>
    rw[YI] at hj
    rw[YI.2 (by omega)];rfl
   |some a=>
    have hlt:=(ZB.1 hj).1;have c1:x.kids[j]? =some (x.kids[j]'(by omega)):=ZA (by omega)
    have d1:y.kids[j]? =some (y.kids[j]'(by omega)):=ZA (by omega)
    have t1:ts[j]? =some (ts[j]'(by omega)):=ZA (by omega)
    obtain⟨u,hu1,hu2⟩:=(hal.2 j _ _ c1 d1).nil hp;obtain⟨z,hz1,hz2⟩:=hn.kid _ _ hx j _ a c1 hj
    have hm:a∈l:=by
     have:=ZE hj;rw[hT] at this;exact this
    rw[t1,ZM,ih a hm _ z u _ hz1 hz2 hu1 (e5 j _ u _ d1 hu2 t1)]
theorem GV(hn:Nds nds)(hp:Par nds rt)(hsh:ma nds rt sh)(hle:mb nds rt le)(hc:aE nds rt [])(hall:∀r,rt r r->∃t,Ex nds rt sh le r t):Mgu (Sat nds rt []) (mguM nds rt sh le):=by
 have hval:∀(k r:Nat) (t:Tm),rt k r->Ex nds rt sh le r t->gv nds (mguM nds rt sh le) k=t:=λk r t hk ht=>by
  have hlt:=(hp.lt _ _ hk).1;have hx:=ZA hlt;rw[kT hx];exact gvM hn hp hsh hle hc _ k _ r t hx rfl hk ht
 refine⟨⟨λk r hk=>?_,λp hp=>by cases hp⟩,λσ hσ v=>?_,λv w hv=>?_,λv=>?_⟩
 .obtain ⟨t,ht⟩:=hall r (hp.idem _ _ hk);rw[hval k r t hk ht,hval r r t (hp.idem _ _ hk) ht]
 .by_cases h:∃(k:Nat) (x:Nd),nds[k]? =some x/\x.t=az v
  .obtain ⟨k,x,h1,h2⟩:=h;obtain⟨r,hr⟩:=hp.tot k (ZB.1 h1).1;obtain⟨t,ht⟩:=hall r (hp.idem _ _ hr);rw[lO hn hp h1 h2 hr ht,JV hn hp hsh hle hσ ht,<-hσ.1 _ _ hr,kT h1,h2,qt]
  .rw [p8 h,qt]
 .by_cases h:∃(k:Nat) (x:Nd),nds[k]? =some x/\x.t=az v
  .obtain ⟨k,x,h1,h2⟩:=h;obtain⟨r,hr⟩:=hp.tot k (ZB.1 h1).1;obtain⟨t,ht⟩:=hall r (hp.idem _ _ hr);rw[lO hn hp h1 h2 hr ht] at hv;subst hv;generalize hw:az w=t at ht
   cases ht with
   |var h e1 e2=>
    rename_i w';have:=pB hw;subst this;have:=((hle _ h).1 _ e2).2 k x h1 hr (by rw[h2];rfl)
    rw[h2] at this;exact this
   |leaf h e1 e2 e3=>
    obtain⟨y',f1,f2,f3⟩:=(hsh _ h).1 _ e1;rw[e2] at f1;cases f1
    exfalso;apply f2;rw[<-hw];rfl
   |fn h e1 e2 e3 e4 e5=>
    rename_i q y ts;obtain⟨y',f1,f2,f3⟩:=(hsh _ h).1 _ e1;rw[e2] at f1;cases f1;exfalso;apply f2;have:=congrArg Tm.kind hw;exact this.symm
  .rw [p8 h] at hv;rw[pB hv];exact Int.le_refl _
 .by_cases h:∃(k:Nat) (x:Nd),nds[k]? =some x/\x.t=az v
  .obtain ⟨k,x,h1,h2⟩:=h;obtain⟨r,hr⟩:=hp.tot k (ZB.1 h1).1;obtain⟨t,ht⟩:=hall r (hp.idem _ _ hr);rw[lO hn hp h1 h2 hr ht];exact fi _ (ht.form hn hp hsh hle)
  .rw [p8 h];exact Ie v
end
end Go.CK
namespace Go.CK
open Go.AM
inductive Rt (up:List Nat):Nat->Nat->Nat->Prop where
 |root {k:Nat} (h:up[k]? =some k):Rt up k k 0
 |step {k p r d:Nat} (h:up[k]? =some p) (h2:¬p=k) (h3:Rt up p r d):Rt up k r (d+1)
theorem Rt.det{up:List Nat}{k r d:Nat}(h:Rt up k r d):∀{s e:Nat},Rt up k s e->r=s/\d=e:=by
 induction h with
 |root h=>
  intro s e h'
  cases h' with
  |root _=>exact⟨rfl,rfl⟩
  |step h1 h2 _=>rw[h] at h1;cases h1;exact absurd rfl h2
 |step h h2 h3 ih=>
  intro s e h'
  cases h' with
  |root h1=>rw[h] at h1;cases h1;exact absurd rfl h2
  |step h1 _ h4=>
   rw[h] at h1;cases h1;obtain⟨e1,e2⟩:=ih h4;exact⟨e1,by omega⟩
theorem Rt.end_{up:List Nat}{k r d:Nat}(h:Rt up k r d):up[r]? =some r:=by
 induction h with
 |root h=>exact h
 |step _ _ _ ih=>exact ih
theorem Rt.lt{up:List Nat}{k r d:Nat}(h:Rt up k r d):k<up.length:=by
 cases h with
 |root h=>exact(ZB.1 h).1
 |step h _ _=>exact(ZB.1 h).1
theorem Rt.lt2{up:List Nat}{k r d:Nat}(h:Rt up k r d):r<up.length:=(ZB.1 h.end_).1
theorem Rt.self{up:List Nat}{r s d:Nat}(h:up[r]? =some r)(k:Rt up r s d):s=r/\d=0:=by
 obtain⟨e1,e2⟩:=k.det (.root h);exact⟨e1,e2⟩
def UpS(up u:List Nat):Prop:=u.length=up.length/\∀j s d,Rt up j s d->∃e,e<=d/\Rt u j s e
theorem UpS.refl(up:List Nat):UpS up up:=⟨rfl,λj s d h=>⟨d,ZG _,h⟩⟩
theorem UpS.trans{a b c:List Nat}(h:UpS a b)(k:UpS b c):UpS a c:=⟨k.1.trans h.1,λj s d hd=>by
 obtain⟨e,h1,h2⟩:=h.2 j s d hd;obtain⟨f,h3,h4⟩:=k.2 j s e h2;exact⟨f,by omega,h4⟩⟩
theorem K7{up:List Nat}{k p q:Nat}(hk:up[k]? =some p)(hpk:¬p=k)(hq:up[p]? =some q):UpS up (up.set k q):=by
 refine⟨Zm,λj s d=>?_⟩;have hne:∀j,¬j=k->(up.set k q)[j]? =up[j]?:=λj h=>Yg (λe=>h e.symm)
 induction d using Nat.strongRecOn generalizing j s with
 |ind d ih=>
  intro hj
  by_cases h:j=k
  .subst h;have hlt:=(ZB.1 hk).1;have hset:(up.set j q)[j]? =some q:=by simp[hlt]
   have hj0:=hj
   cases hj with
   |root h1=>rw[hk] at h1;cases h1;exact absurd rfl hpk
   |step h1 h2 h3=>
    rename_i p' d;rw[hk] at h1;cases h1
    cases h3 with
    |root h4=>
     rw[hq] at h4;cases h4
     exact⟨1,by omega,.step hset hpk (.root (by rw[hne _ hpk];exact hq))⟩
    |step h4 h5 h6=>
     rename_i q' d;rw[hq] at h4;cases h4
     have hqk:¬q=j:=by
      rintro rfl;have:=(hj0.det h6).2;omega
     obtain⟨e,h7,h8⟩:=ih d (by omega) q s h6
     exact⟨e+1,by omega,.step hset hqk h8⟩
  .cases hj with
   |root h1=>exact⟨0,ZG _,.root (by rw[hne _ h];exact h1)⟩
   |step h1 h2 h3=>
    rename_i p' d;obtain⟨e,h4,h5⟩:=ih d (by omega) p' s h3
    exact⟨e+1,by omega,.step (by rw[hne _ h];exact h1) h2 h5⟩
theorem EC:∀(d:Nat) {up:List Nat} {k r:Nat},Rt up k r d->∀N,d<N->∃u,ct N up k=some (u,r)/\UpS up u:=by
 intro d
 induction d using Nat.strongRecOn with
 |ind d ih=>
  intro up k r h N hN;obtain⟨N,rfl⟩:∃M,N=M+1:=⟨N-1,by omega⟩
  cases h with
  |root h=>exact⟨up,by simp only[ct,h,if_true],.refl _⟩
  |step h1 h2 h3=>
   rename_i p d;obtain⟨q,hq⟩:∃q,up[p]? =some q:=⟨_,ZA h3.lt⟩;have hu:=K7 h1 h2 hq
   have h4:∃e,e<=d/\Rt up q r e:=by
    cases h3 with
    |root h5=>rw[hq] at h5;cases h5;exact⟨0,ZG _,.root hq⟩
    |step h5 h6 h7=>rw[hq] at h5;cases h5;exact⟨_,by omega,h7⟩
   obtain⟨e,h5,h6⟩:=h4;obtain⟨e',h7,h8⟩:=hu.2 _ _ _ h6;obtain⟨u,h9,h10⟩:=ih e' (by omega) h8 N (by omega)
   exact⟨u,by simp only[ct,h1,if_neg h2,hq];exact h9,hu.trans h10⟩
def cls(up:List Nat):Nat:=(List.range up.length).countP λk=>decide (up[k]? =some k)
theorem oh{α:Type}{p q:α->Bool}:∀{l:List α} {a:α},(∀x∈l,q x=true->p x=true)->a∈l->p a=true->q a=false->l.countP q<l.countP p
 |x::l,a,h,ha,hp,hq=>by
  have hle:l.countP q<=l.countP p:=List.countP_mono_left λy hy=>h y (ZQ _ hy);rcases ZI.1 ha with rfl|ha
  .rw [Yw (by rw[hq];decide),Yh hp];omega
  .have:=oh (λy hy=>h y (ZQ _ hy)) ha hp hq
   by_cases hqx:q x=true
   .rw [Yh hqx,Yh (h x (ZV ..) hqx)];omega
   .rw [Yw hqx]
    by_cases hpx:p x=true
    .rw [Yh hpx];omega
    .rw [Yw hpx];exact this
def Tot(up:List Nat):Prop:=∀k,k<up.length->∃r d,Rt up k r d
def RR(up:List Nat):Nat->Nat->Prop:=λk r=>∃d,Rt up k r d
section
variable{up u:List Nat}
theorem UpS.tot(h:UpS up u)(ht:Tot up):Tot u:=λk hk=>by
 obtain⟨r,d,h1⟩:=ht k (by rw[<-h.1];exact hk)
 obtain⟨e,_,h2⟩:=h.2 _ _ _ h1;exact⟨r,e,h2⟩
theorem UpS.back(h:UpS up u)(ht:Tot up){k r e:Nat}(hk:Rt u k r e):∃d,e<=d/\Rt up k r d:=by
 obtain⟨s,d,h1⟩:=ht k (by rw[<-h.1];exact hk.lt)
 obtain⟨e',h2,h3⟩:=h.2 _ _ _ h1;obtain⟨rfl,rfl⟩:=hk.det h3;exact⟨d,h2,h1⟩
theorem UpS.rr(h:UpS up u)(ht:Tot up):RR u=RR up:=by
 funext k r
 refine propext ⟨λ⟨e,he⟩=>?_,λ⟨d,hd⟩=>?_⟩
 .obtain ⟨d,_,h1⟩:=h.back ht he;exact⟨d,h1⟩
 .obtain ⟨e,_,h1⟩:=h.2 _ _ _ hd;exact⟨e,h1⟩
theorem UpS.self(h:UpS up u)(ht:Tot up)(k:Nat):u[k]? =some k↔up[k]? =some k:=by
 constructor
 .intro hk;obtain⟨d,_,h1⟩:=h.back ht (.root hk);exact h1.end_
 .intro hk;obtain⟨e,_,h1⟩:=h.2 _ _ _ (.root hk);exact h1.end_
theorem UpS.cls(h:UpS up u)(ht:Tot up):cls u=cls up:=by
 unfold Go.CK.cls;rw[h.1];refine List.countP_congr λk _=>?_;rw[decide_eq_true_iff,decide_eq_true_iff];exact h.self ht k
theorem tl{a b:Nat}(ha:up[a]? =some a)(hb:up[b]? =some b)(hab:¬a=b){k s d:Nat}(h:Rt up k s d):(s=b->∃e,e<=d+1/\Rt (up.set b a) k a e)/\(¬s=b->Rt (up.set b a) k s d):=by
 have hne:∀j,¬j=b->(up.set b a)[j]? =up[j]?:=λj h=>Yg (λe=>h e.symm);have hblt:=(ZB.1 hb).1;have hset:(up.set b a)[b]? =some a:=by simp[hblt]
 have hra:Rt (up.set b a) a a 0:=.root (by rw[hne a hab];exact ha)
 induction h with
 |root h=>
  rename_i k;refine⟨λe=>?_,λe=>.root (by rw[hne k e];exact h)⟩
  subst e
  exact⟨1,ZG _,.step hset hab hra⟩
 |step h h2 h3 ih=>
  rename_i k p r d
  have hkb:¬k=b:=by
   rintro rfl;rw[hb] at h;cases h;exact h2 rfl
  refine⟨λe=>?_,λe=>.step (by rw[hne k hkb];exact h) h2 (ih.2 e)⟩
  obtain⟨e',h4,h5⟩:=ih.1 e;exact⟨e'+1,by omega,.step (by rw[hne k hkb];exact h) h2 h5⟩
theorem EN{a b:Nat}(ha:up[a]? =some a)(hb:up[b]? =some b)(hab:¬a=b)(ht:Tot up):Tot (up.set b a):=λk hk=>by
 rw[Zm] at hk;obtain⟨r,d,h⟩:=ht k hk;obtain⟨h1,h2⟩:=tl ha hb hab h
 by_cases hr:r=b
 .obtain ⟨e,_,h3⟩:=h1 hr;exact⟨a,e,h3⟩
 .exact ⟨r,d,h2 hr⟩
theorem uh{a b:Nat}(ha:up[a]? =some a)(hb:up[b]? =some b)(hab:¬a=b)(ht:Tot up){k r e:Nat}(h:Rt (up.set b a) k r e):∃s d,Rt up k s d/\r=(if s=b then a else s)/\e<=d+1:=by
 have hlt:=h.lt;rw[Zm] at hlt;obtain⟨s,d,h0⟩:=ht k hlt;obtain⟨h1,h2⟩:=tl ha hb hab h0
 by_cases hs:s=b
 .obtain ⟨e',h3,h4⟩:=h1 hs;obtain⟨rfl,rfl⟩:=h.det h4;exact⟨s,d,h0,by rw[if_pos hs],h3⟩
 .obtain ⟨rfl,rfl⟩:=h.det (h2 hs);exact⟨r,e,h0,by rw[if_neg hs],by omega⟩
theorem GX{a b:Nat}(ha:up[a]? =some a)(hb:up[b]? =some b)(hab:¬a=b)(ht:Tot up):RR (up.set b a)=rtM (RR up) a b:=by
 funext k r
 refine propext ⟨λ⟨e,he⟩=>?_,?_⟩
 .obtain ⟨s,d,h1,h2,_⟩:=uh ha hb hab ht he;exact⟨s,⟨d,h1⟩,h2⟩
 .rintro ⟨s,⟨d,h1⟩,rfl⟩;obtain⟨h2,h3⟩:=tl ha hb hab h1
  by_cases hs:s=b
  .rw [if_pos hs];obtain⟨e,_,h4⟩:=h2 hs;exact⟨e,h4⟩
  .rw [if_neg hs];exact⟨d,h3 hs⟩
theorem EO{a b:Nat}(hb:up[b]? =some b)(hab:¬a=b):cls (up.set b a)<cls up:=by
 have hblt:=(ZB.1 hb).1;unfold cls;rw[Zm];refine oh (a:=b) (λk _ hk=>?_) (Zd.2 hblt) (decide_eq_true hb) (decide_eq_false ?_)
 .rw [decide_eq_true_iff] at hk|-
  by_cases h:b=k
  .subst h;simp[hblt] at hk;exact absurd hk hab
  .rw [Yg h] at hk;exact hk
 .simp [hblt];exact hab
end
end Go.CK
