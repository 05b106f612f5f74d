/-
  Texts of this aQ joined (wip/gen/bundle.py),those declarations only that are needed:UlE UlF UlG. By an AI agent.
-/
import Derived.Test.YtahnpgfkkngimaaGreatBba
set_option linter.unusedSimpArgs false
set_option linter.unusedVariables false
namespace Go.CK
open Go.AM
abbrev Gr.R(g:Gr):Nat->Nat->Prop:=RR g.up
abbrev Gr.sh(g:Gr):Nat->Option Nat:=λr=>lk g.shape r
abbrev Gr.le(g:Gr):Nat->Option Int:=λr=>lk g.least r
structure GW(N:Nat)(g:Gr):Prop where
 len:g.up.length=g.nodes.length
 tot:Tot g.up
 dep:∀k r d,Rt g.up k r d->d+cls g.up<=g.up.length
 nds:Nds g.nodes
 vars:∀v i,lk g.vars v=some i↔∃x,g.nodes[i]? =some x/\x.t=az v
 shp:ma g.nodes g.R g.sh
 lst:mb g.nodes g.R g.le
 lim:g.up.length<N
 fr:∀k:Nat,g.nodes.length<=k->lk g.shape k=none/\lk g.least k=none
theorem GW.par{N:Nat}{g:Gr}(h:GW N g):Par g.nodes g.R:=by
 refine⟨λk r ⟨d,hd⟩=>⟨by rw[<-h.len];exact hd.lt,by rw[<-h.len];exact hd.lt2⟩,λk hk=>h.tot k (by rw[h.len];exact hk),λk r s ⟨d,hd⟩ ⟨e,he⟩=>(hd.det he).1,λk r ⟨d,hd⟩=>⟨0,.root hd.end_⟩⟩
theorem GW.upS{N:Nat}{g:Gr}(h:GW N g){u:List Nat}(hu:UpS g.up u):GW N {g with up:=u}:=by
 have e:=hu.rr h.tot;refine⟨hu.1.trans h.len,hu.tot h.tot,λk r d hd=>?_,h.nds,h.vars,?_,?_,by show u.length<N;rw[hu.1];exact h.lim,h.fr⟩
 .obtain ⟨d',h1,h2⟩:=hu.back h.tot hd;have:=h.dep _ _ _ h2;show d+cls u<=u.length;rw[hu.cls h.tot,hu.1];omega
 .show ma g.nodes (RR u) _;rw[e];exact h.shp
 .show mb g.nodes (RR u) _;rw[e];exact h.lst
theorem GW.root{N:Nat}{g:Gr}(h:GW N g){k:Nat}(hk:k<g.up.length):∃u r,ct N g.up k=some (u,r)/\UpS g.up u/\g.R k r:=by
 obtain⟨r,d,hd⟩:=h.tot k hk;have h1:=h.dep _ _ _ hd;have h2:=h.lim;obtain⟨u,h3,h4⟩:=EC d hd N (by omega)
 exact⟨u,r,h3,h4,d,hd⟩
theorem Dp{up:List Nat}{r:Nat}(h:RR up r r):up[r]? =some r:=by
 obtain⟨d,hd⟩:=h;exact hd.end_
theorem GW.merge{N:Nat}{g:Gr}(h:GW N g){a b:Nat}(ha:g.R a a)(hb:g.R b b)(hab:¬a=b):GW N (aK g a b)/\(aK g a b).R=rtM g.R a b/\cls (aK g a b).up<cls g.up:=by
 have ha':=Dp ha;have hb':=Dp hb;have hp:=h.par;have hrr:=GX ha' hb' hab h.tot;have hcl:=EO hb' hab;have hRR:(aK g a b).R=rtM g.R a b:=hrr
 have hroot:∀r,rtM g.R a b r r->g.R r r/\¬r=b:=by
  rintro r ⟨s,h1,h2⟩
  by_cases hs:s=b
  .rw [if_pos hs] at h2;subst h2;exact⟨ha,hab⟩
  .rw [if_neg hs] at h2;subst h2;exact⟨h1,hs⟩
 have hin:∀k r,rtM g.R a b k r->(¬r=a->g.R k r)/\(r=a->g.R k a\/g.R k b):=by
  rintro k r ⟨s,h1,rfl⟩
  by_cases hs:s=b
  .rw [if_pos hs];subst hs;exact⟨λe=>absurd rfl e,λ_=>.inr h1⟩
  .rw [if_neg hs];exact⟨λ_=>h1,λe=>.inl (e▸h1)⟩
 have hup:∀k r,g.R k r->¬r=b->rtM g.R a b k r:=λk r h1 h2=>⟨r,h1,by rw[if_neg h2]⟩
 have hupb:∀k,g.R k b->rtM g.R a b k a:=λk h1=>⟨b,h1,by rw[if_pos rfl]⟩
 have hne:∀{r:Nat},¬r=a->¬((r:Nat):Int)=(a:Int):=λh e=>h (by omega)
 refine⟨⟨?_,EN ha' hb' hab h.tot,λk r d hd=>?_,h.nds,h.vars,?_,?_,?_,?_⟩,hRR,hcl⟩
 .show (g.up.set b a).length=_;rw[Zm];exact h.len
 .obtain ⟨s,d',h1,_,h2⟩:=uh ha' hb' hab h.tot hd;have:=h.dep _ _ _ h1;show d+cls (g.up.set b a)<=(g.up.set b a).length;rw[Zm];omega
 .rw [hRR];intro r hr;obtain⟨hr0,hrb⟩:=hroot r hr;obtain⟨s1,s2⟩:=h.shp r hr0
  by_cases hra:r=a
  .subst hra;obtain⟨t1,t2⟩:=h.shp b hb;show (∀k,lk (aK g r b).shape r=some k->_)/\(lk (aK g r b).shape r=none->_);simp only[aK]
   cases hsb:lk g.shape b with
   |none=>
    simp only;refine⟨λk hk=>?_,λhk k x hx hkr=>?_⟩
    .obtain ⟨x,h1,h2,h3⟩:=s1 k hk;exact⟨x,h1,h2,hup _ _ h3 hrb⟩
    .rcases (hin _ _ hkr).2 rfl with h1|h1
     .exact s2 hk k x hx h1
     .exact t2 hsb k x hx h1
   |some kb=>
    obtain⟨x,h1,h2,h3⟩:=t1 kb hsb
    cases hsa:lk g.shape r with
    |none=>
     simp only[dC,if_pos];refine⟨λk hk=>?_,λhk=>by cases hk⟩
     cases hk
     exact⟨x,h1,h2,hupb _ h3⟩
    |some ka=>
     simp only[hsa];refine⟨λk hk=>?_,λhk=>by cases hk⟩
     cases hk;obtain⟨y,f1,f2,f3⟩:=s1 ka hsa;exact⟨y,f1,f2,hup _ _ f3 hrb⟩
  .have hsh:lk (aK g a b).shape r=lk g.shape r:=by
    simp only[aK];split
    .rfl
    .split
     .rw [dC,if_neg (hne hra)]
     .rfl
   show (∀k,lk (aK g a b).shape r=some k->_)/\(lk (aK g a b).shape r=none->_);rw[hsh];refine⟨λk hk=>?_,λhk k x hx hkr=>s2 hk k x hx ((hin _ _ hkr).1 hra)⟩;obtain⟨x,h1,h2,h3⟩:=s1 k hk;exact⟨x,h1,h2,hup _ _ h3 hrb⟩
 .rw [hRR];intro r hr;obtain⟨hr0,hrb⟩:=hroot r hr;obtain⟨s1,s2⟩:=h.lst r hr0
  by_cases hra:r=a
  .subst hra;obtain⟨t1,t2⟩:=h.lst b hb;show (∀w,lk (aK g r b).least r=some w->_)/\(lk (aK g r b).least r=none->_);simp only[aK]
   cases hsb:lk g.least b with
   |none=>
    simp only;refine⟨λw hw=>?_,λhk k x hx hkr=>?_⟩
    .obtain ⟨⟨k,x,h1,h2,h3⟩,h4⟩:=s1 w hw;refine⟨⟨k,x,h1,h2,hup _ _ h3 hrb⟩,λk x hx hkr hk1=>?_⟩;rcases(hin _ _ hkr).2 rfl with h5|h5
     .exact h4 k x hx h5 hk1
     .exact absurd hk1 (t2 hsb k x hx h5)
    .rcases (hin _ _ hkr).2 rfl with h1|h1
     .exact s2 hk k x hx h1
     .exact t2 hsb k x hx h1
   |some vb=>
    obtain⟨⟨kb,xb,b1,b2,b3⟩,b4⟩:=t1 vb hsb
    cases hsa:lk g.least r with
    |none=>
     simp only[dC,if_pos];refine⟨λw hw=>?_,λhk=>by cases hk⟩
     cases hw;refine⟨⟨kb,xb,b1,b2,hupb _ b3⟩,λk x hx hkr hk1=>?_⟩;rcases(hin _ _ hkr).2 rfl with h5|h5
     .exact absurd hk1 (s2 hsa k x hx h5)
     .exact b4 k x hx h5 hk1
    |some va=>
     obtain⟨⟨ka,xa,a1,a2,a3⟩,a4⟩:=s1 va hsa
     by_cases hlt:vb<va
     .simp only[if_pos hlt,dC,if_pos];refine⟨λw hw=>?_,λhk=>by cases hk⟩
      cases hw;refine⟨⟨kb,xb,b1,b2,hupb _ b3⟩,λk x hx hkr hk1=>?_⟩;rcases(hin _ _ hkr).2 rfl with h5|h5
      .have:=a4 k x hx h5 hk1;omega
      .exact b4 k x hx h5 hk1
     .simp only[if_neg hlt,hsa];refine⟨λw hw=>?_,λhk=>by cases hk⟩
      cases hw;refine⟨⟨ka,xa,a1,a2,hup _ _ a3 hrb⟩,λk x hx hkr hk1=>?_⟩;rcases(hin _ _ hkr).2 rfl with h5|h5
      .exact a4 k x hx h5 hk1
      .have:=b4 k x hx h5 hk1;omega
  .have hsh:lk (aK g a b).least r=lk g.least r:=by
    simp only[aK];split
    .rfl
    .split
     .rw [dC,if_neg (hne hra)]
     .split
      .rw [dC,if_neg (hne hra)]
      .rfl
   show (∀w,lk (aK g a b).least r=some w->_)/\(lk (aK g a b).least r=none->_);rw[hsh];refine⟨λw hw=>?_,λhk k x hx hkr=>s2 hk k x hx ((hin _ _ hkr).1 hra)⟩;obtain⟨⟨k,x,h1,h2,h3⟩,h4⟩:=s1 w hw;exact⟨⟨k,x,h1,h2,hup _ _ h3 hrb⟩,λk x hx hkr hk1=>h4 k x hx ((hin _ _ hkr).1 hra) hk1⟩
 .show (g.up.set b a).length<N;rw[Zm];exact h.lim
 .intro k hk;have hk:g.nodes.length<=k:=hk;obtain⟨f1,f2⟩:=h.fr k hk
  have hka:¬(k:Int)=(a:Int):=by
   obtain⟨d,hd⟩:=ha;have:=hd.lt;have:=h.len;omega
  constructor
  .simp only[aK];split
   .exact f1
   .split
    .rw [dC,if_neg hka];exact f1
    .exact f1
  .simp only[aK];split
   .exact f2
   .split
    .rw [dC,if_neg hka];exact f2
    .split
     .rw [dC,if_neg hka];exact f2
     .exact f2
theorem qe{nds:List Nd}(hn:Nds nds){i:Nat}{x:Nd}(hx:nds[i]? =some x):x.kids.length<=6:=by
 rw[hn.len _ _ hx];have hf:=hn.frm _ _ hx
 by_cases h1:x.t.kind=1
 .rw [(ix hf h1).2.2];exact ZJ _
 .by_cases h2:x.t.kind=2
  .rw [rI h2] at hf;simp only[ZD,decide_eq_true_eq] at hf;exact hf.1.2
  .rw [fh hf h1 h2];exact ZJ _
theorem n5{N:Nat}:∀(f:Nat) (g:Gr) (ps:List (Nat×Nat)),GW N g->aE g.nodes g.R ps->(∀p∈ps,p.1<g.up.length/\p.2<g.up.length)->7*cls g.up+ps.length<f->ps.length+7*cls g.up<=3000000000->
  ∃g' b,dQ N f g ps=some (g',b)/\(b=true->GW N g'/\aE g'.nodes g'.R []/\g'.nodes=g.nodes/\g'.vars=g.vars/\g'.known=g.known/\∀σ,Sat g'.nodes g'.R [] σ↔Sat g.nodes g.R ps σ)/\(b=false->∀σ,¬Sat g.nodes g.R ps σ)
 |0,g,ps,_,_,_,h,_=>by omega
 |f+1,g,ps,hg,hc,hps,hf,hlim=>by
  rcases List.eq_nil_or_concat ps with rfl|⟨qs,⟨x,y⟩,hq⟩
  .exact ⟨g,true,by simp only[dQ,List.getLast?_nil],λ_=>⟨hg,hc,rfl,rfl,rfl,λσ=>Iff.rfl⟩,λh=>by cases h⟩
  .rw [List.concat_eq_append] at hq;subst hq;obtain⟨hx,hy⟩:=hps (x,y) (by simp)
   simp only at hx hy;obtain⟨u1,a,e1,e2,hxa⟩:=hg.root hx;have hg1:=hg.upS e2;have hR1:RR u1=RR g.up:=e2.rr hg.tot;obtain⟨u2,b,e3,e4,hyb⟩:=hg1.root (k:=y) (by show y<u1.length;rw[e2.1];exact hy)
   have hg2:GW N {g with up:=u2}:=hg1.upS e4;have e24:UpS g.up u2:=e2.trans e4;have hR2:RR u2=RR g.up:=e24.rr hg.tot
   have hyb':g.R y b:=by
    have:RR u1 y b:=hyb;rw[hR1] at this;exact this
   have hu2:=e24.1;have hcl2:cls u2=cls g.up:=e24.cls hg.tot;have hlq:(qs++[(x,y)]).length=qs.length+1:=by simp
   have hpq:∀p∈qs,p.1<g.up.length/\p.2<g.up.length:=λp hp=>hps p (Zy _ hp)
   have hj:dQ N (f+1) g (qs++[(x,y)])=if a=b then dQ N f {g with up:=u2} qs
     else match lk g.shape a,lk g.shape b with
      |some i,some k=>match g.nodes[i]?,g.nodes[k]? with
       |some p,some q=>
        if dq p.t q.t=true then
         if p.kids.length<=q.kids.length/\b<u2.length/\(qs++[(x,y)]).length+p.kids.length<=4000000000 then dQ N f (aK {g with up:=u2} a b) (qs++p.kids.zip q.kids) else none
        else some ({g with up:=u2},false)
       |_,_=>none
      |_,_=>if b<u2.length then dQ N f (aK {g with up:=u2} a b) qs else none:=by
    have e3':ct N u1 y=some (u2,b):=e3;simp only[dQ,List.getLast?_concat,List.dropLast_concat,e1,e3'];rfl
   have hp:=hg.par;have haa:g.R a a:=hp.idem _ _ hxa;have hbb:g.R b b:=hp.idem _ _ hyb';have haa2:RR u2 a a:=by rw[hR2];exact haa
   have hbb2:RR u2 b b:=by rw[hR2];exact hbb
   rw[hj]
   by_cases hab:a=b
   .rw [if_pos hab];subst hab;obtain⟨g',b',h1,h2,h3⟩:=n5 f {g with up:=u2} qs hg2 (by show aE g.nodes (RR u2) qs;rw[hR2];exact sw hxa hyb' hc) (by show∀p∈qs,p.1<u2.length/\p.2<u2.length;rw[hu2];exact hpq) (by show 7*cls u2+_<f;rw[hcl2];omega) (by show _+7*cls u2<=_;rw[hcl2];omega)
    have hsat:∀σ,Sat g.nodes (RR u2) qs σ↔Sat g.nodes g.R (qs++[(x,y)]) σ:=λσ=>by rw[hR2];exact(zJ hxa hyb' σ).symm
    refine⟨g',b',h1,λe=>?_,λe σ hs=>h3 e σ ((hsat σ).2 hs)⟩;obtain⟨k1,k2,k3,k4,k5,k6⟩:=h2 e;exact⟨k1,k2,k3,k4,k5,λσ=>(k6 σ).trans (hsat σ)⟩
   .rw [if_neg hab];obtain⟨m1,m2,m3⟩:=hg2.merge haa2 hbb2 hab;have hmR:(aK {g with up:=u2} a b).R=rtM g.R a b:=by rw[m2];show rtM (RR u2) a b=_;rw[hR2]
    have hmn:(aK {g with up:=u2} a b).nodes=g.nodes:=rfl;have hmu:(aK {g with up:=u2} a b).up.length=g.up.length:=by show (u2.set b a).length=_;rw[Zm];exact hu2
    have hmc:cls (aK {g with up:=u2} a b).up<cls g.up:=by rw[<-hcl2];exact m3
    have hbl:b<u2.length:=by rw[hu2];obtain⟨d,hd⟩:=hbb;exact hd.lt
    have simple:(lk g.shape a=none\/lk g.shape b=none)->∃g' b',dQ N f (aK {g with up:=u2} a b) qs=some (g',b')/\(b'=true->GW N g'/\aE g'.nodes g'.R []/\g'.nodes=g.nodes/\g'.vars=g.vars/\g'.known=g.known/\∀σ,Sat g'.nodes g'.R [] σ↔Sat g.nodes g.R (qs++[(x,y)]) σ)/\(b'=false->∀σ,¬Sat g.nodes g.R (qs++[(x,y)]) σ):=λhnone=>by
     have hcm:aE g.nodes (rtM g.R a b) qs:=gk hg.nds hp hxa hyb' hab (λp h=>h) hc λi k u v hu hv hu1 hv1 hi hk=>by
      rcases hnone with h|h
      .exact absurd ((hg.shp a haa).2 h i u hu hi) hu1
      .exact absurd ((hg.shp b hbb).2 h k v hv hk) hv1
     obtain⟨g',b',h1,h2,h3⟩:=n5 f (aK {g with up:=u2} a b) qs m1 (by rw[hmR,hmn];exact hcm) (by rw[hmu];exact hpq) (by omega) (by omega)
     have hsat:∀σ,Sat (aK {g with up:=u2} a b).nodes (aK {g with up:=u2} a b).R qs σ↔Sat g.nodes g.R (qs++[(x,y)]) σ:=λσ=>by rw[hmR,hmn];exact nW hp hxa hyb' σ
     refine⟨g',b',h1,λe=>?_,λe σ hs=>h3 e σ ((hsat σ).2 hs)⟩;obtain⟨k1,k2,k3,k4,k5,k6⟩:=h2 e;exact⟨k1,k2,k3,k4,k5,λσ=>(k6 σ).trans (hsat σ)⟩
    cases hsa:lk g.shape a with
    |none=>
     simp only;rw[if_pos hbl]
     exact simple (.inl hsa)
    |some i=>
     cases hsb:lk g.shape b with
     |none=>
      simp only;rw[if_pos hbl]
      exact simple (.inr hsb)
     |some k=>
      obtain⟨p,p1,p2,p3⟩:=(hg.shp a haa).1 i hsa;obtain⟨q,q1,q2,q3⟩:=(hg.shp b hbb).1 k hsb;simp only[p1,q1]
      cases hal:dq p.t q.t with
      |false=>
       rw[if_neg YY];refine⟨_,_,rfl,λe=>(by cases e),λ_ σ hs=>?_⟩
       apply xk hg.nds p1 q1 p2 q2 hal σ;rw[hs.1 _ _ p3,hs.1 _ _ q3,<-hs.1 _ _ hxa,<-hs.1 _ _ hyb']
       exact hs.2 (x,y) (by simp)
      |true=>
       have hlen:=(bq.1 hal).2.2.2;have hpl:=hg.nds.len _ _ p1;have hql:=hg.nds.len _ _ q1;have h6:=qe hg.nds p1;have hzl:(p.kids.zip q.kids).length=p.kids.length:=by rw[XT];omega
       have hcpos:1<=cls g.up:=by omega
       rw[if_pos rfl,if_pos ⟨by omega,hbl,by omega⟩]
       have hcm:aE g.nodes (rtM g.R a b) (qs++p.kids.zip q.kids):=gk hg.nds hp hxa hyb' hab (λr h=>Zy _ h) hc λi' k' u v hu hv hu1 hv1 hi hk=>⟨i,k,p,q,p1,q1,p2,q2,p3,q3,vz hal λr hr=>YU _ hr⟩
       have hplt:∀r∈qs++p.kids.zip q.kids,r.1<g.up.length/\r.2<g.up.length:=λr hr=>by
        rcases ZY.1 hr with hr|hr
        .exact hpq r hr
        .obtain ⟨j,hj⟩:=YQ hr;obtain⟨j1,j2⟩:=YS.1 hj;rw[hg.len];exact⟨ew hg.nds p1 j1,ew hg.nds q1 j2⟩
       obtain⟨g',b',h1,h2,h3⟩:=n5 f (aK {g with up:=u2} a b) (qs++p.kids.zip q.kids) m1 (by rw[hmR,hmn];exact hcm) (by rw[hmu];exact hplt) (by rw[ZC];omega) (by rw[ZC];omega)
       have hsat:∀σ,Sat (aK {g with up:=u2} a b).nodes (aK {g with up:=u2} a b).R (qs++p.kids.zip q.kids) σ↔Sat g.nodes g.R (qs++[(x,y)]) σ:=λσ=>by
        rw[hmR,hmn,<-nW hp hxa hyb' σ];refine⟨λh=>⟨h.1,λr hr=>h.2 r (Zy _ hr)⟩,λh=>zL h ?_⟩;have h0:=(nW hp hxa hyb' σ).1 h;refine DK hg.nds p1 q1 hal p2 ?_;rw[h0.1 _ _ p3,h0.1 _ _ q3,<-h0.1 _ _ hxa,<-h0.1 _ _ hyb'];exact h0.2 (x,y) (by simp)
       refine⟨g',b',h1,λe=>?_,λe σ hs=>h3 e σ ((hsat σ).2 hs)⟩;obtain⟨k1,k2,k3,k4,k5,k6⟩:=h2 e;exact⟨k1,k2,k3,k4,k5,λσ=>(k6 σ).trans (hsat σ)⟩
end Go.CK
namespace Go.CK
open Go.AM
section
variable{up:List Nat}
theorem Rt.snoc{n k r d:Nat}(h:Rt up k r d):Rt (up++[n]) k r d:=by
 have e:∀{k p:Nat},up[k]? =some p->(up++[n])[k]? =some p:=λ{k p} h=>by
  rw[ZK (ZB.1 h).1];exact h
 induction h with
 |root h=>exact .root (e h)
 |step h h2 _ ih=>exact .step (e h) h2 ih
theorem qy:(up++[up.length])[up.length]? =some up.length:=by simp
theorem wU(ht:Tot up){k r d:Nat}(h:Rt (up++[up.length]) k r d):Rt up k r d\/(k=up.length/\r=up.length/\d=0):=by
 have hlt:=h.lt;rw[ZC,ZU] at hlt
 by_cases hk:k=up.length
 .subst hk;obtain⟨rfl,rfl⟩:=Rt.self qy h;exact .inr ⟨rfl,rfl,rfl⟩
 .obtain ⟨s,e,h1⟩:=ht k (by omega)
  obtain⟨rfl,rfl⟩:=h.det (h1.snoc (n:=up.length));exact .inl h1
theorem Il(ht:Tot up)(k r:Nat):RR (up++[up.length]) k r↔RR up k r\/(k=up.length/\r=up.length):=by
 constructor
 .rintro ⟨d,hd⟩;rcases wU ht hd with h|⟨h1,h2,_⟩
  .exact .inl ⟨d,h⟩
  .exact .inr ⟨h1,h2⟩
 .rintro (⟨d,hd⟩|⟨rfl,rfl⟩)
  .exact ⟨d,hd.snoc⟩
  .exact ⟨0,.root qy⟩
theorem Gd(ht:Tot up):Tot (up++[up.length]):=λk hk=>by
 rw[ZC,ZU] at hk
 by_cases h:k=up.length
 .subst h;exact⟨_,0,.root qy⟩
 .obtain ⟨r,d,h1⟩:=ht k (by omega)
  exact⟨r,d,h1.snoc⟩
theorem Ge:cls (up++[up.length])<=cls up+1:=by
 unfold cls;rw[ZC,ZU,List.range_succ,List.countP_append]
 have:(List.range up.length).countP (λk=>decide ((up++[up.length])[k]? =some k))=(List.range up.length).countP λk=>decide (up[k]? =some k):=by
  refine List.countP_congr λk hk=>?_;rw[Zd] at hk;rw[ZK hk]
 rw[this];have:=Yz (p:=λk=>decide ((up++[up.length])[k]? =some k)) (l:=[up.length]);simp only[ZU] at this;omega
end
theorem HE(up:List Nat):cls up<=up.length:=by
 unfold cls;have:=Yz (p:=λk=>decide (up[k]? =some k)) (l:=List.range up.length);rw[Yu] at this;exact this
theorem iZ{nds:List Nd}{z:Nd}{σ:Int->Tm}{k:Nat}(h:k<nds.length):gv (nds++[z]) σ k=gv nds σ k:=by
 unfold gv;rw[ZK h]
structure vR(N:Nat)(g g':Gr):Prop where
 gw:GW N g'
 cl:aE g'.nodes g'.R []
 old:∀(j:Nat) (x:Nd),g.nodes[j]? =some x->g'.nodes[j]? =some x
 sat:∀σ,Sat g'.nodes g'.R [] σ↔Sat g.nodes g.R [] σ
 kn:g'.known=g.known
theorem vR.trans{N:Nat}{a b c:Gr}(h:vR N a b)(k:vR N b c):vR N a c:=⟨k.gw,k.cl,λj x hx=>k.old j x (h.old j x hx),λσ=>(k.sat σ).trans (h.sat σ),k.kn.trans h.kn⟩
theorem HZ{N:Nat}{g:Gr}{t:Tm}{l:List Nat}(h:GW N g)(hc:aE g.nodes g.R [])(hf:t.form=true)(hl:l.length=t.args.length)(hk:∀(j c:Nat) (y:Tm),l[j]? =some c->t.args[j]? =some y->∃z:Nd,g.nodes[c]? =some z/\z.t=y)(hv:t.kind=1->lk g.vars t.num=none)(hN:g.up.length+1<N):vR N g (bR g t l):=by
 obtain⟨n,hn⟩:∃n,n=g.nodes.length:=⟨_,rfl⟩;have hlen:=h.len;have hup:(bR g t l).up=g.up++[g.up.length]:=by show g.up++[g.nodes.length]=_;rw[hlen]
 have hRR:∀k r,(bR g t l).R k r↔g.R k r\/(k=n/\r=n):=λk r=>by
  show RR (bR g t l).up k r↔_;rw[hup,hn,<-hlen];exact Il h.tot k r
 have hnd:(bR g t l).nodes=g.nodes++[⟨t,l⟩]:=rfl
 have hold:∀(j:Nat) (x:Nd),g.nodes[j]? =some x->(bR g t l).nodes[j]? =some x:=λj x hx=>by
  rw[hnd,ZK (ZB.1 hx).1];exact hx
 have hnew:(bR g t l).nodes[n]? =some ⟨t,l⟩:=by rw[hnd,hn];simp
 have hcase:∀(j:Nat) (x:Nd),(bR g t l).nodes[j]? =some x->g.nodes[j]? =some x\/(j=n/\x=⟨t,l⟩):=λj x hx=>by
  rw[hnd] at hx
  by_cases hj:j<g.nodes.length
  .rw [ZK hj] at hx;exact .inl hx
  .have hj2:=(ZB.1 hx).1;rw[ZC,ZU] at hj2;obtain rfl:j=n:=by omega
   rw[hn] at hx;simp at hx;exact .inr ⟨rfl,hx.symm⟩
 have hp:=h.par
 have hroot:∀r,(bR g t l).R r r->g.R r r\/r=n:=λr hr=>by
  rcases(hRR r r).1 hr with h1|h1
  .exact .inl h1
  .exact .inr h1.1
 have hRn:∀k,g.R k n->False:=λk ⟨d,hd⟩=>by have:=hd.lt2;omega
 have hRn2:∀r,g.R n r->False:=λk ⟨d,hd⟩=>by have:=hd.lt;omega
 have hin:∀k r,g.R r r->(bR g t l).R k r->g.R k r:=λk r hr hkr=>by
  rcases(hRR k r).1 hkr with h1|⟨_,h1⟩
  .exact h1
  .subst h1;exact(hRn _ hr).elim
 have hinn:∀k,(bR g t l).R k n->k=n:=λk hkr=>by
  rcases(hRR k n).1 hkr with h1|⟨h1,_⟩
  .exact (hRn _ h1).elim
  .exact h1
 have hvar:t.kind=1->t=az t.num:=jY (fi t hf);have hfr:=h.fr n (by omega)
 have hkeyS:∀r:Nat,¬r=n->lk (bR g t l).shape r=lk g.shape r:=λr hr=>by
  simp only[bR];split
  .rfl
  .rw [dC,if_neg (by omega)]
 have hkeyL:∀r:Nat,¬r=n->lk (bR g t l).least r=lk g.least r:=λr hr=>by
  simp only[bR];split
  .rw [dC,if_neg (by omega)]
  .rfl
 have hsn:lk (bR g t l).shape n=if t.kind=1 then none else some n:=by
  simp only[bR];split
  .exact hfr.1
  .rw [dC,hn,if_pos rfl]
 have hln:lk (bR g t l).least n=if t.kind=1 then some t.num else none:=by
  simp only[bR];split
  .rw [dC,hn,if_pos rfl]
  .exact hfr.2
 have hnds:Nds (bR g t l).nodes:=by
  refine⟨λi x hx=>?_,λi x hx=>?_,λi x hx j c y h1 h2=>?_,λi j x y hx hy hx1 hxy=>?_⟩
  .rcases hcase i x hx with h1|⟨_,rfl⟩
   .exact h.nds.frm i x h1
   .exact hf
  .rcases hcase i x hx with h1|⟨_,rfl⟩
   .exact h.nds.len i x h1
   .exact hl
  .rcases hcase i x hx with h3|⟨_,rfl⟩
   .obtain ⟨z,h4,h5⟩:=h.nds.kid i x h3 j c y h1 h2;exact⟨z,hold _ _ h4,h5⟩
   .obtain ⟨z,h4,h5⟩:=hk j c y h1 h2;exact⟨z,hold _ _ h4,h5⟩
  .have hno:∀(i:Nat) (x:Nd),g.nodes[i]? =some x->x.t=t->t.kind=1->False:=λi x hx e h1=>by
    have h2:=(h.vars t.num i).2 ⟨x,hx,by rw[e];exact hvar h1⟩
    rw[hv h1] at h2;cases h2
   rcases hcase i x hx with h1|⟨h1,rfl⟩<;>rcases hcase j y hy with h2|⟨h2,rfl⟩
   .exact h.nds.one i j x y h1 h2 hx1 hxy
   .exact (hno i x h1 hxy (by have e:x.t=t:=hxy;rw[<-e];exact hx1)).elim
   .exact (hno j y h2 hxy.symm hx1).elim
   .omega
 have hgw:GW N (bR g t l):=by
  refine⟨?_,?_,λk r d hd=>?_,hnds,λv i=>?_,λr hr=>?_,λr hr=>?_,?_,λk hk=>?_⟩
  .rw [hup,hnd,ZC,ZC,hlen];rfl
  .rw [hup];exact Gd h.tot
  .rw [hup] at hd|-;have hs:=Ge (up:=g.up);rw[ZC,ZU];rcases wU h.tot hd with h1|⟨h1,h2,h3⟩
   .have:=h.dep _ _ _ h1;omega
   .have:=HE g.up;omega
  .have hlk:lk (bR g t l).vars v=if t.kind=1/\v=t.num then some n else lk g.vars v:=by
    simp only[bR]
    by_cases h1:t.kind=1
    .rw [if_pos h1,dC]
     by_cases h2:v=t.num
     .rw [if_pos h2,if_pos ⟨h1,h2⟩,hn]
     .rw [if_neg h2,if_neg (λe=>h2 e.2)]
    .rw [if_neg h1,if_neg (λe=>h1 e.1)]
   rw[hlk]
   by_cases h1:t.kind=1/\v=t.num
   .rw [if_pos h1];constructor
    .intro e;cases e;exact⟨_,hnew,by show t=_;rw[h1.2];exact hvar h1.1⟩
    .rintro ⟨x,hx,hxt⟩;rcases hcase i x hx with h2|⟨h2,_⟩
     .have:=(h.vars v i).2 ⟨x,h2,hxt⟩;rw[h1.2,hv h1.1] at this;cases this
     .rw [h2]
   .rw [if_neg h1,h.vars v i];constructor
    .rintro ⟨x,hx,hxt⟩;exact⟨x,hold _ _ hx,hxt⟩
    .rintro ⟨x,hx,hxt⟩;rcases hcase i x hx with h2|⟨_,rfl⟩
     .exact ⟨x,h2,hxt⟩
     .exfalso;apply h1;have hxt:t=az v:=hxt;rw[hxt];exact⟨rfl,rfl⟩
  .show (∀k,lk (bR g t l).shape r=some k->_)/\(lk (bR g t l).shape r=none->_);rcases hroot r hr with h1|h1
   .have hrn:¬r=n:=λe=>hRn r (e▸h1);obtain⟨s1,s2⟩:=h.shp r h1;rw[hkeyS r hrn];refine⟨λk hk=>?_,λhk k x hx hkr=>?_⟩
    .obtain ⟨x,e1,e2,e3⟩:=s1 k hk;exact⟨x,hold _ _ e1,e2,(hRR _ _).2 (.inl e3)⟩
    .have hkr':=hin k r h1 hkr;rcases hcase k x hx with h2|⟨h2,_⟩
     .exact s2 hk k x h2 hkr'
     .subst h2;exact(hRn2 _ hkr').elim
   .subst h1;rw[hsn];refine⟨λk hk=>?_,λhk k x hx hkr=>?_⟩
    .split at hk
     .cases hk
     .cases hk;exact⟨_,hnew,by assumption,hr⟩
    .have:=hinn k hkr;subst this;rw[hnew] at hx;cases hx;split at hk
     .assumption
     .cases hk
  .show (∀w,lk (bR g t l).least r=some w->_)/\(lk (bR g t l).least r=none->_);rcases hroot r hr with h1|h1
   .have hrn:¬r=n:=λe=>hRn r (e▸h1);obtain⟨s1,s2⟩:=h.lst r h1;rw[hkeyL r hrn]
    have hback:∀(k:Nat) (x:Nd),(bR g t l).nodes[k]? =some x->(bR g t l).R k r->g.nodes[k]? =some x/\g.R k r:=λk x hx hkr=>by
     have hkr':=hin k r h1 hkr;rcases hcase k x hx with h2|⟨h2,_⟩
     .exact ⟨h2,hkr'⟩
     .subst h2;exact(hRn2 _ hkr').elim
    refine⟨λw hw=>?_,λhk k x hx hkr=>?_⟩
    .obtain ⟨⟨k,x,e1,e2,e3⟩,e4⟩:=s1 w hw;refine⟨⟨k,x,hold _ _ e1,e2,(hRR _ _).2 (.inl e3)⟩,λk x hx hkr hk1=>?_⟩;obtain⟨f1,f2⟩:=hback k x hx hkr;exact e4 k x f1 f2 hk1
    .obtain ⟨f1,f2⟩:=hback k x hx hkr;exact s2 hk k x f1 f2
   .subst h1;rw[hln];refine⟨λw hw=>?_,λhk k x hx hkr=>?_⟩
    .split at hw
     .cases hw;rename_i h1;refine⟨⟨r,_,hnew,hvar h1,hr⟩,λk x hx hkr hk1=>?_⟩;have:=hinn k hkr;subst this;rw[hnew] at hx;cases hx;exact Int.le_refl _
     .cases hw
    .have:=hinn k hkr;subst this;rw[hnew] at hx;cases hx;split at hk
     .cases hk
     .assumption
  .rw [hup,ZC,ZU];omega
  .rw [hnd,ZC,ZU] at hk;rw[hkeyS k (by omega),hkeyL k (by omega)]
   exact h.fr k (by omega)
 refine⟨hgw,λi k r x y hx hy hx1 hy1 hi hk=>?_,hold,λσ=>?_,rfl⟩
 .have hcl:∀c d,Cl g.R [] c d->Cl (bR g t l).R [] c d:=λc d hcd=>Cl.map (rt:=g.R) (rt':=(bR g t l).R) (ps:=[]) (ps':=[]) (λc d r h1 h2=>.cls ((hRR _ _).2 (.inl h1)) ((hRR _ _).2 (.inl h2))) (λc d hm=>by cases hm) hcd
  rcases hcase i x hx with h1|⟨h1,rfl⟩
  .have hri:g.R i r:=by
    rcases(hRR _ _).1 hi with h2|⟨h2,_⟩
    .exact h2
    .subst h2;have:=(ZB.1 h1).1;omega
   have hrk:=hin k r (hp.idem _ _ hri) hk;rcases hcase k y hy with h2|⟨h2,_⟩
   .exact (hc i k r x y h1 h2 hx1 hy1 hri hrk).mono hcl
   .subst h2;exact(hRn2 _ hrk).elim
  .subst h1
   have hrn:r=i:=by
    rcases(hRR _ _).1 hi with h2|⟨_,h2⟩
    .exact (hRn2 _ h2).elim
    .exact h2
   subst hrn;have:=hinn k hk;subst this;rw[hnew] at hy;cases hy;refine⟨bq.2 ⟨rfl,rfl,rfl,rfl⟩,λj c d h1 h2=>?_⟩;rw[h1] at h2;cases h2;obtain⟨s,hs⟩:=hgw.par.tot c (ew hnds hnew h1);exact .cls hs hs
 .constructor
  .rintro ⟨h1,_⟩;refine⟨λk r hkr=>?_,λp hp=>by cases hp⟩
   have:=h1 k r ((hRR _ _).2 (.inl hkr));have hlt:=hp.lt _ _ hkr;rw[hnd,iZ hlt.1,iZ hlt.2] at this;exact this
  .rintro ⟨h1,_⟩;refine⟨λk r hkr=>?_,λp hp=>by cases hp⟩
   rcases(hRR _ _).1 hkr with h2|⟨h2,h3⟩
   .have hlt:=hp.lt _ _ h2;rw[hnd,iZ hlt.1,iZ hlt.2];exact h1 k r h2
   .rw [h2,h3]
mutual
theorem vF{N:Nat}:∀{g:Gr} (t:Tm),GW N g->aE g.nodes g.R []->t.form=true->g.up.length+t.nodes<N->vR N g (bC g t).1/\∃x:Nd,(bC g t).1.nodes[(bC g t).2]? =some x/\x.t=t
 |g,.mk k n s l,h,hc,hf,hN=>by
  by_cases hold:k=1/\∃i,lk g.vars n=some i
  .obtain ⟨hk,i,hi⟩:=hold;rw[BO (t:=.mk k n s l) hk hi];refine⟨⟨h,hc,λj x hx=>hx,λσ=>Iff.rfl,rfl⟩,?_⟩;obtain⟨x,hx,hxt⟩:=(h.vars n i).1 hi;exact⟨x,hx,by rw[hxt];exact(jY (fi _ hf) hk).symm⟩
  .have hnew:(Tm.mk k n s l).kind=1->lk g.vars (Tm.mk k n s l).num=none:=λhk=>by
    cases hl:lk g.vars n with
    |none=>exact hl
    |some i=>exact absurd ⟨hk,i,hl⟩ hold
   rw[BP hnew];simp only[Tm.nodes] at hN;have hfl:=gQ hf;obtain⟨a1,a2,a3⟩:=BR l h hc hfl (by omega)
   have hlen:=(nO g l).2
   have hv:(Tm.mk k n s l).kind=1->lk (bB g l).1.vars (Tm.mk k n s l).num=none:=λhk=>by
    have hl:l=[]:=(ix hf hk).2.2;subst hl;rw[bB];exact hnew hk
   have b:=HZ (t:=.mk k n s l) (l:=(bB g l).2) a1.gw a1.cl hf a2 a3 hv (by omega)
   exact⟨a1.trans b,⟨.mk k n s l,(bB g l).2⟩,List.getElem?_concat_length,rfl⟩
theorem BR{N:Nat}:∀{g:Gr} (l:List Tm),GW N g->aE g.nodes g.R []->Tm.bN l=true->g.up.length+Tm.ai l<N->vR N g (bB g l).1/\(bB g l).2.length=l.length/\∀(j c:Nat) (y:Tm),(bB g l).2[j]? =some c->l[j]? =some y->∃z:Nd,(bB g l).1.nodes[c]? =some z/\z.t=y
 |g,[],h,hc,_,_=>⟨⟨h,hc,λj x hx=>hx,λσ=>Iff.rfl,rfl⟩,rfl,λj c y h1 h2=>by simp at h2⟩
 |g,t::r,h,hc,hf,hN=>by
  simp only[Tm.bN,ZD] at hf;simp only[Tm.ai] at hN;obtain⟨a1,x,a2,a3⟩:=vF t h hc hf.1 (by omega)
  have hlen:=(lf g t).2;obtain⟨b1,b2,b3⟩:=BR r a1.gw a1.cl hf.2 (by omega)
  simp only[bB];refine⟨a1.trans b1,by simp only[ZX,b2],λj c y h1 h2=>?_⟩
  cases j with
  |zero=>
   simp at h1 h2;subst h1;subst h2
   exact⟨x,b1.old _ _ a2,a3⟩
  |succ j=>exact b3 j c y (by simpa using h1) (by simpa using h2)
end
end Go.CK
namespace Go.CK
open Go.AM
structure cH(g g':Gr):Prop where
 nodes:g'.nodes=g.nodes
 vars:g'.vars=g.vars
 shape:g'.shape=g.shape
 least:g'.least=g.least
 up:UpS g.up g'.up
theorem cH.refl(g:Gr):cH g g:=⟨rfl,rfl,rfl,rfl,.refl _⟩
theorem cH.trans{a b c:Gr}(h:cH a b)(k:cH b c):cH a c:=⟨k.nodes.trans h.nodes,k.vars.trans h.vars,k.shape.trans h.shape,k.least.trans h.least,h.up.trans k.up⟩
theorem cH.rr{g g':Gr}(h:cH g g')(ht:Tot g.up):g'.R=g.R:=h.up.rr ht
theorem GW.yW{N:Nat}{g g':Gr}(h:GW N g)(k:cH g g'):GW N g':=by
 obtain⟨n,v,u,s,l,kn⟩:=g';obtain⟨k1,k2,k3,k4,k5⟩:=k;simp only at k1 k2 k3 k4 k5;subst k1;subst k2;subst k3;subst k4;have:=h.upS k5;exact⟨this.len,this.tot,this.dep,this.nds,this.vars,this.shp,this.lst,this.lim,this.fr⟩
abbrev Gr.Ex(g:Gr):Nat->Tm->Prop:=Go.CK.Ex g.nodes g.R g.sh g.le
theorem cH.ex{g g':Gr}(h:cH g g')(ht:Tot g.up):g'.Ex=g.Ex:=by
 have e1:=h.rr ht;have e2:g'.sh=g.sh:=by show (λr:Nat=>lk g'.shape r)=_;rw[h.shape]
 have e3:g'.le=g.le:=by show (λr:Nat=>lk g'.least r)=_;rw[h.least]
 show Go.CK.Ex g'.nodes g'.R g'.sh g'.le=_;rw[h.nodes,e1,e2,e3]
def fa(t:Tm):Int×Int:=(min (t.sz:Int) 201,min (t.dep:Int) 21)
def bU(g:Gr):Prop:=∀(r:Nat) (m:Int×Int),lk g.known r=some m->∃t,g.Ex r t/\m=fa t
theorem cH.known{g g':Gr}(h:cH g g')(ht:Tot g.up)(hk:g'.known=g.known)(k:bU g):bU g':=by
 unfold bU;rw[h.ex ht,hk];exact k
def H7(g:Gr)(busy:List Int)(r:Nat):Prop:=∀σ,Sat g.nodes g.R [] σ->∀k:Nat,(k:Int)∈busy->(gv g.nodes σ r).nodes<(gv g.nodes σ k).nodes
def nuB(n:Nat)(busy:List Int):Nat:=(List.range n).countP λ(k:Nat)=>decide (¬((k:Nat):Int)∈busy)
theorem Kh{n r:Nat}{busy:List Int}(hr:r<n)(hb:¬(r:Int)∈busy):nuB n (busy++[(r:Int)])<nuB n busy:=by
 refine oh (a:=r) (λk _ hk=>?_) (Zd.2 hr) (decide_eq_true hb) (decide_eq_false ?_)
 .rw [decide_eq_true_iff] at hk|-;exact λe=>hk (Zy _ e)
 .exact λe=>e (by simp)
theorem kP:∀{l:List Tm} {x:Tm},x∈l->x.nodes<=Tm.ai l
 |y::l,x,h=>by
  simp only[Tm.ai];rcases ZI.1 h with rfl|h
  .omega
  .have:=kP h;omega
abbrev sE(g:Gr):Prop:=∀σ,¬Sat g.nodes g.R [] σ
theorem cH.GL{g g':Gr}(h:cH g g')(ht:Tot g.up):sE g'↔sE g:=by
 unfold sE;rw[h.nodes,h.rr ht]
theorem cH.busy{g g':Gr}(h:cH g g')(ht:Tot g.up){busy:List Int}{r:Nat}(k:H7 g busy r):H7 g' busy r:=by
 unfold H7;rw[h.nodes,h.rr ht];exact k
def KnM(g g':Gr):Prop:=∀k:Int,lk g.known k≠none->lk g'.known k≠none
def foldM(m:Int×Int)(ts:List Tm):Int×Int:=(min (m.1+Tm.szs ts) 201,min (max m.2 (Tm.eE ts+1)) 21)
theorem xt{N:Nat}{g0:Gr}(h0:GW N g0){M:Gr->Nat->Option (Gr×Option (Int×Int))}{kd:List Nat}
  (hM:∀(g:Gr) (c x:Nat),c∈kd->cH g0 g->bU g->g0.R c x->∃g2 mo,M g x=some (g2,mo)/\cH g g2/\KnM g g2/\(mo=none->sE g0)/\∀m,mo=some m->bU g2/\∃t,g0.Ex x t/\m=fa t):
  ∀(xs:List Nat) (g:Gr) (m0:Int×Int),(∀x∈xs,x∈kd/\x<g0.nodes.length)->cH g0 g->bU g->0<=m0.1/\m0.1<=201/\1<=m0.2/\m0.2<=21->∃g2 mo,ng N M g xs m0=some (g2,mo)/\cH g0 g2/\KnM g g2/\(mo=none->sE g0)/\∀m,mo=some m->bU g2/\∃ts:List Tm,ts.length=xs.length/\(∀(j c s:Nat) (y:Tm),xs[j]? =some c->g0.R c s->ts[j]? =some y->g0.Ex s y)/\m=foldM m0 ts
 |[],g,m0,_,hl,hk,hm=>by
  refine⟨g,some m0,rfl,hl,λk h=>h,λe=>(by cases e),λm e=>?_⟩
  cases e;refine⟨hk,[],rfl,λj c s y h=>by simp at h,?_⟩
  obtain⟨a,b⟩:=m0;simp only at hm;simp only[foldM,Tm.szs,Tm.eE]
  congr 1<;>omega
 |x::xs,g,m0,hx,hl,hk,hm=>by
  have hg:=h0.yW hl;have hlt:x<g.up.length:=by rw[hl.up.1,h0.len];exact(hx x (ZV ..)).2
  obtain⟨u,r,e1,e2,e3⟩:=hg.root hlt;have hl2:cH g {g with up:=u}:=⟨rfl,rfl,rfl,rfl,e2⟩;have hl02:=hl.trans hl2;have hr0:g0.R x r:=by rw[hl.rr h0.tot] at e3;exact e3
  obtain⟨g2,mo,f1,f2,f3,f4,f5⟩:=hM _ x r (hx x (ZV ..)).1 hl02 (hl2.known hg.tot rfl hk) hr0
  cases mo with
  |none=>
   refine⟨g2,none,by simp only[ng,e1,f1],hl02.trans f2,f3,λ_=>f4 rfl,λm e=>by cases e⟩
  |some c=>
   obtain⟨k2,t,ht,hc⟩:=f5 c rfl;have hszp:=yj t;have hdp:=og t;have hc1:c.1=min (t.sz:Int) 201:=by rw[hc];rfl
   have hc2:c.2=min (t.dep:Int) 21:=by rw[hc];rfl
   have hup:g2.up.length=g.up.length:=by rw[f2.up.1];exact e2.1
   have hcond:0<=c.1/\c.1<=201/\0<=c.2/\c.2<=21/\g2.up.length=g.up.length:=by
    refine⟨?_,?_,?_,?_,hup⟩<;>omega
   obtain⟨g3,mo3,q1,q2,q3,q4,q5⟩:=xt h0 hM xs g2 (min (m0.1+c.1) 201,min (max m0.2 (c.2+1)) 21) (λy hy=>hx y (ZQ _ hy)) (hl02.trans f2) k2 (by refine⟨?_,?_,?_,?_⟩<;>dsimp only<;>omega)
   refine⟨g3,mo3,by simp only[ng,e1,f1,if_pos hcond];exact q1,q2,λk h=>q3 k (f3 k h),q4,λm e=>?_⟩
   obtain⟨s1,ts,s2,s3,s4⟩:=q5 m e;refine⟨s1,t::ts,by simp only[ZX,s2],λj c' s y h1 h2 h3=>?_,?_⟩
   .cases j with
    |zero=>
     simp at h1 h3;subst h1;subst h3
     rw[h0.par.det _ _ _ h2 hr0];exact ht
    |succ j=>exact s3 j c' s y (by simpa using h1) h2 (by simpa using h3)
   .rw [s4];simp only[foldM,Tm.szs,Tm.eE];congr 1<;>omega
theorem xu{N:Nat}:∀(f:Nat) (g:Gr) (busy:List Int) (r:Nat),GW N g->bU g->g.R r r->H7 g busy r->nuB g.nodes.length busy<f->∃g' mo,dP N f g busy r=some (g',mo)/\cH g g'/\KnM g g'/\(mo=none->sE g)/\∀m,mo=some m->bU g'/\lk g'.known r≠none/\∃t,g.Ex r t/\m=fa t
 |0,g,busy,r,_,_,_,_,h=>by omega
 |f+1,g,busy,r,hg,hk,hr,hb,hf=>by
  have hp:=hg.par;have hrlt:=(hp.lt _ _ hr).1
  cases hkn:lk g.known r with
  |some m=>
   refine⟨g,some m,by simp only[dP,hkn],.refl g,λk h=>h,λe=>(by cases e),λm' e=>?_⟩
   cases e
   exact⟨hk,by rw[hkn];simp,hk r m hkn⟩
  |none=>
   by_cases hbr:(r:Int)∈busy
   .refine ⟨g,none,by simp only[dP,hkn,if_pos hbr],.refl g,λk h=>h,λ_ σ hs=>?_,λm e=>by cases e⟩
    have:=hb σ hs r hbr;omega
   .have hpt:∀(g2:Gr) (m:Int×Int) (t:Tm),cH g g2->bU g2->g.Ex r t->m=fa t->bU {g2 with known:=pt g2.known r m}/\KnM g2 {g2 with known:=pt g2.known r m}/\lk (pt g2.known r m) r≠none:=λg2 m t hl h1 h2 h3=>by
     refine⟨λq m' hq=>?_,λk hk=>?_,by rw[dC,if_pos rfl];simp⟩
     .have hq:lk (pt g2.known r m) q=some m':=hq;rw[dC] at hq
      by_cases e:(q:Int)=(r:Int)
      .rw [if_pos e] at hq;cases hq;have:q=r:=by omega
       subst this;refine⟨t,?_,h3⟩;show g2.Ex q t;rw[hl.ex hg.tot];exact h2
      .rw [if_neg e] at hq;exact h1 q m' hq
     .show lk (pt g2.known r m) k≠none;rw[dC];split
      .simp
      .exact hk
    cases hs:lk g.shape r with
    |none=>
     have ⟨s1,s2⟩:=hg.lst r hr
     have hle:∃w,lk g.least r=some w:=by
      cases hl:lk g.least r with
      |some w=>exact⟨w,rfl⟩
      |none=>
       exfalso;have hx:=ZA hrlt;exact s2 hl r _ hx hr ((hg.shp r hr).2 hs r _ hx hr)
     obtain⟨w,hw⟩:=hle;have hex:g.Ex r (az w):=.var hr hs hw;obtain⟨k1,k2,k3⟩:=hpt g (1,1) _ (.refl g) hk hex rfl;refine⟨{g with known:=pt g.known r (1,1)},some (1,1),by simp only[dP,hkn,if_neg hbr,hs],⟨rfl,rfl,rfl,rfl,.refl _⟩,k2,λe=>(by cases e),λm e=>?_⟩
     cases e
     exact⟨k1,k3,_,hex,rfl⟩
    |some k=>
     obtain⟨d,d1,d2,d3⟩:=(hg.shp r hr).1 k hs;have hsix:=qe hg.nds d1;have hlen:=hg.nds.len _ _ d1
     have hkind:∀c,c∈d.kids->d.t.kind=2:=λc hc=>by
      by_cases h2:d.t.kind=2
      .exact h2
      .have:=fh (hg.nds.frm _ _ d1) d2 h2;rw[this] at hlen;have:d.kids=[]:=ZL hlen;rw[this] at hc;cases hc
     have hchild:∀c x,c∈d.kids->g.R c x->H7 g (busy++[(r:Int)]) x:=λc x hc hcx σ hσ j hj=>by
      have h2:=hkind c hc
      have hlt:(gv g.nodes σ x).nodes<(gv g.nodes σ r).nodes:=by
       rw[<-hσ.1 _ _ hcx,<-hσ.1 _ _ d3,ph hg.nds d1 σ h2];have:=kP (YV (f:=gv g.nodes σ) hc);simp only[Tm.nodes];omega
      rcases ZY.1 hj with hj|hj
      .have:=hb σ hσ j hj;omega
      .rw [Zp] at hj;have:j=r:=by omega
       rw[this];exact hlt
     have hnu:=Kh hrlt hbr
     have hM:∀(g1:Gr) (c x:Nat),c∈d.kids->cH g g1->bU g1->g.R c x->∃g2 mo,dP N f g1 (busy++[(r:Int)]) x=some (g2,mo)/\cH g1 g2/\KnM g1 g2/\(mo=none->sE g)/\∀m,mo=some m->bU g2/\∃t,g.Ex x t/\m=fa t:=λg1 c x hc hl hk1 hcx=>by
      obtain⟨g2,mo,q1,q2,q3,q4,q5⟩:=xu f g1 (busy++[(r:Int)]) x (hg.yW hl) hk1 (by rw[hl.rr hg.tot];exact hp.idem _ _ hcx) (hl.busy hg.tot (hchild c x hc hcx)) (by rw[hl.nodes];omega)
      refine⟨g2,mo,q1,q2,q3,λe=>(hl.GL hg.tot).1 (q4 e),λm e=>?_⟩;obtain⟨s1,_,t,s3,s4⟩:=q5 m e;exact⟨s1,t,by rw[hl.ex hg.tot] at s3;exact s3,s4⟩
     have hkd:∀x∈d.kids,x∈d.kids/\x<g.nodes.length:=λx hx=>by
      obtain⟨j,hj⟩:=YQ hx;exact⟨hx,ew hg.nds d1 hj⟩
     obtain⟨g2,mo,q1,q2,q3,q4,q5⟩:=xt hg (M:=λg x=>dP N f g (busy++[(r:Int)]) x) hM d.kids g (1,1) hkd (.refl g) hk ⟨by decide,by decide,by decide,by decide⟩
     cases mo with
     |none=>
      refine⟨g2,none,by simp only[dP,hkn,if_neg hbr,hs,d1];rw[if_pos (by omega),q1],q2,q3,λ_=>q4 rfl,λm e=>by cases e⟩
     |some m=>
      obtain⟨s1,ts,s2,s3,s4⟩:=q5 m rfl
      have hex:∃t,g.Ex r t/\m=fa t:=by
       by_cases ha:d.t.args=[]
       .refine ⟨d.t,.leaf hr hs d1 ha,?_⟩;have hts:ts=[]:=ZL (by rw[s2,hlen,ha];rfl)
        subst hts
        have e1:d.t.sz=1:=by
         by_cases h2:d.t.kind=2
         .rw [mM h2,ha];rfl
         .exact pF h2
        have e2:d.t.dep=1:=by
         by_cases h2:d.t.kind=2
         .rw [ja h2,ha];rfl
         .exact qo h2
        rw[s4,fa,e1,e2];rfl
       .have h2:d.t.kind=2:=by
         cases hkids:d.kids with
         |nil=>rw[hkids] at hlen;exact absurd (ZL hlen.symm) ha
         |cons c l=>exact hkind c (by rw[hkids];exact ZV ..)
        refine⟨_,.fn hr hs d1 ha s2 s3,?_⟩;have e1:(Tm.mk d.t.kind d.t.num d.t.name ts).sz=1+Tm.szs ts:=mM (t:=Tm.mk d.t.kind d.t.num d.t.name ts) h2;have e2:(Tm.mk d.t.kind d.t.num d.t.name ts).dep=Tm.eE ts+1:=ja (t:=Tm.mk d.t.kind d.t.num d.t.name ts) h2;rw[s4,fa,e1,e2];simp only[foldM];congr 1<;>omega
      obtain⟨t,ht,hm⟩:=hex;obtain⟨k1,k2,k3⟩:=hpt g2 m t q2 s1 ht hm;refine⟨{g2 with known:=pt g2.known r m},some m,by simp only[dP,hkn,if_neg hbr,hs,d1];rw[if_pos (by omega),q1],⟨q2.nodes,q2.vars,q2.shape,q2.least,q2.up⟩,λk h=>k2 k (q3 k h),λe=>(by cases e),λm' e=>?_⟩
      cases e;exact⟨k1,k3,t,ht,hm⟩
end Go.CK
