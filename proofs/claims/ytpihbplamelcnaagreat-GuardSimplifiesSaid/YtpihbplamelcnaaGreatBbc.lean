/-
  Texts of this aZ joined (wip/gen/bundle.py),those declarations only that are needed:UlH UnT UnU UnW UlI UlJ UnX. By an AI agent.
-/
import Derived.Test.YtpihbplamelcnaaGreatBbb
set_option linter.unusedSimpArgs false
set_option linter.unusedVariables false
set_option maxRecDepth 100000
namespace Go.CK
open Go.AM
theorem Iv{l:List Tm}{x:Tm}(h:x∈l):x.dep<=Tm.ej l:=xu h
theorem EX{N:Nat}{g0:Gr}(h0:GW N g0){M:Gr->Nat->Option (Gr×Tm)}{kd:List Nat}{ex:Nat->Tm}
  (hM:∀(g:Gr) (c x:Nat),c∈kd->da g0 g->g0.R c x->∃g2,M g x=some (g2,ex x)/\da g g2):
  ∀(xs:List Nat) (g:Gr),(∀x∈xs,x∈kd/\x<g0.nodes.length)->da g0 g->∃g2 ts,xk N M g xs=some (g2,ts)/\da g0 g2/\ts.length=xs.length/\∀(j c s:Nat),xs[j]? =some c->g0.R c s->ts[j]? =some (ex s)
 |[],g,_,hl=>⟨g,[],rfl,hl,rfl,λj c s h=>by simp at h⟩
 |x::xs,g,hx,hl=>by
  have hg:=h0.CE hl;have hlt:x<g.up.length:=by rw[hl.up.1,h0.len];exact(hx x (zV ..)).2
  obtain⟨u,r,e1,e2,e3⟩:=hg.root hlt;have hl2:da g {g with up:=u}:=⟨rfl,rfl,rfl,rfl,e2⟩;have hl02:=hl.trans hl2;have hr0:g0.R x r:=by rw[hl.rr h0.tot] at e3;exact e3
  obtain⟨g2,f1,f2⟩:=hM _ x r (hx x (zV ..)).1 hl02 hr0;have hup:g2.up.length=g.up.length:=by rw[f2.up.1];exact e2.1
  obtain⟨g3,ts,q1,q2,q3,q4⟩:=EX h0 hM xs g2 (λy hy=>hx y (zQ _ hy)) (hl02.trans f2);refine⟨g3,ex r::ts,by simp only[xk,e1,f1,if_pos hup,q1],q2,by simp only[zX,q3],λj c s h1 h2=>?_⟩
  cases j with
  |zero=>
   simp at h1;subst h1
   rw[h0.par.det _ _ _ h2 hr0];rfl
  |succ j=>exact q4 j c s (by simpa using h1) h2
theorem EY{N:Nat}:∀(f:Nat) (g:Gr) (r:Nat) (t:Tm),GW N g->g.Ex r t->t.dep<=f->∃g',nU N f g r=some (g',t)/\da g g'
 |0,g,r,t,_,_,h=>by have:=pF t;omega
 |f+1,g,r,t,hg,ht,hf=>by
  have hp:=hg.par;generalize htt:t=t' at ht
  cases ht with
  |var h h1 h2=>
   rename_i w;have h1:lk g.shape r=none:=h1;have h2:lk g.least r=some w:=h2
   exact⟨g,by simp only[nU,h1,lkD,h2],.refl g⟩
  |leaf h h1 h2 h3=>
   rename_i k x;have h1:lk g.shape r=some k:=h1
   exact⟨g,by simp only[nU,h1,h2];rw[if_pos (by rw[h3];rfl)],.refl g⟩
  |fn h h1 h2 h3 h4 h5=>
   rename_i k x ts;have h1:lk g.shape r=some k:=h1;have hlen:=hg.nds.len _ _ h2;have hsix:=sn hg.nds h2
   have hk2:x.t.kind=2:=by
    obtain⟨x',e1,e2,_⟩:=(hg.shp r h).1 k h1;rw[h2] at e1;cases e1
    by_cases hk:x.t.kind=2
    .exact hk
    .have:=fW (hg.nds.frm _ _ h2) e2 hk;rw[this] at h3;exact absurd rfl h3
   have hdep:t.dep=Tm.ej ts+1:=by rw[htt];exact ku (t:=Tm.mk x.t.kind x.t.num x.t.name ts) hk2
   have hne:¬x.t.args.length=0:=λe=>h3 (zL e)
   --the terms of the arguments' classes,by class
   have hex:∃ex:Nat->Tm,∀(j c s:Nat) (y:Tm),x.kids[j]? =some c->g.R c s->ts[j]? =some y->ex s=y:=by
    classical
    refine⟨λs=>if h:∃y,g.Ex s y then h.choose else bc 0,λj c s y a1 a2 a3=>?_⟩;have hy:=h5 j c s y a1 a2 a3;have he:∃y,g.Ex s y:=⟨y,hy⟩;simp only[dif_pos he];exact he.choose_spec.det hg.nds hp hy
   obtain⟨ex,hex⟩:=hex
   have hM:∀(g1:Gr) (c s:Nat),c∈x.kids->da g g1->g.R c s->∃g2,nU N f g1 s=some (g2,ex s)/\da g1 g2:=λg1 c s hc hl hcs=>by
    obtain⟨j,hj⟩:=ZS hc;have hlt:=(zB.1 hj).1;have e1:ts[j]? =some (ts[j]'(by omega)):=zA (by omega)
    have e2:=h5 j c s _ hj hcs e1;have e3:=hex j c s _ hj hcs e1;rw[e3];have hd:=Iv (zE e1);obtain⟨g2,q1,q2⟩:=EY f g1 s _ (hg.CE hl) (by rw[hl.ex hg.tot];exact e2) (by omega)
    exact⟨g2,q1,q2⟩
   have hkd:∀y∈x.kids,y∈x.kids/\y<g.nodes.length:=λy hy=>by
    obtain⟨j,hj⟩:=ZS hy;exact⟨hy,fh hg.nds h2 hj⟩
   obtain⟨g2,ts2,q1,q2,q3,q4⟩:=EX hg (M:=nU N f) hM x.kids g hkd (.refl g)
   have hts:ts2=ts:=by
    apply Zv;intro j
    cases hc:x.kids[j]? with
    |none=>
     rw[ZK] at hc
     rw[ZK.2 (by omega),ZK.2 (by omega)]
    |some c=>
     have hlt:=(zB.1 hc).1;obtain⟨s,hs⟩:=hp.tot c (fh hg.nds h2 hc);have e1:ts[j]? =some (ts[j]'(by omega)):=zA (by omega)
     rw[q4 j c s hc hs,e1,hex j c s _ hc hs e1]
   subst hts;refine⟨g2,?_,q2⟩;simp only[nU,h1,h2];rw[if_neg hne,if_pos ⟨hlen,by omega⟩,q1]
theorem vG{N f:Nat}:∀(ks:List Nat) (g:Gr),GW N g->cy g->(∀k∈ks,k<g.nodes.length)->nuB g.nodes.length []<f->∃g' b,mz N f ks g=some (g',b)/\da g g'/\(b=false->uC g)/\(b=true->cy g'/\KnM g g'/\∀k∈ks,∀r,g.R k r->lk g'.known r≠none)
 |[],g,hg,hk,_,_=>⟨g,true,rfl,.refl g,λe=>(by cases e),λ_=>⟨hk,λk h=>h,λk h=>by cases h⟩⟩
 |k::ks,g,hg,hk,hks,hf=>by
  have hlt:k<g.up.length:=by rw[hg.len];exact hks k (zV ..)
  obtain⟨u,r,e1,e2,e3⟩:=hg.root hlt;have hl:da g {g with up:=u}:=⟨rfl,rfl,rfl,rfl,e2⟩;have hg1:=hg.CE hl;have hrr:=hg.par.idem _ _ e3;obtain⟨g2,mo,q1,q2,q3,q4,q5⟩:=A0 f {g with up:=u} [] r hg1 (hl.known hg.tot rfl hk) (by rw[hl.rr hg.tot];exact hrr) (λσ _ j hj=>by cases hj) hf
  have hl2:=hl.trans q2
  cases mo with
  |none=>
   exact⟨g2,false,by simp only[mz,e1,q1],hl2,λ_=>(hl.KX hg.tot).1 (q4 rfl),λe=>by cases e⟩
  |some m=>
   obtain⟨s1,s2,_⟩:=q5 m rfl;obtain⟨g3,b,p1,p2,p3,p4⟩:=vG ks g2 (hg.CE hl2) s1 (λj hj=>by rw[hl2.nodes];exact hks j (zQ _ hj)) (by rw[hl2.nodes];exact hf)
   refine⟨g3,b,by simp only[mz,e1,q1];exact p1,hl2.trans p2,λe=>(hl2.KX hg.tot).1 (p3 e),λe=>?_⟩
   obtain⟨t1,t2,t3⟩:=p4 e;refine⟨t1,λj h=>t2 j (q3 j h),λj hj s hs=>?_⟩;rcases zI.1 hj with rfl|hj
   .rw [hg.par.det _ _ _ hs e3];exact t2 _ s2
   .exact t3 j hj s (by rw[hl2.rr hg.tot];exact hs)
theorem xj{N:Nat}{M:Gr->Nat->Option (Gr×Tm)}(hM:∀{g r g2 t},M g r=some (g2,t)->g2.known=g.known):∀{xs:List Nat} {g g2:Gr} {l:List Tm},xk N M g xs=some (g2,l)->g2.known=g.known
 |[],g,g2,l,h=>by cases h;rfl
 |x::xs,g,g2,l,h=>by
  rw[xk] at h;split at h
  .cases h
  .split at h
   .cases h
   .rename_i h1;split at h
    .split at h
     .cases h
     .rename_i h2;cases h;have h3:=xj hM h2;have h4:=hM h1;exact h3.trans h4
    .cases h
theorem xn{N:Nat}:∀{f:Nat} {g g2:Gr} {r:Nat} {t:Tm},nU N f g r=some (g2,t)->g2.known=g.known
 |0,g,g2,r,t,h=>by cases h
 |f+1,g,g2,r,t,h=>by
  rw[nU] at h;split at h
  .cases h;rfl
  .split at h
   .cases h
   .split at h
    .cases h;rfl
    .split at h
     .split at h
      .cases h
      .rename_i h1;cases h;exact xj (M:=nU N f) (λ{g r g2 t} h=>xn (f:=f) h) h1
     .cases h
theorem mc(t:Tm):(200<(fQ t).1\/20<(fQ t).2)↔¬fits t:=by
 unfold fQ fits;dsimp only;omega
noncomputable def boundsOf(M:Int->Tm)(vs:List Int):List Bnd:=(vs.filter λv=>decide (¬M v=bc v)).map λv=>⟨v,M v⟩
theorem vw{N f:Nat}(hf:20<=f){g0:Gr}(h0:GW N g0)(hkn:cy g0)(hall:∀r:Nat,g0.R r r->lk g0.known r≠none):∀(vs:List Int) (g:Gr) (out:List Bnd),da g0 g->g.known=g0.known->(∀v∈vs,lk g0.vars v≠none)->
  ∃g' ro,jv N f vs g out=some (g',ro)/\((ro=some (out++boundsOf (mguM g0.nodes g0.R g0.sh g0.le) vs)/\∀v∈vs,¬mguM g0.nodes g0.R g0.sh g0.le v=bc v->fits (mguM g0.nodes g0.R g0.sh g0.le v))\/(ro=none/\∃v∈vs,¬mguM g0.nodes g0.R g0.sh g0.le v=bc v/\¬fits (mguM g0.nodes g0.R g0.sh g0.le v)))
 |[],g,out,_,_,_=>⟨g,some out,rfl,.inl ⟨by simp[boundsOf],λv h=>by cases h⟩⟩
 |v::vs,g,out,hl,hk,hvs=>by
  have hg:=h0.CE hl;have hp:=h0.par;obtain⟨M,hM⟩:∃M,M=mguM g0.nodes g0.R g0.sh g0.le:=⟨_,rfl⟩;have ih:=λg' out' a b=>vw hf h0 hkn hall vs g' out' a b (λw hw=>hvs w (zQ _ hw));rw[<-hM] at ih|-
  cases hvk:lk g0.vars v with
  |none=>exact absurd hvk (hvs v (zV ..))
  |some k=>
   obtain⟨x,x1,x2⟩:=(h0.vars v k).1 hvk;have hklt:=(zB.1 x1).1;obtain⟨u,r,e1,e2,e3⟩:=hg.root (k:=k) (by rw[hl.up.1,h0.len];exact hklt)
   have hl2:da g {g with up:=u}:=⟨rfl,rfl,rfl,rfl,e2⟩;have hl02:=hl.trans hl2;have hr0:g0.R k r:=by rw[hl.rr h0.tot] at e3;exact e3
   have hrr:=hp.idem _ _ hr0;have hgv:lk g.vars v=some k:=by rw[hl.vars];exact hvk
   cases hkr:lk g0.known r with
   |none=>exact absurd hkr (hall r hrr)
   |some m=>
    obtain⟨t,ht,hm⟩:=hkn r m hkr;have hMv:M v=t:=by rw[hM];exact mY h0.nds hp x1 x2 hr0 ht
    have hskip:(lk g.shape r=none/\lkD g.least r=v)↔M v=bc v:=by
     rw[hMv,hl.shape,hl.least];obtain⟨s1,s2⟩:=h0.shp r hrr;generalize htt:t=t' at ht
     cases ht with
     |var h h1 h2=>
      rename_i w;have h1:lk g0.shape r=none:=h1;have h2:lk g0.least r=some w:=h2;rw[show lkD g0.least r=w by rw[lkD,h2],h1]
      exact⟨λe=>by rw[e.2],λe=>⟨rfl,qZ e⟩⟩
     |leaf h h1 h2 h3=>
      rename_i q y;have h1:lk g0.shape r=some q:=h1;rw[h1];refine⟨λe=>(by cases e.1),λe=>?_⟩
      obtain⟨y',f1,f2,_⟩:=s1 q h1;rw[h2] at f1;cases f1
      rw[e] at f2;exact absurd rfl f2
     |fn h h1 h2 h3 h4 h5=>
      rename_i q y ts;have h1:lk g0.shape r=some q:=h1;rw[h1];refine⟨λe=>(by cases e.1),λe=>?_⟩
      obtain⟨y',f1,f2,_⟩:=s1 q h1;rw[h2] at f1;cases f1;exact absurd (congrArg Tm.kind e) f2
    by_cases hs:M v=bc v
    .obtain ⟨g',ro,q1,q2⟩:=ih {g with up:=u} out hl02 hk;refine⟨g',ro,by simp only[jv,hgv,e1,if_pos (hskip.2 hs)];exact q1,?_⟩
     have hb:boundsOf M (v::vs)=boundsOf M vs:=by unfold boundsOf;rw[yC (by simp[hs])]
     rw[hb];rcases q2 with ⟨h1,h2⟩|⟨h1,w,h2,h3⟩
     .exact .inl ⟨h1,λw hw hn=>by
       rcases zI.1 hw with rfl|hw
       .exact absurd hs hn
       .exact h2 w hw hn⟩
     .exact .inr ⟨h1,w,zQ _ h2,h3⟩
    .have hns:¬(lk g.shape r=none/\lkD g.least r=v):=λe=>hs (hskip.1 e);have hgk:lk g.known r=some m:=by rw[hk];exact hkr
     by_cases hbig:200<m.1\/20<m.2
     .refine ⟨{g with up:=u},none,by simp only[jv,hgv,e1,if_neg hns,hgk,if_pos hbig],.inr ⟨rfl,v,zV ..,hs,?_⟩⟩
      rw[hMv,<-mc,<-hm];exact hbig
     .have hfit:fits t:=by
       have:=mt (mc t).2;rw[<-hm] at this;exact Decidable.byContradiction λe=>hbig ((by rw[hm];exact(mc t).2 e))
      obtain⟨g2,q1,q2⟩:=EY f {g with up:=u} r t (h0.CE hl02) (by rw[hl02.ex h0.tot];exact ht) (by have:=hfit.2;omega)
      have hup:g2.up.length=g.up.length:=by rw[q2.up.1];exact e2.1
      have hk2:g2.known=g.known:=by have h3:=xn q1;exact h3
      obtain⟨g',ro,p1,p2⟩:=ih g2 (out++[⟨v,t⟩]) (hl02.trans q2) (hk2.trans hk);refine⟨g',ro,by simp only[jv,hgv,e1,if_neg hns,hgk,if_neg hbig,q1,if_pos hup];exact p1,?_⟩
      have hb:boundsOf M (v::vs)=⟨v,t⟩::boundsOf M vs:=by unfold boundsOf;rw[yY (by simp[hs]),zP,hMv]
      rw[hb];rcases p2 with ⟨h1,h2⟩|⟨h1,w,h2,h3⟩
      .refine .inl ⟨by rw[h1,zg];rfl,λw hw hn=>?_⟩
       rcases zI.1 hw with rfl|hw
       .rw [hMv];exact hfit
       .exact h2 w hw hn
      .exact .inr ⟨h1,w,zQ _ h2,h3⟩
theorem Kl(l:List Int):(iy l).Pairwise (·<=·):=by
 have:=List.pairwise_mergeSort (le:=λx y:Int=>decide (x<=y)) (λa b c h1 h2=>by simp only[decide_eq_true_eq] at*;omega) (λa b=>by simp only[ZN,decide_eq_true_eq];omega) l
 exact this.imp λh=>by simpa using h
theorem qh(l:List Int):(iy l).Perm l:=List.mergeSort_perm l _
theorem Kk{l:List Int}(h:l.Nodup):(iy l).Pairwise (·<·):=by
 have h1:=Kl l;have h2:(iy l).Nodup:=(qh l).nodup_iff.2 h;exact(h1.and h2).imp λ⟨a,b⟩=>by omega
theorem GH{β:Type}:∀{l:List (Int×β)} {n:Int},lk l n≠none↔n∈l.map (·.1)
 |[],n=>by simp[lk]
 |(k,x)::l,n=>by
  simp only[lk,zP,zI];split
  .rename_i h;simp[h]
  .rename_i h;rw[GH (l:=l)];simp[h]
def Rng(out:List Bnd):Prop:=∀c∈out,0<=c.v/\c.v<=1048576/\c.t.form=true
theorem Rng.nil:Rng []:=λc h=>by cases h
theorem DA{N f:Nat}{g:Gr}(hg:GW N g)(hc:aK g.nodes g.R [])(hk:g.known=[])(hnd:(g.vars.map (·.1)).Nodup)(hf:g.nodes.length<f)(hf20:20<=f):∃out e,mv N f g=some (out,e)/\Ans (Sat g.nodes g.R []) out e/\Rng out:=by
 have hnu:nuB g.nodes.length []<f:=by
  unfold nuB;have:=yB (p:=λ(k:Nat)=>decide (¬((k:Nat):Int)∈([]:List Int))) (l:=List.range g.nodes.length);rw[Zw] at this;omega
 have hk0:cy g:=λr m h=>by rw[hk] at h;cases h
 obtain⟨g1,b,q1,q2,q3,q4⟩:=vG (N:=N) (f:=f) (List.range g.nodes.length) g hg hk0 (λk h=>zd.1 h) hnu
 cases b with
 |false=>exact⟨[],13,by simp only[mv,q1],.inl ⟨q3 rfl,rfl,rfl⟩,.nil⟩
 |true=>
  obtain⟨s1,_,s3⟩:=q4 rfl;have hg1:=hg.CE q2
  have hall:∀r:Nat,g1.R r r->lk g1.known r≠none:=λr hr=>by
   rw[q2.rr hg.tot] at hr;exact s3 r (zd.2 (hg.par.lt _ _ hr).1) r hr
  have hex:∀r,g.R r r->∃t,g.Ex r t:=λr hr=>by
   have h1:=hall r (by rw[q2.rr hg.tot];exact hr)
   cases hkr:lk g1.known r with
   |none=>exact absurd hkr h1
   |some m=>
    obtain⟨t,ht,_⟩:=s1 r m hkr;rw[q2.ex hg.tot] at ht;exact⟨t,ht⟩
  have hm:=K5 hg.nds hg.par hg.shp hg.lst hc hex
  have hM:mguM g1.nodes g1.R g1.sh g1.le=mguM g.nodes g.R g.sh g.le:=by
   have e2:g1.sh=g.sh:=by show (λr:Nat=>lk g1.shape r)=_;rw[q2.shape]
   have e3:g1.le=g.le:=by show (λr:Nat=>lk g1.least r)=_;rw[q2.least]
   rw[q2.nodes,q2.rr hg.tot,e2,e3]
  have hvs:∀v∈iy (g1.vars.map (·.1)),lk g1.vars v≠none:=λv hv=>GH.2 ((qh _).mem_iff.1 hv);obtain⟨g2,ro,p1,p2⟩:=vw (N:=N) (f:=f) hf20 hg1 s1 hall (iy (g1.vars.map (·.1))) g1 [] (.refl g1) rfl hvs;rw[hM] at p2;obtain⟨M,hMM⟩:∃M,M=mguM g.nodes g.R g.sh g.le:=⟨_,rfl⟩;rw[<-hMM] at p2 hm;rcases p2 with ⟨rfl,h2⟩|⟨rfl,v,h2,h3,h4⟩
  .refine ⟨boundsOf M (iy (g1.vars.map (·.1))),0,by simp only[mv,q1,p1,Zo],.inr ⟨M,hm,.inl ⟨⟨?_,λv t=>?_⟩,λc hcm=>?_,rfl⟩⟩,λc hcm=>?_⟩
   .unfold boundsOf;rw[List.map_map];have:(iy (g1.vars.map (·.1))).Pairwise (·<·):=Kk (by rw[q2.vars];exact hnd)
    have h5:=this.filter (λv=>decide (¬M v=bc v));rw[List.pairwise_map];exact h5
   .unfold boundsOf;rw[zk];constructor
    .rintro ⟨w,hw,e⟩;cases e;rw[zo,decide_eq_true_iff] at hw;exact⟨rfl,hw.2⟩
    .rintro ⟨rfl,hv⟩;refine⟨v,?_,rfl⟩;rw[zo,decide_eq_true_iff];refine⟨(qh _).mem_iff.2 (GH.1 ?_),hv⟩;rw[q2.vars];intro hn;apply hv;rw[hMM];refine sc ?_;rintro⟨k,x,e1,e2⟩;have:=(hg.vars v k).2 ⟨x,e1,e2⟩;rw[hn] at this;cases this
   .unfold boundsOf at hcm;obtain⟨w,hw,rfl⟩:=zk.1 hcm;rw[zo,decide_eq_true_iff] at hw;exact h2 w hw.1 hw.2
   .unfold boundsOf at hcm;obtain⟨w,hw,rfl⟩:=zk.1 hcm;rw[zo] at hw;have hwv:=hvs w hw.1
    cases hlk:lk g1.vars w with
    |none=>exact absurd hlk hwv
    |some k=>
     rw[q2.vars] at hlk;obtain⟨x,x1,x2⟩:=(hg.vars w k).1 hlk;have hfx:=hg.nds.frm _ _ x1;have hv:=jO hfx (by rw[x2];rfl)
     rw[x2] at hv;obtain⟨r,hr⟩:=hg.par.tot k (zB.1 x1).1;obtain⟨t,ht⟩:=hex r (hg.par.idem _ _ hr);refine⟨hv.1,hv.2.1,?_⟩;show (M w).form=true;rw[hMM,mY hg.nds hg.par x1 x2 hr ht];exact ht.form hg.nds hg.par hg.shp hg.lst
  .exact ⟨[],6,by simp only[mv,q1,p1],.inr ⟨M,hm,.inr ⟨⟨v,h3,h4⟩,rfl,rfl⟩⟩,.nil⟩
theorem DJ{nds:List Nd}{rt:Nat->Nat->Prop}{i k:Nat}{σ:Int->Tm}:Sat nds rt [(i,k)] σ↔Sat nds rt [] σ/\gv nds σ i=gv nds σ k:=
 ⟨λh=>⟨⟨h.1,λp hp=>by cases hp⟩,h.2 (i,k) (zp.2 rfl)⟩,λh=>⟨h.1.1,λp hp=>by rw[zp] at hp;subst hp;exact h.2⟩⟩
theorem oW{nds:List Nd}{rt:Nat->Nat->Prop}{ps:List (Nat×Nat)}(h:aK nds rt []):aK nds rt ps:=λi k r x y hx hy hx1 hy1 hi hk=>(h i k r x y hx hy hx1 hy1 hi hk).mono λc d hcd=>Cl.map (ps:=[]) (λc d r h1 h2=>.cls h1 h2) (λc d hm=>by cases hm) hcd
theorem DO{N f:Nat}:∀(ps:List (Tm×Tm)) (g:Gr),GW N g->aK g.nodes g.R []->g.known=[]->g.ok->(∀p∈ps,p.1.form=true/\p.2.form=true)->g.up.length+(Tm.aj (ps.map (·.1))+Tm.aj (ps.map (·.2)))<N->7*N+1<f->N<=400000000->
  ∃g' b,Ca N f g ps=some (g',b)/\(b=true->GW N g'/\aK g'.nodes g'.R []/\g'.known=[]/\g'.ok/\∀σ,Sat g'.nodes g'.R [] σ↔(Sat g.nodes g.R [] σ/\Eqs ps σ))/\(b=false->∀σ,¬(Sat g.nodes g.R [] σ/\Eqs ps σ))
 |[],g,hg,hc,hk,hok,_,_,_,_=>⟨g,true,rfl,λ_=>⟨hg,hc,hk,hok,λσ=>⟨λh=>⟨h,λp hp=>by cases hp⟩,λh=>h.1⟩⟩,λe=>by cases e⟩
 |(x,y)::ps,g,hg,hc,hk,hok,hfm,hN,hf,hN2=>by
  obtain⟨fx,fy⟩:=hfm (x,y) (zV ..);simp only[zP,Tm.aj] at hN;have ok1:=pa x fx hok;obtain⟨a1,n1,a2,a3⟩:=xS x hg hc fx (by omega)
  have l1:=(mi g x).2;have ok2:=pa y fy ok1;obtain⟨b1,n2,b2,b3⟩:=xS y a1.gw a1.cl fy (by omega)
  have l2:=(mi (bK g x).1 y).2;have hab:=a1.trans b1;have hx2:=b1.old _ _ a2;have hlen:=b1.gw.len;have hcls:=LK (bK (bK g x).1 y).1.up;have hlim:=b1.gw.lim
  obtain⟨g',b,q1,q2,q3⟩:=pz f (bK (bK g x).1 y).1 [((bK g x).2,(bK (bK g x).1 y).2)] b1.gw (oW b1.cl) (λp hp=>by
   rw[zp] at hp;subst hp;exact⟨by rw[hlen];exact(zB.1 hx2).1,by rw[hlen];exact(zB.1 b2).1⟩) (by simp only[zU];omega) (by simp only[zU];omega)
  have hsat:∀σ,Sat (bK (bK g x).1 y).1.nodes (bK (bK g x).1 y).1.R [((bK g x).2,(bK (bK g x).1 y).2)] σ↔(Sat g.nodes g.R [] σ/\app σ x=app σ y):=λσ=>by
   rw[DJ,hab.sat σ,l7 hx2,l7 b2,a3,b3]
  have hcons:∀σ,Eqs ((x,y)::ps) σ↔(app σ x=app σ y/\Eqs ps σ):=λσ=>⟨λh=>⟨h (x,y) (zV ..),λp hp=>h p (zQ _ hp)⟩,λh p hp=>by
   rcases zI.1 hp with rfl|hp
   .exact h.1
   .exact h.2 p hp⟩
  cases b with
  |false=>
   refine⟨g',false,by simp only[Ca,q1],λe=>(by cases e),λ_ σ hs=>?_⟩
   rw[hcons] at hs
   exact q3 rfl σ ((hsat σ).2 ⟨hs.1,hs.2.1⟩)
  |true=>
   obtain⟨k1,k2,k3,k4,k5,k6⟩:=q2 rfl;have hk':g'.known=[]:=by rw[k5,hab.kn,hk]
   have hok':=(l6 q1 ok2).1;have hup':g'.up.length=(bK (bK g x).1 y).1.up.length:=by rw[k1.len,k3,hlen]
   obtain⟨g3,b3',p1,p2,p3⟩:=DO ps g' k1 k2 hk' hok' (λp hp=>hfm p (zQ _ hp)) (by omega) hf hN2
   refine⟨g3,b3',by simp only[Ca,q1];exact p1,λe=>?_,λe σ hs=>?_⟩
   .obtain ⟨s1,s2,s3,s4,s5⟩:=p2 e;refine⟨s1,s2,s3,s4,λσ=>?_⟩;rw[s5 σ,k6 σ,hsat σ,hcons σ,and_assoc]
   .rw [hcons] at hs;exact p3 e σ ⟨(k6 σ).2 ((hsat σ).2 ⟨hs.1,hs.2.1⟩),hs.2.2⟩
theorem OF{N:Nat}(h:0<N):GW N gr0:=by
 have hr:∀k r,¬gr0.R k r:=λk r ⟨d,hd⟩=>by have:=hd.lt;exact absurd this (Zp _)
 refine⟨rfl,λk hk=>absurd hk (Zp _),λk r d hd=>absurd hd.lt (Zp _),⟨?_,?_,?_,?_⟩,λv i=>?_,λr hr'=>absurd hr' (hr _ _),λr hr'=>absurd hr' (hr _ _),h,λk _=>⟨rfl,rfl⟩⟩
 .intro i x h;simp[gr0] at h
 .intro i x h;simp[gr0] at h
 .intro i x h;simp[gr0] at h
 .intro i j x y h;simp[gr0] at h
 .constructor
  .intro h;cases h
  .rintro ⟨x,h,_⟩;simp[gr0] at h
theorem GU:aK gr0.nodes gr0.R []:=λi k r x y h=>by simp[gr0] at h
theorem Ih(σ:Int->Tm):Sat gr0.nodes gr0.R [] σ:=⟨λk r ⟨d,hd⟩=>absurd hd.lt (Zp _),λp hp=>by cases hp⟩
theorem BM:∀{a b:List Tm},a.length=b.length->(a.zip b).map (·.1)=a/\(a.zip b).map (·.2)=b
 |[],[],_=>⟨rfl,rfl⟩
 |[],_::_,h=>by cases h
 |_::_,[],h=>by cases h
 |x::a,y::b,h=>by
  have:=BM (a:=a) (b:=b) (by simpa using h)
  simp only[List.zip_cons_cons,zP,this.1,this.2,and_self]
abbrev fN:Nat:=300000001
abbrev fF:Nat:=2200000000
theorem FI{a b:List Tm}(hN:Tm.aj a+Tm.aj b<=300000000):∃out e,Df fN fF a b=some (out,e)/\(if (a.all Tm.right&&b.all Tm.right)=true then (if a.length=b.length then Ans (Eqs (a.zip b)) out e else out=[]/\e=9) else out=[]/\e=2)/\Rng out:=by
 have hfN:fN=300000001:=rfl;have hfF:fF=2200000000:=rfl;unfold Df
 by_cases hr:(a.all Tm.right&&b.all Tm.right)=true
 .simp only[if_pos hr]
  by_cases hl:a.length=b.length
  .simp only[if_pos hl];simp only[zD] at hr
   have hfm:∀p∈a.zip b,p.1.form=true/\p.2.form=true:=λp hp=>by
    have:=List.of_mem_zip hp;exact⟨dw (zS.1 hr.1 _ this.1),dw (zS.1 hr.2 _ this.2)⟩
   obtain⟨z1,z2⟩:=BM hl;obtain⟨g,bb,q1,q2,q3⟩:=DO (N:=fN) (f:=fF) (a.zip b) gr0 (OF (by decide)) GU rfl Li hfm (by rw[z1,z2];show 0+_<_;omega) (by decide) (by decide)
   rw[q1]
   cases bb with
   |false=>exact⟨[],13,rfl,.inl ⟨λσ hs=>q3 rfl σ ⟨Ih σ,hs⟩,rfl,rfl⟩,.nil⟩
   |true=>
    obtain⟨s1,s2,s3,s4,s5⟩:=q2 rfl;have hlim:=s1.lim;have hlen:=s1.len;obtain⟨out,e,p1,p2,p3⟩:=DA (f:=fF) s1 s2 s3 s4.nodup (by omega) (by decide)
    refine⟨out,e,p1,p2.congr λσ=>?_,p3⟩;rw[s5 σ];exact⟨λh=>h.2,λh=>⟨Ih σ,h⟩⟩
  .simp only[if_neg hl];exact⟨[],9,rfl,⟨rfl,rfl⟩,.nil⟩
 .simp only[if_neg hr];exact⟨[],2,rfl,⟨rfl,rfl⟩,.nil⟩
end Go.CK
namespace Go.CK
open Go.AM Go.Proofs
theorem Kw(a b:Tm):Fun Tryz.prog 67 [a.avw,b.avw] (.bool (decide (a.cmp b=0))):=by
 refine Fun.of (lV (by simp) ?_) rfl rfl
 conv=>whnf
 repeat' (first|refine gF (aa.fn (pY a b) ?_)|refine ae.nrm ?_)<;>conv=>whnf
mutual
theorem Kf:∀t:Tm,t.sz<=t.nodes
 |.mk k n s l=>by
  have:=pg l;simp only[Tm.sz,Tm.nodes];split<;>omega
theorem pg:∀l:List Tm,Tm.szs l<=Tm.aj l
 |[]=>zG _
 |t::r=>by
  have:=Kf t;have:=pg r;simp only[Tm.szs,Tm.aj];omega
end
mutual
theorem JF:∀t:Tm,t.dep<=t.nodes
 |.mk k n s l=>by
  have:=qP l;simp only[Tm.dep,Tm.nodes];split<;>omega
theorem qP:∀l:List Tm,Tm.ej l<=Tm.aj l
 |[]=>zG _
 |t::r=>by
  have:=JF t;have:=qP r;simp only[Tm.ej,Tm.aj];omega
end
theorem DC(t:Tm):t.nodes<=1000000000->Fun Tryz.prog 79 [t.avw] (.int .i64 (t.sz:Int)):=by
 induction t using Tm.bD with
 |h k i s l ih=>
 intro hN;generalize ha:Tm.mk k i s l=t at hN|-;replace ih:∀x∈t.args,x.nodes<=1000000000->Fun Tryz.prog 79 [x.avw] (.int .i64 (x.sz:Int)):=by subst ha;exact ih
 have hnl:Tm.aj t.args+1<=t.nodes:=by subst ha;simp only[Tm.nodes,Tm.args];omega
 clear ha
 have hsz:t.sz=1+Tm.szs t.use:=by
  unfold Tm.use
  by_cases h2:t.kind=2
  .rw [if_pos h2,n9 h2]
  .rw [if_neg h2,rz h2];rfl
 have huse:∀x∈t.use,x∈t.args:=λx hx=>by unfold Tm.use at hx;split at hx;exact hx;cases hx
 have hul:Tm.aj t.use<=Tm.aj t.args:=by unfold Tm.use;split;exact zG _;exact zJ _
 have hlen:=bO t.use;have hszn:=pg t.use;rw[hsz];refine Fun.of (lU (by simp) ?_) rfl rfl
 conv=>whnf
 repeat' refine gF (aa.fn (eB) ?_)<;>conv=>whnf
 refine aD.by (fb:=true) (λ_ (j:Nat)=>⟨[(3,.int .i64 ((1+Tm.szs (t.use.take j):Nat):Int)),(4,.sl .no (t.use.map Tm.av)),(5,.int .i64 (j:Int))],[],0⟩) (λj=>j<=t.use.length) (λj=>t.use.length-j) 0 (zJ _) ?_ ?_
 .rw [ZL];refine ah.lay [] oko ?_
  conv=>whnf
  refine ah.at_ ?_ rfl
  conv=>whnf
  refine And.intro ?_ ?_<;>conv=>whnf
  all_goals repeat' (first|(refine gV ?_;first|refine vE ?_|refine vI ?_|(refine WkN.norm ?_ ?_;(focus (simp[AV.norm,AV.ax,Tm.szs,Tm.ej];done))))|exact True.intro)<;>conv=>whnf
 .rintro j q1
  by_cases hj:j<t.use.length
  .obtain ⟨x,hx⟩:∃x,t.use[j]? =some x:=⟨_,zA hj⟩;have htk:t.use.take (j+1)=t.use.take j++[x]:=by rw[ZC,hx];rfl
   have hst:=rq t.use hx;have hm:=fK (zE hx);have hcall:=ih x (huse x (zE hx)) (by omega)
   conv=>whnf
   repeat' (first|refine gF (aa.fn (hcall) ?_)|refine gC (gD (cI ?_))|refine gW (wI ?_)|refine gL (.map ?_)|refine gI (gT (iA ?_)))<;>conv=>whnf
   refine⟨j+1,⟨hj,by omega⟩,?_⟩
   rw[htk,n5];exact aH
  .obtain rfl:j=t.use.length:=by omega
   rw[zl (zG _)]
   conv=>whnf
   repeat' (first|refine gC (gD (cJ ?_))|refine gL (.map ?_)|refine ae.nrm ?_)<;>conv=>whnf
theorem JE(t:Tm):t.nodes<=1000000000->Fun Tryz.prog 80 [t.avw] (.int .i64 (t.dep:Int)):=by
 induction t using Tm.bD with
 |h k i s l ih=>
 intro hN;generalize ha:Tm.mk k i s l=t at hN|-;replace ih:∀x∈t.args,x.nodes<=1000000000->Fun Tryz.prog 80 [x.avw] (.int .i64 (x.dep:Int)):=by subst ha;exact ih
 have hnl:Tm.aj t.args+1<=t.nodes:=by subst ha;simp only[Tm.nodes,Tm.args];omega
 clear ha
 have hsz:t.dep=Tm.ej t.use+1:=by
  unfold Tm.use
  by_cases h2:t.kind=2
  .rw [if_pos h2,ku h2]
  .rw [if_neg h2,sI h2];rfl
 have huse:∀x∈t.use,x∈t.args:=λx hx=>by unfold Tm.use at hx;split at hx;exact hx;cases hx
 have hul:Tm.aj t.use<=Tm.aj t.args:=by unfold Tm.use;split;exact zG _;exact zJ _
 have hlen:=bO t.use;have hdn:Tm.ej t.use<=Tm.aj t.use:=qP t.use;rw[hsz];refine Fun.of (k9 (by simp) ?_) rfl rfl
 conv=>whnf
 repeat' refine gF (aa.fn (eB) ?_)<;>conv=>whnf
 refine aD.by (fb:=true) (λ_ (j:Nat)=>⟨[(3,.int .i64 ((Tm.ej (t.use.take j):Nat):Int)),(4,.sl .no (t.use.map Tm.av)),(5,.int .i64 (j:Int))],[],0⟩) (λj=>j<=t.use.length) (λj=>t.use.length-j) 0 (zJ _) ?_ ?_
 .rw [ZL];refine ah.lay [] oko ?_
  conv=>whnf
  refine ah.at_ ?_ rfl
  conv=>whnf
  refine And.intro ?_ ?_<;>conv=>whnf
  all_goals repeat' (first|(refine gV ?_;first|refine vE ?_|refine vI ?_|(refine WkN.norm ?_ ?_;(focus (simp[AV.norm,AV.ax,Tm.szs,Tm.ej];done))))|exact True.intro)<;>conv=>whnf
 .rintro j q1
  by_cases hj:j<t.use.length
  .obtain ⟨x,hx⟩:∃x,t.use[j]? =some x:=⟨_,zA hj⟩;have htk:t.use.take (j+1)=t.use.take j++[x]:=by rw[ZC,hx];rfl
   have hm:=fK (zE hx);have hcall:=ih x (huse x (zE hx)) (by omega)
   conv=>whnf
   repeat' (first|refine gF (aa.fn (hcall) ?_)|refine gC (gD (cI ?_))|refine gW (wI ?_)|refine gL (.map ?_)|refine gI (gT (iA ?_)))<;>conv=>whnf
   refine⟨j+1,⟨hj,by omega⟩,?_⟩
   rw[htk,tN];exact aH
  .obtain rfl:j=t.use.length:=by omega
   rw[zl (zG _)]
   conv=>whnf
   repeat' (first|refine gC (gD (cJ ?_))|refine gW (wI ?_)|refine gL (.map ?_)|refine ae.nrm ?_)<;>conv=>whnf
   rfl
theorem oL{l:List Tm}{x:Tm}(h:x∈l)(hf:x.form=false):Tm.cd l=false:=by
 rw[Bool.eq_false_iff];intro e;rw[tG e h] at hf;cases hf
set_option maxHeartbeats 1000000 in
theorem Lp(t:Tm):Fun Tryz.prog 78 [t.avw] (.bool t.form):=by
 induction t using Tm.bD with
 |h k i s l ih=>
 generalize ha:Tm.mk k i s l=t;replace ih:∀x∈t.args,Fun Tryz.prog 78 [x.avw] (.bool x.form):=by subst ha;exact ih
 clear ha;refine Fun.assume rfl λhg0=>?_;have hg:=(pD (hg0 t.avw (by simp))).2.1
 by_cases hk2:t.kind=2
 .rw [tH hk2];have hoo:=Ea t.name;have hro:=Az t.name
  by_cases h3:t.num=0
  rotate_left
  .rw [decide_eq_false (λe=>h3 e.1),zw];cases hop:dT t.name<;>rw[hop] at hoo
   all_goals
    refine Fun.of (aA (by simp) ?_) rfl rfl
    conv=>whnf
    repeat' (first|refine gF (aa.fn (hoo) ?_)|(refine gC ?_;first|refine cY ?_|refine cN ?_|refine .not ?_|(refine gD ?_;first|refine cI ?_|refine cJ ?_))|refine gL (.map ?_)|refine ae.nrm ?_)<;>conv=>whnf
    try rfl
  by_cases h6:t.args.length<=6
  .rw [decide_eq_true (show t.num=0/\t.args.length<=6 from ⟨h3,h6⟩),za]
   by_cases hol:dT t.name=true/\t.args.length=2
   .obtain ⟨hop,h2⟩:=hol;rw[hop,decide_eq_true h2,za,Bool.or_true,za];rw[hop] at hoo;refine Fun.of (aA (by simp) ?_) rfl rfl
    conv=>whnf
    repeat' (first|refine gF (aa.fn (hoo) ?_)|(refine gC ?_;first|refine cY ?_|refine cN ?_|refine .not ?_|(refine gD ?_;first|refine cI ?_|refine cJ ?_))|refine gL (.map ?_))<;>conv=>whnf
    refine aD.by (fb:=true) (λ_ (j:Nat)=>⟨[(1,.ptr 0 0),(4,.int .i64 (j:Int))],[.cells [.int .i64 t.kind,.int .i64 t.num,.str t.name,.sl .no (t.args.map Tm.av)]],0⟩) (λj=>j<=t.args.length/\Tm.cd (t.args.take j)=true) (λj=>t.args.length-j) 0 ⟨zJ _,rfl⟩ ?_ ?_
    .exact aH
    .rintro j ⟨q1,q2⟩
     by_cases hj:j<t.args.length
     .obtain ⟨x,hx⟩:∃x,t.args[j]? =some x:=⟨_,zA hj⟩;have htk:t.args.take (j+1)=t.args.take j++[x]:=by rw[ZC,hx];rfl
      have hcall:=ih x (zE hx)
      cases hxf:x.form with
      |false=>
       rw[hxf] at hcall
       conv=>whnf
       repeat' (first|refine gF (aa.fn (hcall) ?_)|(refine gC ?_;first|refine cN ?_|refine .not ?_|refine gD (cI ?_))|refine gL (.map ?_)|refine gI (gT (iA ?_))|refine ae.nrm ?_)<;>conv=>whnf
       exact congrArg AV.bool (oL (zE hx) hxf).symm
      |true=>
       rw[hxf] at hcall
       conv=>whnf
       repeat' (first|refine gF (aa.fn (hcall) ?_)|(refine gC ?_;first|refine cY ?_|refine .not ?_|refine gD (cI ?_))|refine gW (wI ?_)|refine gL (.map ?_)|refine gI (gT (iA ?_)))<;>conv=>whnf
       refine⟨j+1,⟨⟨hj,by rw[htk,jN,q2,hxf];rfl⟩,by omega⟩,?_⟩
       exact aH
     .obtain rfl:j=t.args.length:=by omega
      rw[zl (zG _)] at q2
      conv=>whnf
      repeat' (first|refine gC (gD (cJ ?_))|refine gL (.map ?_)|refine ae.nrm ?_)<;>conv=>whnf
      exact congrArg AV.bool q2.symm
   .have hob:(dT t.name&&decide (t.args.length=2))=false:=by
     rw[Bool.eq_false_iff];intro e;rw[zD,decide_eq_true_eq] at e;exact hol e
    rw[hob,Bool.or_false]
    cases hnr:jG t.name with
    |false=>
     rw[hnr] at hro;rw[zw]
     cases hop:dT t.name with
     |false=>
      rw[hop] at hoo;refine Fun.of (aA (by simp) ?_) rfl rfl
      conv=>whnf
      repeat' (first|(refine gF ?_;first|refine aa.fn (hoo) ?_|refine aa.fn (hro) ?_)|(refine gC ?_;first|refine cY ?_|refine cN ?_|refine .not ?_|(refine gD ?_;first|refine cI ?_|refine cJ ?_))|refine ae.nrm ?_)<;>conv=>whnf
     |true=>
      rw[hop] at hoo;have h2:¬t.args.length=2:=λe=>hol ⟨hop,e⟩;refine Fun.of (aA (by simp) ?_) rfl rfl
      conv=>whnf
      repeat' (first|(refine gF ?_;first|refine aa.fn (hoo) ?_|refine aa.fn (hro) ?_)|(refine gC ?_;first|refine cY ?_|refine cN ?_|refine .not ?_|(refine gD ?_;first|refine cI ?_|refine cJ ?_))|refine gL (.map ?_)|refine ae.nrm ?_)<;>conv=>whnf
    |true=>
     rw[hnr] at hro;rw[za]
     cases hop:dT t.name with
     |false=>
      rw[hop] at hoo;refine Fun.of (aA (by simp) ?_) rfl rfl
      conv=>whnf
      repeat' (first|(refine gF ?_;first|refine aa.fn (hoo) ?_|refine aa.fn (hro) ?_)|(refine gC ?_;first|refine cY ?_|refine cN ?_|refine .not ?_|(refine gD ?_;first|refine cI ?_|refine cJ ?_))|refine gL (.map ?_))<;>conv=>whnf
      refine aD.by (fb:=true) (λ_ (j:Nat)=>⟨[(1,.ptr 0 0),(4,.int .i64 (j:Int))],[.cells [.int .i64 t.kind,.int .i64 t.num,.str t.name,.sl .no (t.args.map Tm.av)]],0⟩) (λj=>j<=t.args.length/\Tm.cd (t.args.take j)=true) (λj=>t.args.length-j) 0 ⟨zJ _,rfl⟩ ?_ ?_
      .exact aH
      .rintro j ⟨q1,q2⟩
       by_cases hj:j<t.args.length
       .obtain ⟨x,hx⟩:∃x,t.args[j]? =some x:=⟨_,zA hj⟩;have htk:t.args.take (j+1)=t.args.take j++[x]:=by rw[ZC,hx];rfl
        have hcall:=ih x (zE hx)
        cases hxf:x.form with
        |false=>
         rw[hxf] at hcall
         conv=>whnf
         repeat' (first|refine gF (aa.fn (hcall) ?_)|(refine gC ?_;first|refine cN ?_|refine .not ?_|refine gD (cI ?_))|refine gL (.map ?_)|refine gI (gT (iA ?_))|refine ae.nrm ?_)<;>conv=>whnf
         exact congrArg AV.bool (oL (zE hx) hxf).symm
        |true=>
         rw[hxf] at hcall
         conv=>whnf
         repeat' (first|refine gF (aa.fn (hcall) ?_)|(refine gC ?_;first|refine cY ?_|refine .not ?_|refine gD (cI ?_))|refine gW (wI ?_)|refine gL (.map ?_)|refine gI (gT (iA ?_)))<;>conv=>whnf
         refine⟨j+1,⟨⟨hj,by rw[htk,jN,q2,hxf];rfl⟩,by omega⟩,?_⟩
         exact aH
       .obtain rfl:j=t.args.length:=by omega
        rw[zl (zG _)] at q2
        conv=>whnf
        repeat' (first|refine gC (gD (cJ ?_))|refine gL (.map ?_)|refine ae.nrm ?_)<;>conv=>whnf
        exact congrArg AV.bool q2.symm
     |true=>
      rw[hop] at hoo;have h2:¬t.args.length=2:=λe=>hol ⟨hop,e⟩;refine Fun.of (aA (by simp) ?_) rfl rfl
      conv=>whnf
      repeat' (first|(refine gF ?_;first|refine aa.fn (hoo) ?_|refine aa.fn (hro) ?_)|(refine gC ?_;first|refine cY ?_|refine .not ?_|(refine gD ?_;first|refine cI ?_|refine cJ ?_))|refine gL (.map ?_))<;>conv=>whnf
      refine aD.by (fb:=true) (λ_ (j:Nat)=>⟨[(1,.ptr 0 0),(4,.int .i64 (j:Int))],[.cells [.int .i64 t.kind,.int .i64 t.num,.str t.name,.sl .no (t.args.map Tm.av)]],0⟩) (λj=>j<=t.args.length/\Tm.cd (t.args.take j)=true) (λj=>t.args.length-j) 0 ⟨zJ _,rfl⟩ ?_ ?_
      .exact aH
      .rintro j ⟨q1,q2⟩
       by_cases hj:j<t.args.length
       .obtain ⟨x,hx⟩:∃x,t.args[j]? =some x:=⟨_,zA hj⟩;have htk:t.args.take (j+1)=t.args.take j++[x]:=by rw[ZC,hx];rfl
        have hcall:=ih x (zE hx)
        cases hxf:x.form with
        |false=>
         rw[hxf] at hcall
         conv=>whnf
         repeat' (first|refine gF (aa.fn (hcall) ?_)|(refine gC ?_;first|refine cN ?_|refine .not ?_|refine gD (cI ?_))|refine gL (.map ?_)|refine gI (gT (iA ?_))|refine ae.nrm ?_)<;>conv=>whnf
         exact congrArg AV.bool (oL (zE hx) hxf).symm
        |true=>
         rw[hxf] at hcall
         conv=>whnf
         repeat' (first|refine gF (aa.fn (hcall) ?_)|(refine gC ?_;first|refine cY ?_|refine .not ?_|refine gD (cI ?_))|refine gW (wI ?_)|refine gL (.map ?_)|refine gI (gT (iA ?_)))<;>conv=>whnf
         refine⟨j+1,⟨⟨hj,by rw[htk,jN,q2,hxf];rfl⟩,by omega⟩,?_⟩
         exact aH
       .obtain rfl:j=t.args.length:=by omega
        rw[zl (zG _)] at q2
        conv=>whnf
        repeat' (first|refine gC (gD (cJ ?_))|refine gL (.map ?_)|refine ae.nrm ?_)<;>conv=>whnf
        exact congrArg AV.bool q2.symm
  .rw [decide_eq_false (λe=>h6 e.2),zw];have h2:¬t.args.length=2:=by omega
   cases hnr:jG t.name<;>rw[hnr] at hro<;>cases hop:dT t.name<;>rw[hop] at hoo
   all_goals
    refine Fun.of (aA (by simp) ?_) rfl rfl
    conv=>whnf
    repeat' (first|(refine gF ?_;first|refine aa.fn (hoo) ?_|refine aa.fn (hro) ?_)|(refine gC ?_;first|refine cY ?_|refine cN ?_|refine .not ?_|(refine gD ?_;first|refine cI ?_|refine cJ ?_))|refine gL (.map ?_)|refine ae.nrm ?_)<;>conv=>whnf
    try rfl
 .by_cases hk0:t.kind=0
  .rw [CP hk0];refine Fun.of (aA (by simp) ?_) rfl rfl
   conv=>whnf
   repeat' (first|(refine gC ?_;first|refine cN ?_|(refine gD ?_;first|refine cI ?_|refine cJ ?_)|refine al.le (λhc=>?_) (λhc=>?_)|refine al.dec (λhc=>?_) (λhc=>?_))|refine gL (.map ?_)|refine ae.nrm ?_)<;>conv=>whnf
   all_goals
    refine congrArg AV.bool ?_;symm
    first
     |(rw[decide_eq_decide];exact⟨λh=>by omega,λh=>⟨by omega,by omega,by assumption,by omega⟩⟩)
     |(rw[decide_eq_decide];exact⟨λ⟨_,_,_,h⟩=>by omega,λh=>⟨by omega,by omega,by assumption,by omega⟩⟩)
     |(rw[decide_eq_false_iff_not];rintro⟨e1,e2,e3,e4⟩;first|omega|contradiction)
     |(rw[decide_eq_true_iff];exact⟨by omega,by omega,by assumption,by omega⟩)
  .by_cases hk1:t.kind=1
   .rw [xc hk1];refine Fun.of (aA (by simp) ?_) rfl rfl
    conv=>whnf
    repeat' (first|(refine gC ?_;first|refine cN ?_|(refine gD ?_;first|refine cI ?_|refine cJ ?_)|refine al.le (λhc=>?_) (λhc=>?_)|refine al.dec (λhc=>?_) (λhc=>?_))|refine gL (.map ?_)|refine ae.nrm ?_)<;>conv=>whnf
    all_goals
     refine congrArg AV.bool ?_;symm
     first
      |(rw[decide_eq_decide];exact⟨λh=>by omega,λh=>⟨by omega,by omega,by assumption,by omega⟩⟩)
      |(rw[decide_eq_decide];exact⟨λ⟨_,_,_,h⟩=>by omega,λh=>⟨by omega,by omega,by assumption,by omega⟩⟩)
      |(rw[decide_eq_false_iff_not];rintro⟨e1,e2,e3,e4⟩;first|omega|contradiction)
      |(rw[decide_eq_true_iff];exact⟨by omega,by omega,by assumption,by omega⟩)
   .rw [CO hk0 hk1 hk2];refine Fun.of (aA (by simp) ?_) rfl rfl
    conv=>whnf
    repeat' (first|refine gC (gD (cJ ?_))|refine ae.nrm ?_)<;>conv=>whnf
theorem sX(t:Tm)(hN:t.nodes<=1000000000):Fun Tryz.prog 47 [t.avw] (.bool t.right):=by
 have h1:=Lp t;have h2:=DC t hN;have h3:=JE t hN
 have he:t.right=(t.form&&(decide ((t.sz:Int)<=200)&&decide ((t.dep:Int)<=20))):=by
  unfold Tm.right vB;rw[Bool.decide_and]
 rw[he];cases hf:t.form<;>rw[hf] at h1
 all_goals
  refine Fun.of (k8 (by simp) ?_) rfl rfl
  conv=>whnf
  repeat' (first|(refine gF ?_;first|refine aa.fn (h1) ?_|refine aa.fn (h2) ?_|refine aa.fn (h3) ?_)|(refine gC ?_;first|refine cY ?_|refine cN ?_|(refine gD ?_;first|refine cI ?_|refine cJ ?_)|refine al.le (λhc=>?_) (λhc=>?_))|refine ae.nrm ?_)<;>conv=>whnf
  all_goals (first|rfl|(refine congrArg AV.bool ?_;first|(simp[*];done)|(simp[*];omega)))
end Go.CK
namespace Go.CK
open Go.AM Go.Proofs
end Go.CK
namespace Go.CK
open Go.AM Go.Proofs
end Go.CK
namespace Go.CK
open Go.AM
mutual
theorem vf:∀t:Tm,t.vs.length<=t.nodes
 |.mk k n s l=>by
  have:=An l;rw[Tm.vs,Tm.nodes];split
  .simp
  .split
   .omega
   .simp
theorem An:∀l:List Tm,(Tm.vss l).length<=Tm.aj l
 |[]=>by simp[Tm.vss]
 |t::r=>by
  have:=vf t;have:=An r;simp only[Tm.vss,Tm.aj,zC];omega
end
end Go.CK
namespace Go.CK
open Go.AM
def Said(a b:List Tm)(out:List Bnd)(e:Int):Prop:=(if (a.all Tm.right&&b.all Tm.right)=true then (if a.length=b.length then Ans (Eqs (a.zip b)) out e else out=[]/\e=9) else out=[]/\e=2)/\Rng out
theorem Mt{a b:List Tm}(hN:Tm.aj a+Tm.aj b<=300000000):∃out e,Df fN fF a b=some (out,e)/\Said a b out e:=FI hN
theorem Hw:∀{l:List Tm} {x:Tm},x∈l->x.sz<=Tm.szs l
 |y::l,x,hm=>by
  simp only[Tm.szs];rcases zI.1 hm with rfl|hm
  .omega
  .have:=Hw hm;omega
end Go.CK
namespace Go.CK
open Go.AM Go.Proofs
end Go.CK
