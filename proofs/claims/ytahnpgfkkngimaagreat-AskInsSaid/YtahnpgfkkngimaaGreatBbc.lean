/-
  Texts of this aQ joined (wip/gen/bundle.py),those declarations only that are needed:UlH UnT. By an AI agent.
-/
import Derived.Test.YtahnpgfkkngimaaGreatBbb
set_option linter.unusedSimpArgs false
set_option linter.unusedVariables false
set_option maxRecDepth 100000
namespace Go.CK
open Go.AM
theorem D3{l:List Tm}{x:Tm}(h:x∈l):x.dep<=Tm.eE l:=u0 h
theorem A4{N:Nat}{g0:Gr}(h0:GW N g0){M:Gr->Nat->Option (Gr×Tm)}{kd:List Nat}{ex:Nat->Tm}
  (hM:∀(g:Gr) (c x:Nat),c∈kd->cH g0 g->g0.R c x->∃g2,M g x=some (g2,ex x)/\cH g g2):
  ∀(xs:List Nat) (g:Gr),(∀x∈xs,x∈kd/\x<g0.nodes.length)->cH g0 g->∃g2 ts,uS N M g xs=some (g2,ts)/\cH g0 g2/\ts.length=xs.length/\∀(j c s:Nat),xs[j]? =some c->g0.R c s->ts[j]? =some (ex s)
 |[],g,_,hl=>⟨g,[],rfl,hl,rfl,λj c s h=>by simp at h⟩
 |x::xs,g,hx,hl=>by
  have hg:=h0.yW hl;have hlt:x<g.up.length:=by rw[hl.up.1,h0.len];exact(hx x (ZV ..)).2
  obtain⟨u,r,e1,e2,e3⟩:=hg.root hlt;have hl2:cH g {g with up:=u}:=⟨rfl,rfl,rfl,rfl,e2⟩;have hl02:=hl.trans hl2;have hr0:g0.R x r:=by rw[hl.rr h0.tot] at e3;exact e3
  obtain⟨g2,f1,f2⟩:=hM _ x r (hx x (ZV ..)).1 hl02 hr0;have hup:g2.up.length=g.up.length:=by rw[f2.up.1];exact e2.1
  obtain⟨g3,ts,q1,q2,q3,q4⟩:=A4 h0 hM xs g2 (λy hy=>hx y (ZQ _ hy)) (hl02.trans f2);refine⟨g3,ex r::ts,by simp only[uS,e1,f1,if_pos hup,q1],q2,by simp only[ZX,q3],λj c s h1 h2=>?_⟩
  cases j with
  |zero=>
   simp at h1;subst h1
   rw[h0.par.det _ _ _ h2 hr0];rfl
  |succ j=>exact q4 j c s (by simpa using h1) h2
theorem A5{N:Nat}:∀(f:Nat) (g:Gr) (r:Nat) (t:Tm),GW N g->g.Ex r t->t.dep<=f->∃g',mB N f g r=some (g',t)/\cH g g'
 |0,g,r,t,_,_,h=>by have:=og t;omega
 |f+1,g,r,t,hg,ht,hf=>by
  have hp:=hg.par;generalize htt:t=t' at ht
  cases ht with
  |var h h1 h2=>
   rename_i w;have h1:lk g.shape r=none:=h1;have h2:lk g.least r=some w:=h2
   exact⟨g,by simp only[mB,h1,lkD,h2],.refl g⟩
  |leaf h h1 h2 h3=>
   rename_i k x;have h1:lk g.shape r=some k:=h1
   exact⟨g,by simp only[mB,h1,h2];rw[if_pos (by rw[h3];rfl)],.refl g⟩
  |fn h h1 h2 h3 h4 h5=>
   rename_i k x ts;have h1:lk g.shape r=some k:=h1;have hlen:=hg.nds.len _ _ h2;have hsix:=qe hg.nds h2
   have hk2:x.t.kind=2:=by
    obtain⟨x',e1,e2,_⟩:=(hg.shp r h).1 k h1;rw[h2] at e1;cases e1
    by_cases hk:x.t.kind=2
    .exact hk
    .have:=fh (hg.nds.frm _ _ h2) e2 hk;rw[this] at h3;exact absurd rfl h3
   have hdep:t.dep=Tm.eE ts+1:=by rw[htt];exact ja (t:=Tm.mk x.t.kind x.t.num x.t.name ts) hk2
   have hne:¬x.t.args.length=0:=λe=>h3 (ZL e)
   --the terms of the arguments' classes,by class
   have hex:∃ex:Nat->Tm,∀(j c s:Nat) (y:Tm),x.kids[j]? =some c->g.R c s->ts[j]? =some y->ex s=y:=by
    classical
    refine⟨λs=>if h:∃y,g.Ex s y then h.choose else az 0,λj c s y a1 a2 a3=>?_⟩;have hy:=h5 j c s y a1 a2 a3;have he:∃y,g.Ex s y:=⟨y,hy⟩;simp only[dif_pos he];exact he.choose_spec.det hg.nds hp hy
   obtain⟨ex,hex⟩:=hex
   have hM:∀(g1:Gr) (c s:Nat),c∈x.kids->cH g g1->g.R c s->∃g2,mB N f g1 s=some (g2,ex s)/\cH g1 g2:=λg1 c s hc hl hcs=>by
    obtain⟨j,hj⟩:=YQ hc;have hlt:=(ZB.1 hj).1;have e1:ts[j]? =some (ts[j]'(by omega)):=ZA (by omega)
    have e2:=h5 j c s _ hj hcs e1;have e3:=hex j c s _ hj hcs e1;rw[e3];have hd:=D3 (ZE e1);obtain⟨g2,q1,q2⟩:=A5 f g1 s _ (hg.yW hl) (by rw[hl.ex hg.tot];exact e2) (by omega)
    exact⟨g2,q1,q2⟩
   have hkd:∀y∈x.kids,y∈x.kids/\y<g.nodes.length:=λy hy=>by
    obtain⟨j,hj⟩:=YQ hy;exact⟨hy,ew hg.nds h2 hj⟩
   obtain⟨g2,ts2,q1,q2,q3,q4⟩:=A4 hg (M:=mB N f) hM x.kids g hkd (.refl g)
   have hts:ts2=ts:=by
    apply Yt;intro j
    cases hc:x.kids[j]? with
    |none=>
     rw[YI] at hc
     rw[YI.2 (by omega),YI.2 (by omega)]
    |some c=>
     have hlt:=(ZB.1 hc).1;obtain⟨s,hs⟩:=hp.tot c (ew hg.nds h2 hc);have e1:ts[j]? =some (ts[j]'(by omega)):=ZA (by omega)
     rw[q4 j c s hc hs,e1,hex j c s _ hc hs e1]
   subst hts;refine⟨g2,?_,q2⟩;simp only[mB,h1,h2];rw[if_neg hne,if_pos ⟨hlen,by omega⟩,q1]
theorem tv{N f:Nat}:∀(ks:List Nat) (g:Gr),GW N g->bU g->(∀k∈ks,k<g.nodes.length)->nuB g.nodes.length []<f->∃g' b,jh N f ks g=some (g',b)/\cH g g'/\(b=false->sE g)/\(b=true->bU g'/\KnM g g'/\∀k∈ks,∀r,g.R k r->lk g'.known r≠none)
 |[],g,hg,hk,_,_=>⟨g,true,rfl,.refl g,λe=>(by cases e),λ_=>⟨hk,λk h=>h,λk h=>by cases h⟩⟩
 |k::ks,g,hg,hk,hks,hf=>by
  have hlt:k<g.up.length:=by rw[hg.len];exact hks k (ZV ..)
  obtain⟨u,r,e1,e2,e3⟩:=hg.root hlt;have hl:cH g {g with up:=u}:=⟨rfl,rfl,rfl,rfl,e2⟩;have hg1:=hg.yW hl;have hrr:=hg.par.idem _ _ e3;obtain⟨g2,mo,q1,q2,q3,q4,q5⟩:=xu f {g with up:=u} [] r hg1 (hl.known hg.tot rfl hk) (by rw[hl.rr hg.tot];exact hrr) (λσ _ j hj=>by cases hj) hf
  have hl2:=hl.trans q2
  cases mo with
  |none=>
   exact⟨g2,false,by simp only[jh,e1,q1],hl2,λ_=>(hl.GL hg.tot).1 (q4 rfl),λe=>by cases e⟩
  |some m=>
   obtain⟨s1,s2,_⟩:=q5 m rfl;obtain⟨g3,b,p1,p2,p3,p4⟩:=tv ks g2 (hg.yW hl2) s1 (λj hj=>by rw[hl2.nodes];exact hks j (ZQ _ hj)) (by rw[hl2.nodes];exact hf)
   refine⟨g3,b,by simp only[jh,e1,q1];exact p1,hl2.trans p2,λe=>(hl2.GL hg.tot).1 (p3 e),λe=>?_⟩
   obtain⟨t1,t2,t3⟩:=p4 e;refine⟨t1,λj h=>t2 j (q3 j h),λj hj s hs=>?_⟩;rcases ZI.1 hj with rfl|hj
   .rw [hg.par.det _ _ _ hs e3];exact t2 _ s2
   .exact t3 j hj s (by rw[hl2.rr hg.tot];exact hs)
theorem uR{N:Nat}{M:Gr->Nat->Option (Gr×Tm)}(hM:∀{g r g2 t},M g r=some (g2,t)->g2.known=g.known):∀{xs:List Nat} {g g2:Gr} {l:List Tm},uS N M g xs=some (g2,l)->g2.known=g.known
 |[],g,g2,l,h=>by cases h;rfl
 |x::xs,g,g2,l,h=>by
  rw[uS] at h;split at h
  .cases h
  .split at h
   .cases h
   .rename_i h1;split at h
    .split at h
     .cases h
     .rename_i h2;cases h;have h3:=uR hM h2;have h4:=hM h1;exact h3.trans h4
    .cases h
theorem uT{N:Nat}:∀{f:Nat} {g g2:Gr} {r:Nat} {t:Tm},mB N f g r=some (g2,t)->g2.known=g.known
 |0,g,g2,r,t,h=>by cases h
 |f+1,g,g2,r,t,h=>by
  rw[mB] at h;split at h
  .cases h;rfl
  .split at h
   .cases h
   .split at h
    .cases h;rfl
    .split at h
     .split at h
      .cases h
      .rename_i h1;cases h;exact uR (M:=mB N f) (λ{g r g2 t} h=>uT (f:=f) h) h1
     .cases h
theorem kX(t:Tm):(200<(fa t).1\/20<(fa t).2)↔¬fits t:=by
 unfold fa fits;dsimp only;omega
noncomputable def boundsOf(M:Int->Tm)(vs:List Int):List Bnd:=(vs.filter λv=>decide (¬M v=az v)).map λv=>⟨v,M v⟩
theorem tq{N f:Nat}(hf:20<=f){g0:Gr}(h0:GW N g0)(hkn:bU g0)(hall:∀r:Nat,g0.R r r->lk g0.known r≠none):∀(vs:List Int) (g:Gr) (out:List Bnd),cH g0 g->g.known=g0.known->(∀v∈vs,lk g0.vars v≠none)->
  ∃g' ro,fH N f vs g out=some (g',ro)/\((ro=some (out++boundsOf (mguM g0.nodes g0.R g0.sh g0.le) vs)/\∀v∈vs,¬mguM g0.nodes g0.R g0.sh g0.le v=az v->fits (mguM g0.nodes g0.R g0.sh g0.le v))\/(ro=none/\∃v∈vs,¬mguM g0.nodes g0.R g0.sh g0.le v=az v/\¬fits (mguM g0.nodes g0.R g0.sh g0.le v)))
 |[],g,out,_,_,_=>⟨g,some out,rfl,.inl ⟨by simp[boundsOf],λv h=>by cases h⟩⟩
 |v::vs,g,out,hl,hk,hvs=>by
  have hg:=h0.yW hl;have hp:=h0.par;obtain⟨M,hM⟩:∃M,M=mguM g0.nodes g0.R g0.sh g0.le:=⟨_,rfl⟩;have ih:=λg' out' a b=>tq hf h0 hkn hall vs g' out' a b (λw hw=>hvs w (ZQ _ hw));rw[<-hM] at ih|-
  cases hvk:lk g0.vars v with
  |none=>exact absurd hvk (hvs v (ZV ..))
  |some k=>
   obtain⟨x,x1,x2⟩:=(h0.vars v k).1 hvk;have hklt:=(ZB.1 x1).1;obtain⟨u,r,e1,e2,e3⟩:=hg.root (k:=k) (by rw[hl.up.1,h0.len];exact hklt)
   have hl2:cH g {g with up:=u}:=⟨rfl,rfl,rfl,rfl,e2⟩;have hl02:=hl.trans hl2;have hr0:g0.R k r:=by rw[hl.rr h0.tot] at e3;exact e3
   have hrr:=hp.idem _ _ hr0;have hgv:lk g.vars v=some k:=by rw[hl.vars];exact hvk
   cases hkr:lk g0.known r with
   |none=>exact absurd hkr (hall r hrr)
   |some m=>
    obtain⟨t,ht,hm⟩:=hkn r m hkr;have hMv:M v=t:=by rw[hM];exact lO h0.nds hp x1 x2 hr0 ht
    have hskip:(lk g.shape r=none/\lkD g.least r=v)↔M v=az v:=by
     rw[hMv,hl.shape,hl.least];obtain⟨s1,s2⟩:=h0.shp r hrr;generalize htt:t=t' at ht
     cases ht with
     |var h h1 h2=>
      rename_i w;have h1:lk g0.shape r=none:=h1;have h2:lk g0.least r=some w:=h2;rw[show lkD g0.least r=w by rw[lkD,h2],h1]
      exact⟨λe=>by rw[e.2],λe=>⟨rfl,pB e⟩⟩
     |leaf h h1 h2 h3=>
      rename_i q y;have h1:lk g0.shape r=some q:=h1;rw[h1];refine⟨λe=>(by cases e.1),λe=>?_⟩
      obtain⟨y',f1,f2,_⟩:=s1 q h1;rw[h2] at f1;cases f1
      rw[e] at f2;exact absurd rfl f2
     |fn h h1 h2 h3 h4 h5=>
      rename_i q y ts;have h1:lk g0.shape r=some q:=h1;rw[h1];refine⟨λe=>(by cases e.1),λe=>?_⟩
      obtain⟨y',f1,f2,_⟩:=s1 q h1;rw[h2] at f1;cases f1;exact absurd (congrArg Tm.kind e) f2
    by_cases hs:M v=az v
    .obtain ⟨g',ro,q1,q2⟩:=ih {g with up:=u} out hl02 hk;refine⟨g',ro,by simp only[fH,hgv,e1,if_pos (hskip.2 hs)];exact q1,?_⟩
     have hb:boundsOf M (v::vs)=boundsOf M vs:=by unfold boundsOf;rw[XA (by simp[hs])]
     rw[hb];rcases q2 with ⟨h1,h2⟩|⟨h1,w,h2,h3⟩
     .exact .inl ⟨h1,λw hw hn=>by
       rcases ZI.1 hw with rfl|hw
       .exact absurd hs hn
       .exact h2 w hw hn⟩
     .exact .inr ⟨h1,w,ZQ _ h2,h3⟩
    .have hns:¬(lk g.shape r=none/\lkD g.least r=v):=λe=>hs (hskip.1 e);have hgk:lk g.known r=some m:=by rw[hk];exact hkr
     by_cases hbig:200<m.1\/20<m.2
     .refine ⟨{g with up:=u},none,by simp only[fH,hgv,e1,if_neg hns,hgk,if_pos hbig],.inr ⟨rfl,v,ZV ..,hs,?_⟩⟩
      rw[hMv,<-kX,<-hm];exact hbig
     .have hfit:fits t:=by
       have:=mt (kX t).2;rw[<-hm] at this;exact Decidable.byContradiction λe=>hbig ((by rw[hm];exact(kX t).2 e))
      obtain⟨g2,q1,q2⟩:=A5 f {g with up:=u} r t (h0.yW hl02) (by rw[hl02.ex h0.tot];exact ht) (by have:=hfit.2;omega)
      have hup:g2.up.length=g.up.length:=by rw[q2.up.1];exact e2.1
      have hk2:g2.known=g.known:=by have h3:=uT q1;exact h3
      obtain⟨g',ro,p1,p2⟩:=ih g2 (out++[⟨v,t⟩]) (hl02.trans q2) (hk2.trans hk);refine⟨g',ro,by simp only[fH,hgv,e1,if_neg hns,hgk,if_neg hbig,q1,if_pos hup];exact p1,?_⟩
      have hb:boundsOf M (v::vs)=⟨v,t⟩::boundsOf M vs:=by unfold boundsOf;rw[XW (by simp[hs]),ZP,hMv]
      rw[hb];rcases p2 with ⟨h1,h2⟩|⟨h1,w,h2,h3⟩
      .refine .inl ⟨by rw[h1,Zg];rfl,λw hw hn=>?_⟩
       rcases ZI.1 hw with rfl|hw
       .rw [hMv];exact hfit
       .exact h2 w hw hn
      .exact .inr ⟨h1,w,ZQ _ h2,h3⟩
theorem zC(l:List Int):(fm l).Pairwise (·<=·):=by
 have:=List.pairwise_mergeSort (le:=λx y:Int=>decide (x<=y)) (λa b c h1 h2=>by simp only[decide_eq_true_eq] at*;omega) (λa b=>by simp only[YL,decide_eq_true_eq];omega) l
 exact this.imp λh=>by simpa using h
theorem lq(l:List Int):(fm l).Perm l:=List.mergeSort_perm l _
theorem F7{l:List Int}(h:l.Nodup):(fm l).Pairwise (·<·):=by
 have h1:=zC l;have h2:(fm l).Nodup:=(lq l).nodup_iff.2 h;exact(h1.and h2).imp λ⟨a,b⟩=>by omega
theorem CE{β:Type}:∀{l:List (Int×β)} {n:Int},lk l n≠none↔n∈l.map (·.1)
 |[],n=>by simp[lk]
 |(k,x)::l,n=>by
  simp only[lk,ZP,ZI];split
  .rename_i h;simp[h]
  .rename_i h;rw[CE (l:=l)];simp[h]
def Rng(out:List Bnd):Prop:=∀c∈out,0<=c.v/\c.v<=1048576/\c.t.form=true
theorem Rng.nil:Rng []:=λc h=>by cases h
theorem zE{N f:Nat}{g:Gr}(hg:GW N g)(hc:aE g.nodes g.R [])(hk:g.known=[])(hnd:(g.vars.map (·.1)).Nodup)(hf:g.nodes.length<f)(hf20:20<=f):∃out e,fQ N f g=some (out,e)/\Ans (Sat g.nodes g.R []) out e/\Rng out:=by
 have hnu:nuB g.nodes.length []<f:=by
  unfold nuB;have:=Yz (p:=λ(k:Nat)=>decide (¬((k:Nat):Int)∈([]:List Int))) (l:=List.range g.nodes.length);rw[Yu] at this;omega
 have hk0:bU g:=λr m h=>by rw[hk] at h;cases h
 obtain⟨g1,b,q1,q2,q3,q4⟩:=tv (N:=N) (f:=f) (List.range g.nodes.length) g hg hk0 (λk h=>Zd.1 h) hnu
 cases b with
 |false=>exact⟨[],13,by simp only[fQ,q1],.inl ⟨q3 rfl,rfl,rfl⟩,.nil⟩
 |true=>
  obtain⟨s1,_,s3⟩:=q4 rfl;have hg1:=hg.yW q2
  have hall:∀r:Nat,g1.R r r->lk g1.known r≠none:=λr hr=>by
   rw[q2.rr hg.tot] at hr;exact s3 r (Zd.2 (hg.par.lt _ _ hr).1) r hr
  have hex:∀r,g.R r r->∃t,g.Ex r t:=λr hr=>by
   have h1:=hall r (by rw[q2.rr hg.tot];exact hr)
   cases hkr:lk g1.known r with
   |none=>exact absurd hkr h1
   |some m=>
    obtain⟨t,ht,_⟩:=s1 r m hkr;rw[q2.ex hg.tot] at ht;exact⟨t,ht⟩
  have hm:=GV hg.nds hg.par hg.shp hg.lst hc hex
  have hM:mguM g1.nodes g1.R g1.sh g1.le=mguM g.nodes g.R g.sh g.le:=by
   have e2:g1.sh=g.sh:=by show (λr:Nat=>lk g1.shape r)=_;rw[q2.shape]
   have e3:g1.le=g.le:=by show (λr:Nat=>lk g1.least r)=_;rw[q2.least]
   rw[q2.nodes,q2.rr hg.tot,e2,e3]
  have hvs:∀v∈fm (g1.vars.map (·.1)),lk g1.vars v≠none:=λv hv=>CE.2 ((lq _).mem_iff.1 hv);obtain⟨g2,ro,p1,p2⟩:=tq (N:=N) (f:=f) hf20 hg1 s1 hall (fm (g1.vars.map (·.1))) g1 [] (.refl g1) rfl hvs;rw[hM] at p2;obtain⟨M,hMM⟩:∃M,M=mguM g.nodes g.R g.sh g.le:=⟨_,rfl⟩;rw[<-hMM] at p2 hm;rcases p2 with ⟨rfl,h2⟩|⟨rfl,v,h2,h3,h4⟩
  .refine ⟨boundsOf M (fm (g1.vars.map (·.1))),0,by simp only[fQ,q1,p1,Ym],.inr ⟨M,hm,.inl ⟨⟨?_,λv t=>?_⟩,λc hcm=>?_,rfl⟩⟩,λc hcm=>?_⟩
   .unfold boundsOf;rw[List.map_map];have:(fm (g1.vars.map (·.1))).Pairwise (·<·):=F7 (by rw[q2.vars];exact hnd)
    have h5:=this.filter (λv=>decide (¬M v=az v));rw[List.pairwise_map];exact h5
   .unfold boundsOf;rw[Zk];constructor
    .rintro ⟨w,hw,e⟩;cases e;rw[Zo,decide_eq_true_iff] at hw;exact⟨rfl,hw.2⟩
    .rintro ⟨rfl,hv⟩;refine⟨v,?_,rfl⟩;rw[Zo,decide_eq_true_iff];refine⟨(lq _).mem_iff.2 (CE.1 ?_),hv⟩;rw[q2.vars];intro hn;apply hv;rw[hMM];refine p8 ?_;rintro⟨k,x,e1,e2⟩;have:=(hg.vars v k).2 ⟨x,e1,e2⟩;rw[hn] at this;cases this
   .unfold boundsOf at hcm;obtain⟨w,hw,rfl⟩:=Zk.1 hcm;rw[Zo,decide_eq_true_iff] at hw;exact h2 w hw.1 hw.2
   .unfold boundsOf at hcm;obtain⟨w,hw,rfl⟩:=Zk.1 hcm;rw[Zo] at hw;have hwv:=hvs w hw.1
    cases hlk:lk g1.vars w with
    |none=>exact absurd hlk hwv
    |some k=>
     rw[q2.vars] at hlk;obtain⟨x,x1,x2⟩:=(hg.vars w k).1 hlk;have hfx:=hg.nds.frm _ _ x1;have hv:=ix hfx (by rw[x2];rfl)
     rw[x2] at hv;obtain⟨r,hr⟩:=hg.par.tot k (ZB.1 x1).1;obtain⟨t,ht⟩:=hex r (hg.par.idem _ _ hr);refine⟨hv.1,hv.2.1,?_⟩;show (M w).form=true;rw[hMM,lO hg.nds hg.par x1 x2 hr ht];exact ht.form hg.nds hg.par hg.shp hg.lst
  .exact ⟨[],6,by simp only[fQ,q1,p1],.inr ⟨M,hm,.inr ⟨⟨v,h3,h4⟩,rfl,rfl⟩⟩,.nil⟩
theorem zK{nds:List Nd}{rt:Nat->Nat->Prop}{i k:Nat}{σ:Int->Tm}:Sat nds rt [(i,k)] σ↔Sat nds rt [] σ/\gv nds σ i=gv nds σ k:=
 ⟨λh=>⟨⟨h.1,λp hp=>by cases hp⟩,h.2 (i,k) (Zp.2 rfl)⟩,λh=>⟨h.1.1,λp hp=>by rw[Zp] at hp;subst hp;exact h.2⟩⟩
theorem nE{nds:List Nd}{rt:Nat->Nat->Prop}{ps:List (Nat×Nat)}(h:aE nds rt []):aE nds rt ps:=λi k r x y hx hy hx1 hy1 hi hk=>(h i k r x y hx hy hx1 hy1 hi hk).mono λc d hcd=>Cl.map (ps:=[]) (λc d r h1 h2=>.cls h1 h2) (λc d hm=>by cases hm) hcd
theorem zQ{N f:Nat}:∀(ps:List (Tm×Tm)) (g:Gr),GW N g->aE g.nodes g.R []->g.known=[]->g.ok->(∀p∈ps,p.1.form=true/\p.2.form=true)->g.up.length+(Tm.ai (ps.map (·.1))+Tm.ai (ps.map (·.2)))<N->7*N+1<f->N<=400000000->
  ∃g' b,vY N f g ps=some (g',b)/\(b=true->GW N g'/\aE g'.nodes g'.R []/\g'.known=[]/\g'.ok/\∀σ,Sat g'.nodes g'.R [] σ↔(Sat g.nodes g.R [] σ/\Eqs ps σ))/\(b=false->∀σ,¬(Sat g.nodes g.R [] σ/\Eqs ps σ))
 |[],g,hg,hc,hk,hok,_,_,_,_=>⟨g,true,rfl,λ_=>⟨hg,hc,hk,hok,λσ=>⟨λh=>⟨h,λp hp=>by cases hp⟩,λh=>h.1⟩⟩,λe=>by cases e⟩
 |(x,y)::ps,g,hg,hc,hk,hok,hfm,hN,hf,hN2=>by
  obtain⟨fx,fy⟩:=hfm (x,y) (ZV ..);simp only[ZP,Tm.ai] at hN;have ok1:=nN x fx hok;obtain⟨a1,n1,a2,a3⟩:=vF x hg hc fx (by omega)
  have l1:=(lf g x).2;have ok2:=nN y fy ok1;obtain⟨b1,n2,b2,b3⟩:=vF y a1.gw a1.cl fy (by omega)
  have l2:=(lf (bC g x).1 y).2;have hab:=a1.trans b1;have hx2:=b1.old _ _ a2;have hlen:=b1.gw.len;have hcls:=HE (bC (bC g x).1 y).1.up;have hlim:=b1.gw.lim
  obtain⟨g',b,q1,q2,q3⟩:=n5 f (bC (bC g x).1 y).1 [((bC g x).2,(bC (bC g x).1 y).2)] b1.gw (nE b1.cl) (λp hp=>by
   rw[Zp] at hp;subst hp;exact⟨by rw[hlen];exact(ZB.1 hx2).1,by rw[hlen];exact(ZB.1 b2).1⟩) (by simp only[ZU];omega) (by simp only[ZU];omega)
  have hsat:∀σ,Sat (bC (bC g x).1 y).1.nodes (bC (bC g x).1 y).1.R [((bC g x).2,(bC (bC g x).1 y).2)] σ↔(Sat g.nodes g.R [] σ/\app σ x=app σ y):=λσ=>by
   rw[zK,hab.sat σ,kT hx2,kT b2,a3,b3]
  have hcons:∀σ,Eqs ((x,y)::ps) σ↔(app σ x=app σ y/\Eqs ps σ):=λσ=>⟨λh=>⟨h (x,y) (ZV ..),λp hp=>h p (ZQ _ hp)⟩,λh p hp=>by
   rcases ZI.1 hp with rfl|hp
   .exact h.1
   .exact h.2 p hp⟩
  cases b with
  |false=>
   refine⟨g',false,by simp only[vY,q1],λe=>(by cases e),λ_ σ hs=>?_⟩
   rw[hcons] at hs
   exact q3 rfl σ ((hsat σ).2 ⟨hs.1,hs.2.1⟩)
  |true=>
   obtain⟨k1,k2,k3,k4,k5,k6⟩:=q2 rfl;have hk':g'.known=[]:=by rw[k5,hab.kn,hk]
   have hok':=(kS q1 ok2).1;have hup':g'.up.length=(bC (bC g x).1 y).1.up.length:=by rw[k1.len,k3,hlen]
   obtain⟨g3,b3',p1,p2,p3⟩:=zQ ps g' k1 k2 hk' hok' (λp hp=>hfm p (ZQ _ hp)) (by omega) hf hN2
   refine⟨g3,b3',by simp only[vY,q1];exact p1,λe=>?_,λe σ hs=>?_⟩
   .obtain ⟨s1,s2,s3,s4,s5⟩:=p2 e;refine⟨s1,s2,s3,s4,λσ=>?_⟩;rw[s5 σ,k6 σ,hsat σ,hcons σ,and_assoc]
   .rw [hcons] at hs;exact p3 e σ ⟨(k6 σ).2 ((hsat σ).2 ⟨hs.1,hs.2.1⟩),hs.2.2⟩
theorem Ku{N:Nat}(h:0<N):GW N gr0:=by
 have hr:∀k r,¬gr0.R k r:=λk r ⟨d,hd⟩=>by have:=hd.lt;exact absurd this (Yn _)
 refine⟨rfl,λk hk=>absurd hk (Yn _),λk r d hd=>absurd hd.lt (Yn _),⟨?_,?_,?_,?_⟩,λv i=>?_,λr hr'=>absurd hr' (hr _ _),λr hr'=>absurd hr' (hr _ _),h,λk _=>⟨rfl,rfl⟩⟩
 .intro i x h;simp[gr0] at h
 .intro i x h;simp[gr0] at h
 .intro i x h;simp[gr0] at h
 .intro i j x y h;simp[gr0] at h
 .constructor
  .intro h;cases h
  .rintro ⟨x,h,_⟩;simp[gr0] at h
theorem CP:aE gr0.nodes gr0.R []:=λi k r x y h=>by simp[gr0] at h
theorem DT(σ:Int->Tm):Sat gr0.nodes gr0.R [] σ:=⟨λk r ⟨d,hd⟩=>absurd hd.lt (Yn _),λp hp=>by cases hp⟩
theorem yd:∀{a b:List Tm},a.length=b.length->(a.zip b).map (·.1)=a/\(a.zip b).map (·.2)=b
 |[],[],_=>⟨rfl,rfl⟩
 |[],_::_,h=>by cases h
 |_::_,[],h=>by cases h
 |x::a,y::b,h=>by
  have:=yd (a:=a) (b:=b) (by simpa using h)
  simp only[List.zip_cons_cons,ZP,this.1,this.2,and_self]
abbrev fN:Nat:=300000001
abbrev fF:Nat:=2200000000
theorem HT{a b:List Tm}(hN:Tm.ai a+Tm.ai b<=300000000):∃out e,wH fN fF a b=some (out,e)/\(if (a.all Tm.right&&b.all Tm.right)=true then (if a.length=b.length then Ans (Eqs (a.zip b)) out e else out=[]/\e=9) else out=[]/\e=2)/\Rng out:=by
 have hfN:fN=300000001:=rfl;have hfF:fF=2200000000:=rfl;unfold wH
 by_cases hr:(a.all Tm.right&&b.all Tm.right)=true
 .simp only[if_pos hr]
  by_cases hl:a.length=b.length
  .simp only[if_pos hl];simp only[ZD] at hr
   have hfm:∀p∈a.zip b,p.1.form=true/\p.2.form=true:=λp hp=>by
    have:=List.of_mem_zip hp;exact⟨cU (ZS.1 hr.1 _ this.1),cU (ZS.1 hr.2 _ this.2)⟩
   obtain⟨z1,z2⟩:=yd hl;obtain⟨g,bb,q1,q2,q3⟩:=zQ (N:=fN) (f:=fF) (a.zip b) gr0 (Ku (by decide)) CP rfl Hg hfm (by rw[z1,z2];show 0+_<_;omega) (by decide) (by decide)
   rw[q1]
   cases bb with
   |false=>exact⟨[],13,rfl,.inl ⟨λσ hs=>q3 rfl σ ⟨DT σ,hs⟩,rfl,rfl⟩,.nil⟩
   |true=>
    obtain⟨s1,s2,s3,s4,s5⟩:=q2 rfl;have hlim:=s1.lim;have hlen:=s1.len;obtain⟨out,e,p1,p2,p3⟩:=zE (f:=fF) s1 s2 s3 s4.nodup (by omega) (by decide)
    refine⟨out,e,p1,p2.congr λσ=>?_,p3⟩;rw[s5 σ];exact⟨λh=>h.2,λh=>⟨DT σ,h⟩⟩
  .simp only[if_neg hl];exact⟨[],9,rfl,⟨rfl,rfl⟩,.nil⟩
 .simp only[if_neg hr];exact⟨[],2,rfl,⟨rfl,rfl⟩,.nil⟩
end Go.CK
namespace Go.CK
open Go.AM Go.Proofs
theorem zN(a b:Tm):Fun Tryz.prog 45 [a.avw,b.avw] (.bool (decide (a.cmp b=0))):=by
 refine Fun.of (kJ (by simp) ?_) rfl rfl
 conv=>whnf
 repeat' (first|refine gF (ab.fn (vZ a b) ?_)|refine af.nrm ?_)<;>conv=>whnf
def aX:List Bnd->Int->Option Tm
 |[],_=>none
 |x::l,v=>if x.v=v then some x.t else aX l v
def pb:Option Tm->AV
 |some t=>.tup [t.avw,.bool true]
 |none=>.tup [(Tm.mk 0 0 ⟨⟨[]⟩⟩ []).avw,.bool false]
theorem xz(o:Option Tm):(pb o).lt 0=true:=by cases o<;>rfl
theorem pa(l:List Bnd)(v:Int):Fun Tryz.prog 84 [.sl .no (l.map Bnd.av),.int .i64 v] (pb (aX l v)):=by
 refine Fun.of (Sem.assume λhg0 _=>?_) rfl (xz _);have hg:=(bH (hg0 (.sl .no (l.map Bnd.av)) (by simp) rfl)).1
 refine iI (by simp) ?_
 conv=>whnf
 skip;refine aw.by (fb:=true) (λ_ (j:Nat)=>⟨[(0,.sl .no (l.map Bnd.av)),(1,.int .i64 v),(4,.ptr 0 0),(6,.int .i64 (j:Int))],[.cells [.int .i64 0,.int .i64 0,.str ⟨⟨[]⟩⟩,.sl .full []]],0⟩) (λj=>j<=l.length/\aX (l.drop j) v=aX l v) (λj=>l.length-j) 0 ⟨ZJ _,rfl⟩ ?_ ?_
 .exact au
 .rintro j ⟨q1,q2⟩
  by_cases hj:j<l.length
  .obtain ⟨x,hx⟩:∃x,l[j]? =some x:=⟨_,ZA hj⟩;rw[ZH hj,(ZB.1 hx).2,aX] at q2
   by_cases hv:x.v=v
   .rw [if_pos hv] at q2;rw[<-q2]
    conv=>whnf
    repeat' (first|refine gC (gD (cI ?_))|refine gL (.map ?_)|refine gI (gM (iE ?_)))<;>conv=>whnf
    conv=>whnf
    repeat' refine af.nrm ?_<;>conv=>whnf
    rfl
   .rw [if_neg hv] at q2
    conv=>whnf
    repeat' (first|(refine gC ?_;(refine gD ?_;first|refine cI ?_|refine cJ ?_))|refine gW (wI ?_)|refine gL (.map ?_)|refine gI (gM (iE ?_)))<;>conv=>whnf
    refine⟨j+1,⟨⟨hj,q2⟩,by omega⟩,?_⟩
    exact au
  .obtain rfl:j=l.length:=by omega
   rw[Zj,aX] at q2;rw[<-q2]
   conv=>whnf
   repeat' (first|refine gC (gD (cJ ?_))|refine gL (.map ?_))<;>conv=>whnf
   conv=>whnf
   repeat' refine af.nrm ?_<;>conv=>whnf
   rfl
mutual
def cR(b:List Bnd):Tm->Tm
 |.mk k n s l=>if k=1 then (match aX b n with|some x=>x|none=>.mk k n s l) else if k=2 then .mk k n s (Ef b l) else .mk k n s l
def Ef(b:List Bnd):List Tm->List Tm
 |[]=>[]
 |t::r=>cR b t::Ef b r
end
theorem x7(b:List Bnd):∀l:List Tm,Ef b l=l.map (cR b)
 |[]=>rfl
 |t::r=>by rw[Ef,x7 b r];rfl
theorem HN{b:List Bnd}{t:Tm}(h:t.kind=1):cR b t=match aX b t.num with|some x=>x|none=>t:=by
 obtain⟨k,n,s,l⟩:=t;simp only[Tm.kind] at h;rw[cR,if_pos h];rfl
theorem HM{b:List Bnd}{t:Tm}(h:t.kind=2):cR b t=.mk t.kind t.num t.name (t.args.map (cR b)):=by
 obtain⟨k,n,s,l⟩:=t;simp only[Tm.kind] at h;rw[cR,if_neg (by omega),if_pos h,x7];rfl
theorem HL{b:List Bnd}{t:Tm}(h1:¬t.kind=1)(h2:¬t.kind=2):cR b t=t:=by
 obtain⟨k,n,s,l⟩:=t;simp only[Tm.kind] at h1 h2;rw[cR,if_neg h1,if_neg h2]
theorem wG{b:List Bnd}{l:List Tm} (hL:l.length<=4000000000) (h:∀x∈l,Fun Tryz.prog 48 [.sl .no (b.map Bnd.av),x.avw] (cR b x).avw):Fun Tryz.prog 76 [.sl .no (b.map Bnd.av),.sl .no (l.map Tm.av)] (.sl .no ((l.map (cR b)).map Tm.av)):=by
 refine Fun.of (Sem.assume fun _ _=>?_) rfl rfl;have hg:l.length<=4294967296:=by omega
 refine fu (by simp) ?_
 conv=>whnf
 skip;refine aw.by (fb:=true) (λ_ (j:Nat)=>⟨[(0,.sl .no (b.map Bnd.av)),(1,.sl .no (l.map Tm.av)),(5,.sl (.own 4) (((l.take j).map (cR b)).map Tm.av)),(6,.int .i64 (j:Int))],[],0⟩) (λj=>j<=l.length) (λj=>l.length-j) 0 (ZJ _) ?_ ?_
 .refine ah.at_ ?_ rfl
  conv=>whnf
  refine And.intro ?_ ?_<;>conv=>whnf
  all_goals repeat' (first|(refine gV ?_;first|refine vE ?_|refine vI ?_|((refine gK ?_;refine vD ?_ ?_);(focus (simp[AV.norm,AV.aD,];done))))|exact True.intro)<;>conv=>whnf
 .rintro j q1
  by_cases hj:j<l.length
  .obtain ⟨x,hx⟩:∃x,l[j]? =some x:=⟨_,ZA hj⟩;have htk:l.take (j+1)=l.take j++[x]:=by rw[Zz,hx];rfl
   have hcall:=h x (ZE hx)
   conv=>whnf
   repeat' (first|refine gF (ab.fn (hcall) ?_)|refine gC (gD (cI ?_))|refine gW (wI ?_)|refine gL (.map ?_)|refine gN (nS ?_)|refine gI (gT (iA ?_)))<;>conv=>whnf
   refine⟨j+1,⟨hj,by omega⟩,?_⟩
   rw[htk];refine ah.at_ ?_ rfl
   conv=>whnf
   refine And.intro ?_ ?_<;>conv=>whnf
   all_goals repeat' (first|(refine gV ?_;first|refine vE ?_|refine vI ?_|(refine WkN.sl ?_ ?_;(focus (simp[AV.norm,AV.aD,Tm.nK,Tm.avw];done))))|exact True.intro)<;>conv=>whnf
  .obtain rfl:j=l.length:=by omega
   rw[Zl (ZG _)]
   conv=>whnf
   repeat' (first|refine gC (gD (cJ ?_))|refine gL (.map ?_)|refine af.nrm ?_)<;>conv=>whnf
theorem x5(b:List Bnd)(t:Tm):t.nodes<=1000000->Fun Tryz.prog 48 [.sl .no (b.map Bnd.av),t.avw] (cR b t).avw:=by
 induction t using Tm.bD with
 |h k i s l ih=>
 intro hN;generalize ha:Tm.mk k i s l=t at hN|-;replace ih:∀x∈t.args,x.nodes<=1000000->Fun Tryz.prog 48 [.sl .no (b.map Bnd.av),x.avw] (cR b x).avw:=by subst ha;exact ih
 have hnl:Tm.ai t.args+1<=t.nodes:=by subst ha;simp only[Tm.nodes,Tm.args];omega
 have hlen:=bF t.args
 clear ha
 by_cases h1:t.kind=1
 .rw [HN h1];have hl:=pa b t.num
  cases hlk:aX b t.num with
  |none=>
   rw[hlk] at hl;have hl:Fun Tryz.prog 84 [.sl .no (b.map Bnd.av),.int .i64 t.num] (.tup [.agg [.int .i64 0,.int .i64 0,.str ⟨⟨[]⟩⟩,.sl .no []],.bool false]):=hl;refine Fun.of (bu (by simp) ?_) rfl rfl
   conv=>whnf
   repeat' (first|refine gF (ab.fn (hl) ?_)|(refine gC ?_;first|refine cN ?_|refine gD (cI ?_)))<;>conv=>whnf
   conv=>whnf
   repeat' refine af.nrm ?_<;>conv=>whnf
   rfl
  |some x=>
   rw[hlk] at hl;have hl:Fun Tryz.prog 84 [.sl .no (b.map Bnd.av),.int .i64 t.num] (.tup [.agg [.int .i64 x.kind,.int .i64 x.num,.str x.name,.sl .no (x.args.map Tm.av)],.bool true]):=hl;refine Fun.of (bu (by simp) ?_) rfl rfl
   conv=>whnf
   repeat' (first|refine gF (ab.fn (hl) ?_)|(refine gC ?_;first|refine cY ?_|refine gD (cI ?_)))<;>conv=>whnf
   conv=>whnf
   repeat' refine af.nrm ?_<;>conv=>whnf
   rfl
 .by_cases h2:t.kind=2
  .rw [HM h2];have hl:=wG (by omega) fun x hx=>ih x hx (by have:=kP hx;omega);refine Fun.of (bu (by simp) ?_) rfl rfl
   conv=>whnf
   repeat' (first|refine gF (ab.fn (hl) ?_)|(refine gC ?_;(refine gD ?_;first|refine cI ?_|refine cJ ?_)))<;>conv=>whnf
   conv=>whnf
   repeat' refine af.nrm ?_<;>conv=>whnf
   rfl
  .rw [HL h1 h2];refine Fun.of (bu (by simp) ?_) rfl rfl
   conv=>whnf
   repeat' refine gC (gD (cJ ?_))<;>conv=>whnf
   conv=>whnf
   repeat' refine af.nrm ?_<;>conv=>whnf
   rfl
mutual
theorem F3:∀t:Tm,t.sz<=t.nodes
 |.mk k n s l=>by
  have:=qw l;simp only[Tm.sz,Tm.nodes];split<;>omega
theorem qw:∀l:List Tm,Tm.szs l<=Tm.ai l
 |[]=>ZG _
 |t::r=>by
  have:=F3 t;have:=qw r;simp only[Tm.szs,Tm.ai];omega
end
mutual
theorem Fh:∀t:Tm,t.dep<=t.nodes
 |.mk k n s l=>by
  have:=po l;simp only[Tm.dep,Tm.nodes];split<;>omega
theorem po:∀l:List Tm,Tm.eE l<=Tm.ai l
 |[]=>ZG _
 |t::r=>by
  have:=Fh t;have:=po r;simp only[Tm.eE,Tm.ai];omega
end
theorem Gf(t:Tm):t.nodes<=1000000000->Fun Tryz.prog 106 [t.avw] (.int .i64 (t.sz:Int)):=by
 induction t using Tm.bD with
 |h k i s l ih=>
 intro hN;generalize ha:Tm.mk k i s l=t at hN|-;replace ih:∀x∈t.args,x.nodes<=1000000000->Fun Tryz.prog 106 [x.avw] (.int .i64 (x.sz:Int)):=by subst ha;exact ih
 have hnl:Tm.ai t.args+1<=t.nodes:=by subst ha;simp only[Tm.nodes,Tm.args];omega
 clear ha
 have hsz:t.sz=1+Tm.szs t.use:=by
  unfold Tm.use
  by_cases h2:t.kind=2
  .rw [if_pos h2,mM h2]
  .rw [if_neg h2,pF h2];rfl
 have huse:∀x∈t.use,x∈t.args:=λx hx=>by unfold Tm.use at hx;split at hx;exact hx;cases hx
 have hul:Tm.ai t.use<=Tm.ai t.args:=by unfold Tm.use;split;exact ZG _;exact ZJ _
 have hlen:=bF t.use;have hszn:=qw t.use;rw[hsz];refine Fun.of (kI (by simp) ?_) rfl rfl
 conv=>whnf
 repeat' refine gF (ab.fn (dK) ?_)<;>conv=>whnf
 refine aw.by (fb:=true) (λ_ (j:Nat)=>⟨[(3,.int .i64 ((1+Tm.szs (t.use.take j):Nat):Int)),(4,.sl .no (t.use.map Tm.av)),(5,.int .i64 (j:Int))],[],0⟩) (λj=>j<=t.use.length) (λj=>t.use.length-j) 0 (ZJ _) ?_ ?_
 .rw [YJ];refine ah.lay [] oko ?_
  conv=>whnf
  refine ah.at_ ?_ rfl
  conv=>whnf
  refine And.intro ?_ ?_<;>conv=>whnf
  all_goals repeat' (first|(refine gV ?_;first|refine vE ?_|refine vI ?_|(refine WkN.norm ?_ ?_;(focus (simp[AV.norm,AV.aD,Tm.szs,Tm.eE];done))))|exact True.intro)<;>conv=>whnf
 .rintro j q1
  by_cases hj:j<t.use.length
  .obtain ⟨x,hx⟩:∃x,t.use[j]? =some x:=⟨_,ZA hj⟩;have htk:t.use.take (j+1)=t.use.take j++[x]:=by rw[Zz,hx];rfl
   have hst:=te t.use hx;have hm:=kP (ZE hx);have hcall:=ih x (huse x (ZE hx)) (by omega)
   conv=>whnf
   repeat' (first|refine gF (ab.fn (hcall) ?_)|refine gC (gD (cI ?_))|refine gW (wI ?_)|refine gL (.map ?_)|refine gI (gT (iA ?_)))<;>conv=>whnf
   refine⟨j+1,⟨hj,by omega⟩,?_⟩
   rw[htk,pD];exact au
  .obtain rfl:j=t.use.length:=by omega
   rw[Zl (ZG _)]
   conv=>whnf
   repeat' (first|refine gC (gD (cJ ?_))|refine gL (.map ?_)|refine af.nrm ?_)<;>conv=>whnf
theorem Fg(t:Tm):t.nodes<=1000000000->Fun Tryz.prog 107 [t.avw] (.int .i64 (t.dep:Int)):=by
 induction t using Tm.bD with
 |h k i s l ih=>
 intro hN;generalize ha:Tm.mk k i s l=t at hN|-;replace ih:∀x∈t.args,x.nodes<=1000000000->Fun Tryz.prog 107 [x.avw] (.int .i64 (x.dep:Int)):=by subst ha;exact ih
 have hnl:Tm.ai t.args+1<=t.nodes:=by subst ha;simp only[Tm.nodes,Tm.args];omega
 clear ha
 have hsz:t.dep=Tm.eE t.use+1:=by
  unfold Tm.use
  by_cases h2:t.kind=2
  .rw [if_pos h2,ja h2]
  .rw [if_neg h2,qo h2];rfl
 have huse:∀x∈t.use,x∈t.args:=λx hx=>by unfold Tm.use at hx;split at hx;exact hx;cases hx
 have hul:Tm.ai t.use<=Tm.ai t.args:=by unfold Tm.use;split;exact ZG _;exact ZJ _
 have hlen:=bF t.use;have hdn:Tm.eE t.use<=Tm.ai t.use:=po t.use;rw[hsz];refine Fun.of (jN (by simp) ?_) rfl rfl
 conv=>whnf
 repeat' refine gF (ab.fn (dK) ?_)<;>conv=>whnf
 refine aw.by (fb:=true) (λ_ (j:Nat)=>⟨[(3,.int .i64 ((Tm.eE (t.use.take j):Nat):Int)),(4,.sl .no (t.use.map Tm.av)),(5,.int .i64 (j:Int))],[],0⟩) (λj=>j<=t.use.length) (λj=>t.use.length-j) 0 (ZJ _) ?_ ?_
 .rw [YJ];refine ah.lay [] oko ?_
  conv=>whnf
  refine ah.at_ ?_ rfl
  conv=>whnf
  refine And.intro ?_ ?_<;>conv=>whnf
  all_goals repeat' (first|(refine gV ?_;first|refine vE ?_|refine vI ?_|(refine WkN.norm ?_ ?_;(focus (simp[AV.norm,AV.aD,Tm.szs,Tm.eE];done))))|exact True.intro)<;>conv=>whnf
 .rintro j q1
  by_cases hj:j<t.use.length
  .obtain ⟨x,hx⟩:∃x,t.use[j]? =some x:=⟨_,ZA hj⟩;have htk:t.use.take (j+1)=t.use.take j++[x]:=by rw[Zz,hx];rfl
   have hm:=kP (ZE hx);have hcall:=ih x (huse x (ZE hx)) (by omega)
   conv=>whnf
   repeat' (first|refine gF (ab.fn (hcall) ?_)|refine gC (gD (cI ?_))|refine gW (wI ?_)|refine gL (.map ?_)|refine gI (gT (iA ?_)))<;>conv=>whnf
   refine⟨j+1,⟨hj,by omega⟩,?_⟩
   rw[htk,rO];exact au
  .obtain rfl:j=t.use.length:=by omega
   rw[Zl (ZG _)]
   conv=>whnf
   repeat' (first|refine gC (gD (cJ ?_))|refine gW (wI ?_)|refine gL (.map ?_)|refine af.nrm ?_)<;>conv=>whnf
   rfl
theorem nr{l:List Tm}{x:Tm}(h:x∈l)(hf:x.form=false):Tm.bN l=false:=by
 rw[Bool.eq_false_iff];intro e;rw[rH e h] at hf;cases hf
set_option maxHeartbeats 1000000 in
theorem Hm(t:Tm):Fun Tryz.prog 105 [t.avw] (.bool t.form):=by
 induction t using Tm.bD with
 |h k i s l ih=>
 generalize ha:Tm.mk k i s l=t;replace ih:∀x∈t.args,Fun Tryz.prog 105 [x.avw] (.bool x.form):=by subst ha;exact ih
 clear ha;refine Fun.assume rfl λhg0=>?_;have hg:=(oe (hg0 t.avw (by simp))).2.1
 by_cases hk2:t.kind=2
 .rw [rI hk2];have hoo:=GG t.name;have hro:=EF t.name
  by_cases h3:t.num=0
  rotate_left
  .rw [decide_eq_false (λe=>h3 e.1),Zu];cases hop:eR t.name<;>rw[hop] at hoo
   all_goals
    refine Fun.of (ax (by simp) ?_) rfl rfl
    conv=>whnf
    repeat' (first|refine gF (ab.fn (hoo) ?_)|(refine gC ?_;first|refine cY ?_|refine cN ?_|refine .not ?_|(refine gD ?_;first|refine cI ?_|refine cJ ?_))|refine gL (.map ?_)|refine af.nrm ?_)<;>conv=>whnf
    try rfl
  by_cases h6:t.args.length<=6
  .rw [decide_eq_true (show t.num=0/\t.args.length<=6 from ⟨h3,h6⟩),Za]
   by_cases hol:eR t.name=true/\t.args.length=2
   .obtain ⟨hop,h2⟩:=hol;rw[hop,decide_eq_true h2,Za,Bool.or_true,Za];rw[hop] at hoo;refine Fun.of (ax (by simp) ?_) rfl rfl
    conv=>whnf
    repeat' (first|refine gF (ab.fn (hoo) ?_)|(refine gC ?_;first|refine cY ?_|refine cN ?_|refine .not ?_|(refine gD ?_;first|refine cI ?_|refine cJ ?_))|refine gL (.map ?_))<;>conv=>whnf
    refine aw.by (fb:=true) (λ_ (j:Nat)=>⟨[(1,.ptr 0 0),(4,.int .i64 (j:Int))],[.cells [.int .i64 t.kind,.int .i64 t.num,.str t.name,.sl .no (t.args.map Tm.av)]],0⟩) (λj=>j<=t.args.length/\Tm.bN (t.args.take j)=true) (λj=>t.args.length-j) 0 ⟨ZJ _,rfl⟩ ?_ ?_
    .exact au
    .rintro j ⟨q1,q2⟩
     by_cases hj:j<t.args.length
     .obtain ⟨x,hx⟩:∃x,t.args[j]? =some x:=⟨_,ZA hj⟩;have htk:t.args.take (j+1)=t.args.take j++[x]:=by rw[Zz,hx];rfl
      have hcall:=ih x (ZE hx)
      cases hxf:x.form with
      |false=>
       rw[hxf] at hcall
       conv=>whnf
       repeat' (first|refine gF (ab.fn (hcall) ?_)|(refine gC ?_;first|refine cN ?_|refine .not ?_|refine gD (cI ?_))|refine gL (.map ?_)|refine gI (gT (iA ?_))|refine af.nrm ?_)<;>conv=>whnf
       exact congrArg AV.bool (nr (ZE hx) hxf).symm
      |true=>
       rw[hxf] at hcall
       conv=>whnf
       repeat' (first|refine gF (ab.fn (hcall) ?_)|(refine gC ?_;first|refine cY ?_|refine .not ?_|refine gD (cI ?_))|refine gW (wI ?_)|refine gL (.map ?_)|refine gI (gT (iA ?_)))<;>conv=>whnf
       refine⟨j+1,⟨⟨hj,by rw[htk,iw,q2,hxf];rfl⟩,by omega⟩,?_⟩
       exact au
     .obtain rfl:j=t.args.length:=by omega
      rw[Zl (ZG _)] at q2
      conv=>whnf
      repeat' (first|refine gC (gD (cJ ?_))|refine gL (.map ?_)|refine af.nrm ?_)<;>conv=>whnf
      exact congrArg AV.bool q2.symm
   .have hob:(eR t.name&&decide (t.args.length=2))=false:=by
     rw[Bool.eq_false_iff];intro e;rw[ZD,decide_eq_true_eq] at e;exact hol e
    rw[hob,Bool.or_false]
    cases hnr:mf t.name with
    |false=>
     rw[hnr] at hro;rw[Zu]
     cases hop:eR t.name with
     |false=>
      rw[hop] at hoo;refine Fun.of (ax (by simp) ?_) rfl rfl
      conv=>whnf
      repeat' (first|(refine gF ?_;first|refine ab.fn (hoo) ?_|refine ab.fn (hro) ?_)|(refine gC ?_;first|refine cY ?_|refine cN ?_|refine .not ?_|(refine gD ?_;first|refine cI ?_|refine cJ ?_))|refine af.nrm ?_)<;>conv=>whnf
     |true=>
      rw[hop] at hoo;have h2:¬t.args.length=2:=λe=>hol ⟨hop,e⟩;refine Fun.of (ax (by simp) ?_) rfl rfl
      conv=>whnf
      repeat' (first|(refine gF ?_;first|refine ab.fn (hoo) ?_|refine ab.fn (hro) ?_)|(refine gC ?_;first|refine cY ?_|refine cN ?_|refine .not ?_|(refine gD ?_;first|refine cI ?_|refine cJ ?_))|refine gL (.map ?_)|refine af.nrm ?_)<;>conv=>whnf
    |true=>
     rw[hnr] at hro;rw[Za]
     cases hop:eR t.name with
     |false=>
      rw[hop] at hoo;refine Fun.of (ax (by simp) ?_) rfl rfl
      conv=>whnf
      repeat' (first|(refine gF ?_;first|refine ab.fn (hoo) ?_|refine ab.fn (hro) ?_)|(refine gC ?_;first|refine cY ?_|refine cN ?_|refine .not ?_|(refine gD ?_;first|refine cI ?_|refine cJ ?_))|refine gL (.map ?_))<;>conv=>whnf
      refine aw.by (fb:=true) (λ_ (j:Nat)=>⟨[(1,.ptr 0 0),(4,.int .i64 (j:Int))],[.cells [.int .i64 t.kind,.int .i64 t.num,.str t.name,.sl .no (t.args.map Tm.av)]],0⟩) (λj=>j<=t.args.length/\Tm.bN (t.args.take j)=true) (λj=>t.args.length-j) 0 ⟨ZJ _,rfl⟩ ?_ ?_
      .exact au
      .rintro j ⟨q1,q2⟩
       by_cases hj:j<t.args.length
       .obtain ⟨x,hx⟩:∃x,t.args[j]? =some x:=⟨_,ZA hj⟩;have htk:t.args.take (j+1)=t.args.take j++[x]:=by rw[Zz,hx];rfl
        have hcall:=ih x (ZE hx)
        cases hxf:x.form with
        |false=>
         rw[hxf] at hcall
         conv=>whnf
         repeat' (first|refine gF (ab.fn (hcall) ?_)|(refine gC ?_;first|refine cN ?_|refine .not ?_|refine gD (cI ?_))|refine gL (.map ?_)|refine gI (gT (iA ?_))|refine af.nrm ?_)<;>conv=>whnf
         exact congrArg AV.bool (nr (ZE hx) hxf).symm
        |true=>
         rw[hxf] at hcall
         conv=>whnf
         repeat' (first|refine gF (ab.fn (hcall) ?_)|(refine gC ?_;first|refine cY ?_|refine .not ?_|refine gD (cI ?_))|refine gW (wI ?_)|refine gL (.map ?_)|refine gI (gT (iA ?_)))<;>conv=>whnf
         refine⟨j+1,⟨⟨hj,by rw[htk,iw,q2,hxf];rfl⟩,by omega⟩,?_⟩
         exact au
       .obtain rfl:j=t.args.length:=by omega
        rw[Zl (ZG _)] at q2
        conv=>whnf
        repeat' (first|refine gC (gD (cJ ?_))|refine gL (.map ?_)|refine af.nrm ?_)<;>conv=>whnf
        exact congrArg AV.bool q2.symm
     |true=>
      rw[hop] at hoo;have h2:¬t.args.length=2:=λe=>hol ⟨hop,e⟩;refine Fun.of (ax (by simp) ?_) rfl rfl
      conv=>whnf
      repeat' (first|(refine gF ?_;first|refine ab.fn (hoo) ?_|refine ab.fn (hro) ?_)|(refine gC ?_;first|refine cY ?_|refine .not ?_|(refine gD ?_;first|refine cI ?_|refine cJ ?_))|refine gL (.map ?_))<;>conv=>whnf
      refine aw.by (fb:=true) (λ_ (j:Nat)=>⟨[(1,.ptr 0 0),(4,.int .i64 (j:Int))],[.cells [.int .i64 t.kind,.int .i64 t.num,.str t.name,.sl .no (t.args.map Tm.av)]],0⟩) (λj=>j<=t.args.length/\Tm.bN (t.args.take j)=true) (λj=>t.args.length-j) 0 ⟨ZJ _,rfl⟩ ?_ ?_
      .exact au
      .rintro j ⟨q1,q2⟩
       by_cases hj:j<t.args.length
       .obtain ⟨x,hx⟩:∃x,t.args[j]? =some x:=⟨_,ZA hj⟩;have htk:t.args.take (j+1)=t.args.take j++[x]:=by rw[Zz,hx];rfl
        have hcall:=ih x (ZE hx)
        cases hxf:x.form with
        |false=>
         rw[hxf] at hcall
         conv=>whnf
         repeat' (first|refine gF (ab.fn (hcall) ?_)|(refine gC ?_;first|refine cN ?_|refine .not ?_|refine gD (cI ?_))|refine gL (.map ?_)|refine gI (gT (iA ?_))|refine af.nrm ?_)<;>conv=>whnf
         exact congrArg AV.bool (nr (ZE hx) hxf).symm
        |true=>
         rw[hxf] at hcall
         conv=>whnf
         repeat' (first|refine gF (ab.fn (hcall) ?_)|(refine gC ?_;first|refine cY ?_|refine .not ?_|refine gD (cI ?_))|refine gW (wI ?_)|refine gL (.map ?_)|refine gI (gT (iA ?_)))<;>conv=>whnf
         refine⟨j+1,⟨⟨hj,by rw[htk,iw,q2,hxf];rfl⟩,by omega⟩,?_⟩
         exact au
       .obtain rfl:j=t.args.length:=by omega
        rw[Zl (ZG _)] at q2
        conv=>whnf
        repeat' (first|refine gC (gD (cJ ?_))|refine gL (.map ?_)|refine af.nrm ?_)<;>conv=>whnf
        exact congrArg AV.bool q2.symm
  .rw [decide_eq_false (λe=>h6 e.2),Zu];have h2:¬t.args.length=2:=by omega
   cases hnr:mf t.name<;>rw[hnr] at hro<;>cases hop:eR t.name<;>rw[hop] at hoo
   all_goals
    refine Fun.of (ax (by simp) ?_) rfl rfl
    conv=>whnf
    repeat' (first|(refine gF ?_;first|refine ab.fn (hoo) ?_|refine ab.fn (hro) ?_)|(refine gC ?_;first|refine cY ?_|refine cN ?_|refine .not ?_|(refine gD ?_;first|refine cI ?_|refine cJ ?_))|refine gL (.map ?_)|refine af.nrm ?_)<;>conv=>whnf
    try rfl
 .by_cases hk0:t.kind=0
  .rw [uL hk0];refine Fun.of (ax (by simp) ?_) rfl rfl
   conv=>whnf
   repeat' (first|(refine gC ?_;first|refine cN ?_|(refine gD ?_;first|refine cI ?_|refine cJ ?_)|refine aq.le (λhc=>?_) (λhc=>?_)|refine aq.dec (λhc=>?_) (λhc=>?_))|refine gL (.map ?_)|refine af.nrm ?_)<;>conv=>whnf
   all_goals
    refine congrArg AV.bool ?_;symm
    first
     |(rw[decide_eq_decide];exact⟨λh=>by omega,λh=>⟨by omega,by omega,by assumption,by omega⟩⟩)
     |(rw[decide_eq_decide];exact⟨λ⟨_,_,_,h⟩=>by omega,λh=>⟨by omega,by omega,by assumption,by omega⟩⟩)
     |(rw[decide_eq_false_iff_not];rintro⟨e1,e2,e3,e4⟩;first|omega|contradiction)
     |(rw[decide_eq_true_iff];exact⟨by omega,by omega,by assumption,by omega⟩)
  .by_cases hk1:t.kind=1
   .rw [pj hk1];refine Fun.of (ax (by simp) ?_) rfl rfl
    conv=>whnf
    repeat' (first|(refine gC ?_;first|refine cN ?_|(refine gD ?_;first|refine cI ?_|refine cJ ?_)|refine aq.le (λhc=>?_) (λhc=>?_)|refine aq.dec (λhc=>?_) (λhc=>?_))|refine gL (.map ?_)|refine af.nrm ?_)<;>conv=>whnf
    all_goals
     refine congrArg AV.bool ?_;symm
     first
      |(rw[decide_eq_decide];exact⟨λh=>by omega,λh=>⟨by omega,by omega,by assumption,by omega⟩⟩)
      |(rw[decide_eq_decide];exact⟨λ⟨_,_,_,h⟩=>by omega,λh=>⟨by omega,by omega,by assumption,by omega⟩⟩)
      |(rw[decide_eq_false_iff_not];rintro⟨e1,e2,e3,e4⟩;first|omega|contradiction)
      |(rw[decide_eq_true_iff];exact⟨by omega,by omega,by assumption,by omega⟩)
   .rw [uK hk0 hk1 hk2];refine Fun.of (ax (by simp) ?_) rfl rfl
    conv=>whnf
    repeat' (first|refine gC (gD (cJ ?_))|refine af.nrm ?_)<;>conv=>whnf
theorem j6(t:Tm)(hN:t.nodes<=1000000000):Fun Tryz.prog 71 [t.avw] (.bool t.right):=by
 have h1:=Hm t;have h2:=Gf t hN;have h3:=Fg t hN
 have he:t.right=(t.form&&(decide ((t.sz:Int)<=200)&&decide ((t.dep:Int)<=20))):=by
  unfold Tm.right vB;rw[Bool.decide_and]
 rw[he];cases hf:t.form<;>rw[hf] at h1
 all_goals
  refine Fun.of (jM (by simp) ?_) rfl rfl
  conv=>whnf
  repeat' (first|(refine gF ?_;first|refine ab.fn (h1) ?_|refine ab.fn (h2) ?_|refine ab.fn (h3) ?_)|(refine gC ?_;first|refine cY ?_|refine cN ?_|(refine gD ?_;first|refine cI ?_|refine cJ ?_)|refine aq.le (λhc=>?_) (λhc=>?_))|refine af.nrm ?_)<;>conv=>whnf
  all_goals (first|rfl|(refine congrArg AV.bool ?_;first|(simp[*];done)|(simp[*];omega)))
end Go.CK
