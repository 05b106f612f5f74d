/-
  Texts of this aX joined (wip/gen/bundle.py),those declarations only that are needed:UlF UlG UlH. By an AI agent.
-/
import Derived.Test.YtpihbplamelcnaaGreatBba
set_option linter.unusedSimpArgs false
set_option linter.unusedVariables false
namespace Go.CK
open Go.AM
section
variable{up:List Nat}
theorem Rt.snoc{n k r d:Nat}(h:Rt up k r d):Rt (up++[n]) k r d:=by
 have e:∀{k p:Nat},up[k]? =some p->(up++[n])[k]? =some p:=λ{k p} h=>by
  rw[zK (zB.1 h).1];exact h
 induction h with
 |root h=>exact .root (e h)
 |step h h2 _ ih=>exact .step (e h) h2 ih
theorem tN:(up++[up.length])[up.length]? =some up.length:=by simp
theorem BR(ht:Tot up){k r d:Nat}(h:Rt (up++[up.length]) k r d):Rt up k r d\/(k=up.length/\r=up.length/\d=0):=by
 have hlt:=h.lt;rw[zC,zU] at hlt
 by_cases hk:k=up.length
 .subst hk;obtain⟨rfl,rfl⟩:=Rt.self tN h;exact .inr ⟨rfl,rfl,rfl⟩
 .obtain ⟨s,e,h1⟩:=ht k (by omega)
  obtain⟨rfl,rfl⟩:=h.det (h1.snoc (n:=up.length));exact .inl h1
theorem NB(ht:Tot up)(k r:Nat):RR (up++[up.length]) k r↔RR up k r\/(k=up.length/\r=up.length):=by
 constructor
 .rintro ⟨d,hd⟩;rcases BR ht hd with h|⟨h1,h2,_⟩
  .exact .inl ⟨d,h⟩
  .exact .inr ⟨h1,h2⟩
 .rintro (⟨d,hd⟩|⟨rfl,rfl⟩)
  .exact ⟨d,hd.snoc⟩
  .exact ⟨0,.root tN⟩
theorem Lt(ht:Tot up):Tot (up++[up.length]):=λk hk=>by
 rw[zC,zU] at hk
 by_cases h:k=up.length
 .subst h;exact⟨_,0,.root tN⟩
 .obtain ⟨r,d,h1⟩:=ht k (by omega)
  exact⟨r,d,h1.snoc⟩
theorem Lu:cls (up++[up.length])<=cls up+1:=by
 unfold cls;rw[zC,zU,List.range_succ,List.countP_append]
 have:(List.range up.length).countP (λk=>decide ((up++[up.length])[k]? =some k))=(List.range up.length).countP λk=>decide (up[k]? =some k):=by
  refine List.countP_congr λk hk=>?_;rw[zd] at hk;rw[zK hk]
 rw[this];have:=Zz (p:=λk=>decide ((up++[up.length])[k]? =some k)) (l:=[up.length]);simp only[zU] at this;omega
end
theorem MT(up:List Nat):cls up<=up.length:=by
 unfold cls;have:=Zz (p:=λk=>decide (up[k]? =some k)) (l:=List.range up.length);rw[Zv] at this;exact this
theorem wE{nds:List Nd}{z:Nd}{σ:Int->Tm}{k:Nat}(h:k<nds.length):gv (nds++[z]) σ k=gv nds σ k:=by
 unfold gv;rw[zK h]
structure Be(N:Nat)(g g':Gr):Prop where
 gw:GW N g'
 cl:bF g'.nodes g'.R []
 old:∀(j:Nat) (x:Nd),g.nodes[j]? =some x->g'.nodes[j]? =some x
 sat:∀σ,Sat g'.nodes g'.R [] σ↔Sat g.nodes g.R [] σ
 kn:g'.known=g.known
theorem Be.trans{N:Nat}{a b c:Gr}(h:Be N a b)(k:Be N b c):Be N a c:=⟨k.gw,k.cl,λj x hx=>k.old j x (h.old j x hx),λσ=>(k.sat σ).trans (h.sat σ),k.kn.trans h.kn⟩
theorem Nh{N:Nat}{g:Gr}{t:Tm}{l:List Nat}(h:GW N g)(hc:bF g.nodes g.R [])(hf:t.form=true)(hl:l.length=t.args.length)(hk:∀(j c:Nat) (y:Tm),l[j]? =some c->t.args[j]? =some y->∃z:Nd,g.nodes[c]? =some z/\z.t=y)(hv:t.kind=1->lk g.vars t.num=none)(hN:g.up.length+1<N):Be N g (cH g t l):=by
 obtain⟨n,hn⟩:∃n,n=g.nodes.length:=⟨_,rfl⟩;have hlen:=h.len;have hup:(cH g t l).up=g.up++[g.up.length]:=by show g.up++[g.nodes.length]=_;rw[hlen]
 have hRR:∀k r,(cH g t l).R k r↔g.R k r\/(k=n/\r=n):=λk r=>by
  show RR (cH g t l).up k r↔_;rw[hup,hn,<-hlen];exact NB h.tot k r
 have hnd:(cH g t l).nodes=g.nodes++[⟨t,l⟩]:=rfl
 have hold:∀(j:Nat) (x:Nd),g.nodes[j]? =some x->(cH g t l).nodes[j]? =some x:=λj x hx=>by
  rw[hnd,zK (zB.1 hx).1];exact hx
 have hnew:(cH g t l).nodes[n]? =some ⟨t,l⟩:=by rw[hnd,hn];simp
 have hcase:∀(j:Nat) (x:Nd),(cH g t l).nodes[j]? =some x->g.nodes[j]? =some x\/(j=n/\x=⟨t,l⟩):=λj x hx=>by
  rw[hnd] at hx
  by_cases hj:j<g.nodes.length
  .rw [zK hj] at hx;exact .inl hx
  .have hj2:=(zB.1 hx).1;rw[zC,zU] at hj2;obtain rfl:j=n:=by omega
   rw[hn] at hx;simp at hx;exact .inr ⟨rfl,hx.symm⟩
 have hp:=h.par
 have hroot:∀r,(cH g t l).R r r->g.R r r\/r=n:=λr hr=>by
  rcases(hRR r r).1 hr with h1|h1
  .exact .inl h1
  .exact .inr h1.1
 have hRn:∀k,g.R k n->False:=λk ⟨d,hd⟩=>by have:=hd.lt2;omega
 have hRn2:∀r,g.R n r->False:=λk ⟨d,hd⟩=>by have:=hd.lt;omega
 have hin:∀k r,g.R r r->(cH g t l).R k r->g.R k r:=λk r hr hkr=>by
  rcases(hRR k r).1 hkr with h1|⟨_,h1⟩
  .exact h1
  .subst h1;exact(hRn _ hr).elim
 have hinn:∀k,(cH g t l).R k n->k=n:=λk hkr=>by
  rcases(hRR k n).1 hkr with h1|⟨h1,_⟩
  .exact (hRn _ h1).elim
  .exact h1
 have hvar:t.kind=1->t=bX t.num:=D9 (nX t hf);have hfr:=h.fr n (by omega)
 have hkeyS:∀r:Nat,¬r=n->lk (cH g t l).shape r=lk g.shape r:=λr hr=>by
  simp only[cH];split
  .rfl
  .rw [fc,if_neg (by omega)]
 have hkeyL:∀r:Nat,¬r=n->lk (cH g t l).least r=lk g.least r:=λr hr=>by
  simp only[cH];split
  .rw [fc,if_neg (by omega)]
  .rfl
 have hsn:lk (cH g t l).shape n=if t.kind=1 then none else some n:=by
  simp only[cH];split
  .exact hfr.1
  .rw [fc,hn,if_pos rfl]
 have hln:lk (cH g t l).least n=if t.kind=1 then some t.num else none:=by
  simp only[cH];split
  .rw [fc,hn,if_pos rfl]
  .exact hfr.2
 have hnds:Nds (cH g t l).nodes:=by
  refine⟨λi x hx=>?_,λi x hx=>?_,λi x hx j c y h1 h2=>?_,λi j x y hx hy hx1 hxy=>?_⟩
  .rcases hcase i x hx with h1|⟨_,rfl⟩
   .exact h.nds.frm i x h1
   .exact hf
  .rcases hcase i x hx with h1|⟨_,rfl⟩
   .exact h.nds.len i x h1
   .exact hl
  .rcases hcase i x hx with h3|⟨_,rfl⟩
   .obtain ⟨z,h4,h5⟩:=h.nds.kid i x h3 j c y h1 h2;exact⟨z,hold _ _ h4,h5⟩
   .obtain ⟨z,h4,h5⟩:=hk j c y h1 h2;exact⟨z,hold _ _ h4,h5⟩
  .have hno:∀(i:Nat) (x:Nd),g.nodes[i]? =some x->x.t=t->t.kind=1->False:=λi x hx e h1=>by
    have h2:=(h.vars t.num i).2 ⟨x,hx,by rw[e];exact hvar h1⟩
    rw[hv h1] at h2;cases h2
   rcases hcase i x hx with h1|⟨h1,rfl⟩<;>rcases hcase j y hy with h2|⟨h2,rfl⟩
   .exact h.nds.one i j x y h1 h2 hx1 hxy
   .exact (hno i x h1 hxy (by have e:x.t=t:=hxy;rw[<-e];exact hx1)).elim
   .exact (hno j y h2 hxy.symm hx1).elim
   .omega
 have hgw:GW N (cH g t l):=by
  refine⟨?_,?_,λk r d hd=>?_,hnds,λv i=>?_,λr hr=>?_,λr hr=>?_,?_,λk hk=>?_⟩
  .rw [hup,hnd,zC,zC,hlen];rfl
  .rw [hup];exact Lt h.tot
  .rw [hup] at hd|-;have hs:=Lu (up:=g.up);rw[zC,zU];rcases BR h.tot hd with h1|⟨h1,h2,h3⟩
   .have:=h.dep _ _ _ h1;omega
   .have:=MT g.up;omega
  .have hlk:lk (cH g t l).vars v=if t.kind=1/\v=t.num then some n else lk g.vars v:=by
    simp only[cH]
    by_cases h1:t.kind=1
    .rw [if_pos h1,fc]
     by_cases h2:v=t.num
     .rw [if_pos h2,if_pos ⟨h1,h2⟩,hn]
     .rw [if_neg h2,if_neg (λe=>h2 e.2)]
    .rw [if_neg h1,if_neg (λe=>h1 e.1)]
   rw[hlk]
   by_cases h1:t.kind=1/\v=t.num
   .rw [if_pos h1];constructor
    .intro e;cases e;exact⟨_,hnew,by show t=_;rw[h1.2];exact hvar h1.1⟩
    .rintro ⟨x,hx,hxt⟩;rcases hcase i x hx with h2|⟨h2,_⟩
     .have:=(h.vars v i).2 ⟨x,h2,hxt⟩;rw[h1.2,hv h1.1] at this;cases this
     .rw [h2]
   .rw [if_neg h1,h.vars v i];constructor
    .rintro ⟨x,hx,hxt⟩;exact⟨x,hold _ _ hx,hxt⟩
    .rintro ⟨x,hx,hxt⟩;rcases hcase i x hx with h2|⟨_,rfl⟩
     .exact ⟨x,h2,hxt⟩
     .exfalso;apply h1;have hxt:t=bX v:=hxt;rw[hxt];exact⟨rfl,rfl⟩
  .show (∀k,lk (cH g t l).shape r=some k->_)/\(lk (cH g t l).shape r=none->_);rcases hroot r hr with h1|h1
   .have hrn:¬r=n:=λe=>hRn r (e▸h1);obtain⟨s1,s2⟩:=h.shp r h1;rw[hkeyS r hrn];refine⟨λk hk=>?_,λhk k x hx hkr=>?_⟩
    .obtain ⟨x,e1,e2,e3⟩:=s1 k hk;exact⟨x,hold _ _ e1,e2,(hRR _ _).2 (.inl e3)⟩
    .have hkr':=hin k r h1 hkr;rcases hcase k x hx with h2|⟨h2,_⟩
     .exact s2 hk k x h2 hkr'
     .subst h2;exact(hRn2 _ hkr').elim
   .subst h1;rw[hsn];refine⟨λk hk=>?_,λhk k x hx hkr=>?_⟩
    .split at hk
     .cases hk
     .cases hk;exact⟨_,hnew,by assumption,hr⟩
    .have:=hinn k hkr;subst this;rw[hnew] at hx;cases hx;split at hk
     .assumption
     .cases hk
  .show (∀w,lk (cH g t l).least r=some w->_)/\(lk (cH g t l).least r=none->_);rcases hroot r hr with h1|h1
   .have hrn:¬r=n:=λe=>hRn r (e▸h1);obtain⟨s1,s2⟩:=h.lst r h1;rw[hkeyL r hrn]
    have hback:∀(k:Nat) (x:Nd),(cH g t l).nodes[k]? =some x->(cH g t l).R k r->g.nodes[k]? =some x/\g.R k r:=λk x hx hkr=>by
     have hkr':=hin k r h1 hkr;rcases hcase k x hx with h2|⟨h2,_⟩
     .exact ⟨h2,hkr'⟩
     .subst h2;exact(hRn2 _ hkr').elim
    refine⟨λw hw=>?_,λhk k x hx hkr=>?_⟩
    .obtain ⟨⟨k,x,e1,e2,e3⟩,e4⟩:=s1 w hw;refine⟨⟨k,x,hold _ _ e1,e2,(hRR _ _).2 (.inl e3)⟩,λk x hx hkr hk1=>?_⟩;obtain⟨f1,f2⟩:=hback k x hx hkr;exact e4 k x f1 f2 hk1
    .obtain ⟨f1,f2⟩:=hback k x hx hkr;exact s2 hk k x f1 f2
   .subst h1;rw[hln];refine⟨λw hw=>?_,λhk k x hx hkr=>?_⟩
    .split at hw
     .cases hw;rename_i h1;refine⟨⟨r,_,hnew,hvar h1,hr⟩,λk x hx hkr hk1=>?_⟩;have:=hinn k hkr;subst this;rw[hnew] at hx;cases hx;exact Int.le_refl _
     .cases hw
    .have:=hinn k hkr;subst this;rw[hnew] at hx;cases hx;split at hk
     .cases hk
     .assumption
  .rw [hup,zC,zU];omega
  .rw [hnd,zC,zU] at hk;rw[hkeyS k (by omega),hkeyL k (by omega)]
   exact h.fr k (by omega)
 refine⟨hgw,λi k r x y hx hy hx1 hy1 hi hk=>?_,hold,λσ=>?_,rfl⟩
 .have hcl:∀c d,Cl g.R [] c d->Cl (cH g t l).R [] c d:=λc d hcd=>Cl.map (rt:=g.R) (rt':=(cH g t l).R) (ps:=[]) (ps':=[]) (λc d r h1 h2=>.cls ((hRR _ _).2 (.inl h1)) ((hRR _ _).2 (.inl h2))) (λc d hm=>by cases hm) hcd
  rcases hcase i x hx with h1|⟨h1,rfl⟩
  .have hri:g.R i r:=by
    rcases(hRR _ _).1 hi with h2|⟨h2,_⟩
    .exact h2
    .subst h2;have:=(zB.1 h1).1;omega
   have hrk:=hin k r (hp.idem _ _ hri) hk;rcases hcase k y hy with h2|⟨h2,_⟩
   .exact (hc i k r x y h1 h2 hx1 hy1 hri hrk).mono hcl
   .subst h2;exact(hRn2 _ hrk).elim
  .subst h1
   have hrn:r=i:=by
    rcases(hRR _ _).1 hi with h2|⟨_,h2⟩
    .exact (hRn2 _ h2).elim
    .exact h2
   subst hrn;have:=hinn k hk;subst this;rw[hnew] at hy;cases hy;refine⟨ct.2 ⟨rfl,rfl,rfl,rfl⟩,λj c d h1 h2=>?_⟩;rw[h1] at h2;cases h2;obtain⟨s,hs⟩:=hgw.par.tot c (nR hnds hnew h1);exact .cls hs hs
 .constructor
  .rintro ⟨h1,_⟩;refine⟨λk r hkr=>?_,λp hp=>by cases hp⟩
   have:=h1 k r ((hRR _ _).2 (.inl hkr));have hlt:=hp.lt _ _ hkr;rw[hnd,wE hlt.1,wE hlt.2] at this;exact this
  .rintro ⟨h1,_⟩;refine⟨λk r hkr=>?_,λp hp=>by cases hp⟩
   rcases(hRR _ _).1 hkr with h2|⟨h2,h3⟩
   .have hlt:=hp.lt _ _ h2;rw[hnd,wE hlt.1,wE hlt.2];exact h1 k r h2
   .rw [h2,h3]
mutual
theorem A8{N:Nat}:∀{g:Gr} (t:Tm),GW N g->bF g.nodes g.R []->t.form=true->g.up.length+t.nodes<N->Be N g (b8 g t).1/\∃x:Nd,(b8 g t).1.nodes[(b8 g t).2]? =some x/\x.t=t
 |g,.mk k n s l,h,hc,hf,hN=>by
  by_cases hold:k=1/\∃i,lk g.vars n=some i
  .obtain ⟨hk,i,hi⟩:=hold;rw[GN (t:=.mk k n s l) hk hi];refine⟨⟨h,hc,λj x hx=>hx,λσ=>Iff.rfl,rfl⟩,?_⟩;obtain⟨x,hx,hxt⟩:=(h.vars n i).1 hi;exact⟨x,hx,by rw[hxt];exact(D9 (nX _ hf) hk).symm⟩
  .have hnew:(Tm.mk k n s l).kind=1->lk g.vars (Tm.mk k n s l).num=none:=λhk=>by
    cases hl:lk g.vars n with
    |none=>exact hl
    |some i=>exact absurd ⟨hk,i,hl⟩ hold
   rw[GO hnew];simp only[Tm.nodes] at hN;have hfl:=qj hf;obtain⟨a1,a2,a3⟩:=GQ l h hc hfl (by omega)
   have hlen:=(pV g l).2
   have hv:(Tm.mk k n s l).kind=1->lk (b7 g l).1.vars (Tm.mk k n s l).num=none:=λhk=>by
    have hl:l=[]:=(pA hf hk).2.2;subst hl;rw[b7];exact hnew hk
   have b:=Nh (t:=.mk k n s l) (l:=(b7 g l).2) a1.gw a1.cl hf a2 a3 hv (by omega)
   exact⟨a1.trans b,⟨.mk k n s l,(b7 g l).2⟩,List.getElem?_concat_length,rfl⟩
theorem GQ{N:Nat}:∀{g:Gr} (l:List Tm),GW N g->bF g.nodes g.R []->Tm.b5 l=true->g.up.length+Tm.aj l<N->Be N g (b7 g l).1/\(b7 g l).2.length=l.length/\∀(j c:Nat) (y:Tm),(b7 g l).2[j]? =some c->l[j]? =some y->∃z:Nd,(b7 g l).1.nodes[c]? =some z/\z.t=y
 |g,[],h,hc,_,_=>⟨⟨h,hc,λj x hx=>hx,λσ=>Iff.rfl,rfl⟩,rfl,λj c y h1 h2=>by simp at h2⟩
 |g,t::r,h,hc,hf,hN=>by
  simp only[Tm.b5,zD] at hf;simp only[Tm.aj] at hN;obtain⟨a1,x,a2,a3⟩:=A8 t h hc hf.1 (by omega)
  have hlen:=(nd g t).2;obtain⟨b1,b2,b3⟩:=GQ r a1.gw a1.cl hf.2 (by omega)
  simp only[b7];refine⟨a1.trans b1,by simp only[zX,b2],λj c y h1 h2=>?_⟩
  cases j with
  |zero=>
   simp at h1 h2;subst h1;subst h2
   exact⟨x,b1.old _ _ a2,a3⟩
  |succ j=>exact b3 j c y (by simpa using h1) (by simpa using h2)
end
end Go.CK
namespace Go.CK
open Go.AM
structure dB(g g':Gr):Prop where
 nodes:g'.nodes=g.nodes
 vars:g'.vars=g.vars
 shape:g'.shape=g.shape
 least:g'.least=g.least
 up:UpS g.up g'.up
theorem dB.refl(g:Gr):dB g g:=⟨rfl,rfl,rfl,rfl,.refl _⟩
theorem dB.trans{a b c:Gr}(h:dB a b)(k:dB b c):dB a c:=⟨k.nodes.trans h.nodes,k.vars.trans h.vars,k.shape.trans h.shape,k.least.trans h.least,h.up.trans k.up⟩
theorem dB.rr{g g':Gr}(h:dB g g')(ht:Tot g.up):g'.R=g.R:=h.up.rr ht
theorem GW.DW{N:Nat}{g g':Gr}(h:GW N g)(k:dB g g'):GW N g':=by
 obtain⟨n,v,u,s,l,kn⟩:=g';obtain⟨k1,k2,k3,k4,k5⟩:=k;simp only at k1 k2 k3 k4 k5;subst k1;subst k2;subst k3;subst k4;have:=h.upS k5;exact⟨this.len,this.tot,this.dep,this.nds,this.vars,this.shp,this.lst,this.lim,this.fr⟩
abbrev Gr.Ex(g:Gr):Nat->Tm->Prop:=Go.CK.Ex g.nodes g.R g.sh g.le
theorem dB.ex{g g':Gr}(h:dB g g')(ht:Tot g.up):g'.Ex=g.Ex:=by
 have e1:=h.rr ht;have e2:g'.sh=g.sh:=by show (λr:Nat=>lk g'.shape r)=_;rw[h.shape]
 have e3:g'.le=g.le:=by show (λr:Nat=>lk g'.least r)=_;rw[h.least]
 show Go.CK.Ex g'.nodes g'.R g'.sh g'.le=_;rw[h.nodes,e1,e2,e3]
def AK(t:Tm):Int×Int:=(min (t.sz:Int) 201,min (t.dep:Int) 21)
def cQ(g:Gr):Prop:=∀(r:Nat) (m:Int×Int),lk g.known r=some m->∃t,g.Ex r t/\m=AK t
theorem dB.known{g g':Gr}(h:dB g g')(ht:Tot g.up)(hk:g'.known=g.known)(k:cQ g):cQ g':=by
 unfold cQ;rw[h.ex ht,hk];exact k
def No(g:Gr)(busy:List Int)(r:Nat):Prop:=∀σ,Sat g.nodes g.R [] σ->∀k:Nat,(k:Int)∈busy->(gv g.nodes σ r).nodes<(gv g.nodes σ k).nodes
def nuB(n:Nat)(busy:List Int):Nat:=(List.range n).countP λ(k:Nat)=>decide (¬((k:Nat):Int)∈busy)
theorem Pz{n r:Nat}{busy:List Int}(hr:r<n)(hb:¬(r:Int)∈busy):nuB n (busy++[(r:Int)])<nuB n busy:=by
 refine uT (a:=r) (λk _ hk=>?_) (zd.2 hr) (decide_eq_true hb) (decide_eq_false ?_)
 .rw [decide_eq_true_iff] at hk|-;exact λe=>hk (ZB _ e)
 .exact λe=>e (by simp)
theorem gh:∀{l:List Tm} {x:Tm},x∈l->x.nodes<=Tm.aj l
 |y::l,x,h=>by
  simp only[Tm.aj];rcases zI.1 h with rfl|h
  .omega
  .have:=gh h;omega
abbrev vL(g:Gr):Prop:=∀σ,¬Sat g.nodes g.R [] σ
theorem dB.L4{g g':Gr}(h:dB g g')(ht:Tot g.up):vL g'↔vL g:=by
 unfold vL;rw[h.nodes,h.rr ht]
theorem dB.busy{g g':Gr}(h:dB g g')(ht:Tot g.up){busy:List Int}{r:Nat}(k:No g busy r):No g' busy r:=by
 unfold No;rw[h.nodes,h.rr ht];exact k
def KnM(g g':Gr):Prop:=∀k:Int,lk g.known k≠none->lk g'.known k≠none
def foldM(m:Int×Int)(ts:List Tm):Int×Int:=(min (m.1+Tm.szs ts) 201,min (max m.2 (Tm.fS ts+1)) 21)
theorem Cn{N:Nat}{g0:Gr}(h0:GW N g0){M:Gr->Nat->Option (Gr×Option (Int×Int))}{kd:List Nat}
  (hM:∀(g:Gr) (c x:Nat),c∈kd->dB g0 g->cQ g->g0.R c x->∃g2 mo,M g x=some (g2,mo)/\dB g g2/\KnM g g2/\(mo=none->vL g0)/\∀m,mo=some m->cQ g2/\∃t,g0.Ex x t/\m=AK t):
  ∀(xs:List Nat) (g:Gr) (m0:Int×Int),(∀x∈xs,x∈kd/\x<g0.nodes.length)->dB g0 g->cQ g->0<=m0.1/\m0.1<=201/\1<=m0.2/\m0.2<=21->∃g2 mo,pf N M g xs m0=some (g2,mo)/\dB g0 g2/\KnM g g2/\(mo=none->vL g0)/\∀m,mo=some m->cQ g2/\∃ts:List Tm,ts.length=xs.length/\(∀(j c s:Nat) (y:Tm),xs[j]? =some c->g0.R c s->ts[j]? =some y->g0.Ex s y)/\m=foldM m0 ts
 |[],g,m0,_,hl,hk,hm=>by
  refine⟨g,some m0,rfl,hl,λk h=>h,λe=>(by cases e),λm e=>?_⟩
  cases e;refine⟨hk,[],rfl,λj c s y h=>by simp at h,?_⟩
  obtain⟨a,b⟩:=m0;simp only at hm;simp only[foldM,Tm.szs,Tm.fS]
  congr 1<;>omega
 |x::xs,g,m0,hx,hl,hk,hm=>by
  have hg:=h0.DW hl;have hlt:x<g.up.length:=by rw[hl.up.1,h0.len];exact(hx x (zV ..)).2
  obtain⟨u,r,e1,e2,e3⟩:=hg.root hlt;have hl2:dB g {g with up:=u}:=⟨rfl,rfl,rfl,rfl,e2⟩;have hl02:=hl.trans hl2;have hr0:g0.R x r:=by rw[hl.rr h0.tot] at e3;exact e3
  obtain⟨g2,mo,f1,f2,f3,f4,f5⟩:=hM _ x r (hx x (zV ..)).1 hl02 (hl2.known hg.tot rfl hk) hr0
  cases mo with
  |none=>
   refine⟨g2,none,by simp only[pf,e1,f1],hl02.trans f2,f3,λ_=>f4 rfl,λm e=>by cases e⟩
  |some c=>
   obtain⟨k2,t,ht,hc⟩:=f5 c rfl;have hszp:=Lj t;have hdp:=D7 t;have hc1:c.1=min (t.sz:Int) 201:=by rw[hc];rfl
   have hc2:c.2=min (t.dep:Int) 21:=by rw[hc];rfl
   have hup:g2.up.length=g.up.length:=by rw[f2.up.1];exact e2.1
   have hcond:0<=c.1/\c.1<=201/\0<=c.2/\c.2<=21/\g2.up.length=g.up.length:=by
    refine⟨?_,?_,?_,?_,hup⟩<;>omega
   obtain⟨g3,mo3,q1,q2,q3,q4,q5⟩:=Cn h0 hM xs g2 (min (m0.1+c.1) 201,min (max m0.2 (c.2+1)) 21) (λy hy=>hx y (zQ _ hy)) (hl02.trans f2) k2 (by refine⟨?_,?_,?_,?_⟩<;>dsimp only<;>omega)
   refine⟨g3,mo3,by simp only[pf,e1,f1,if_pos hcond];exact q1,q2,λk h=>q3 k (f3 k h),q4,λm e=>?_⟩
   obtain⟨s1,ts,s2,s3,s4⟩:=q5 m e;refine⟨s1,t::ts,by simp only[zX,s2],λj c' s y h1 h2 h3=>?_,?_⟩
   .cases j with
    |zero=>
     simp at h1 h3;subst h1;subst h3
     rw[h0.par.det _ _ _ h2 hr0];exact ht
    |succ j=>exact s3 j c' s y (by simpa using h1) h2 (by simpa using h3)
   .rw [s4];simp only[foldM,Tm.szs,Tm.fS];congr 1<;>omega
theorem Co{N:Nat}:∀(f:Nat) (g:Gr) (busy:List Int) (r:Nat),GW N g->cQ g->g.R r r->No g busy r->nuB g.nodes.length busy<f->∃g' mo,e8 N f g busy r=some (g',mo)/\dB g g'/\KnM g g'/\(mo=none->vL g)/\∀m,mo=some m->cQ g'/\lk g'.known r≠none/\∃t,g.Ex r t/\m=AK t
 |0,g,busy,r,_,_,_,_,h=>by omega
 |f+1,g,busy,r,hg,hk,hr,hb,hf=>by
  have hp:=hg.par;have hrlt:=(hp.lt _ _ hr).1
  cases hkn:lk g.known r with
  |some m=>
   refine⟨g,some m,by simp only[e8,hkn],.refl g,λk h=>h,λe=>(by cases e),λm' e=>?_⟩
   cases e
   exact⟨hk,by rw[hkn];simp,hk r m hkn⟩
  |none=>
   by_cases hbr:(r:Int)∈busy
   .refine ⟨g,none,by simp only[e8,hkn,if_pos hbr],.refl g,λk h=>h,λ_ σ hs=>?_,λm e=>by cases e⟩
    have:=hb σ hs r hbr;omega
   .have hpt:∀(g2:Gr) (m:Int×Int) (t:Tm),dB g g2->cQ g2->g.Ex r t->m=AK t->cQ {g2 with known:=pt g2.known r m}/\KnM g2 {g2 with known:=pt g2.known r m}/\lk (pt g2.known r m) r≠none:=λg2 m t hl h1 h2 h3=>by
     refine⟨λq m' hq=>?_,λk hk=>?_,by rw[fc,if_pos rfl];simp⟩
     .have hq:lk (pt g2.known r m) q=some m':=hq;rw[fc] at hq
      by_cases e:(q:Int)=(r:Int)
      .rw [if_pos e] at hq;cases hq;have:q=r:=by omega
       subst this;refine⟨t,?_,h3⟩;show g2.Ex q t;rw[hl.ex hg.tot];exact h2
      .rw [if_neg e] at hq;exact h1 q m' hq
     .show lk (pt g2.known r m) k≠none;rw[fc];split
      .simp
      .exact hk
    cases hs:lk g.shape r with
    |none=>
     have ⟨s1,s2⟩:=hg.lst r hr
     have hle:∃w,lk g.least r=some w:=by
      cases hl:lk g.least r with
      |some w=>exact⟨w,rfl⟩
      |none=>
       exfalso;have hx:=zA hrlt;exact s2 hl r _ hx hr ((hg.shp r hr).2 hs r _ hx hr)
     obtain⟨w,hw⟩:=hle;have hex:g.Ex r (bX w):=.var hr hs hw;obtain⟨k1,k2,k3⟩:=hpt g (1,1) _ (.refl g) hk hex rfl;refine⟨{g with known:=pt g.known r (1,1)},some (1,1),by simp only[e8,hkn,if_neg hbr,hs],⟨rfl,rfl,rfl,rfl,.refl _⟩,k2,λe=>(by cases e),λm e=>?_⟩
     cases e
     exact⟨k1,k3,_,hex,rfl⟩
    |some k=>
     obtain⟨d,d1,d2,d3⟩:=(hg.shp r hr).1 k hs;have hsix:=yw hg.nds d1;have hlen:=hg.nds.len _ _ d1
     have hkind:∀c,c∈d.kids->d.t.kind=2:=λc hc=>by
      by_cases h2:d.t.kind=2
      .exact h2
      .have:=nW (hg.nds.frm _ _ d1) d2 h2;rw[this] at hlen;have:d.kids=[]:=zL hlen;rw[this] at hc;cases hc
     have hchild:∀c x,c∈d.kids->g.R c x->No g (busy++[(r:Int)]) x:=λc x hc hcx σ hσ j hj=>by
      have h2:=hkind c hc
      have hlt:(gv g.nodes σ x).nodes<(gv g.nodes σ r).nodes:=by
       rw[<-hσ.1 _ _ hcx,<-hσ.1 _ _ d3,uH hg.nds d1 σ h2];have:=gh (ZX (f:=gv g.nodes σ) hc);simp only[Tm.nodes];omega
      rcases zY.1 hj with hj|hj
      .have:=hb σ hσ j hj;omega
      .rw [zp] at hj;have:j=r:=by omega
       rw[this];exact hlt
     have hnu:=Pz hrlt hbr
     have hM:∀(g1:Gr) (c x:Nat),c∈d.kids->dB g g1->cQ g1->g.R c x->∃g2 mo,e8 N f g1 (busy++[(r:Int)]) x=some (g2,mo)/\dB g1 g2/\KnM g1 g2/\(mo=none->vL g)/\∀m,mo=some m->cQ g2/\∃t,g.Ex x t/\m=AK t:=λg1 c x hc hl hk1 hcx=>by
      obtain⟨g2,mo,q1,q2,q3,q4,q5⟩:=Co f g1 (busy++[(r:Int)]) x (hg.DW hl) hk1 (by rw[hl.rr hg.tot];exact hp.idem _ _ hcx) (hl.busy hg.tot (hchild c x hc hcx)) (by rw[hl.nodes];omega)
      refine⟨g2,mo,q1,q2,q3,λe=>(hl.L4 hg.tot).1 (q4 e),λm e=>?_⟩;obtain⟨s1,_,t,s3,s4⟩:=q5 m e;exact⟨s1,t,by rw[hl.ex hg.tot] at s3;exact s3,s4⟩
     have hkd:∀x∈d.kids,x∈d.kids/\x<g.nodes.length:=λx hx=>by
      obtain⟨j,hj⟩:=ZS hx;exact⟨hx,nR hg.nds d1 hj⟩
     obtain⟨g2,mo,q1,q2,q3,q4,q5⟩:=Cn hg (M:=λg x=>e8 N f g (busy++[(r:Int)]) x) hM d.kids g (1,1) hkd (.refl g) hk ⟨by decide,by decide,by decide,by decide⟩
     cases mo with
     |none=>
      refine⟨g2,none,by simp only[e8,hkn,if_neg hbr,hs,d1];rw[if_pos (by omega),q1],q2,q3,λ_=>q4 rfl,λm e=>by cases e⟩
     |some m=>
      obtain⟨s1,ts,s2,s3,s4⟩:=q5 m rfl
      have hex:∃t,g.Ex r t/\m=AK t:=by
       by_cases ha:d.t.args=[]
       .refine ⟨d.t,.leaf hr hs d1 ha,?_⟩;have hts:ts=[]:=zL (by rw[s2,hlen,ha];rfl)
        subst hts
        have e1:d.t.sz=1:=by
         by_cases h2:d.t.kind=2
         .rw [tL h2,ha];rfl
         .exact wx h2
        have e2:d.t.dep=1:=by
         by_cases h2:d.t.kind=2
         .rw [tA h2,ha];rfl
         .exact Ay h2
        rw[s4,AK,e1,e2];rfl
       .have h2:d.t.kind=2:=by
         cases hkids:d.kids with
         |nil=>rw[hkids] at hlen;exact absurd (zL hlen.symm) ha
         |cons c l=>exact hkind c (by rw[hkids];exact zV ..)
        refine⟨_,.fn hr hs d1 ha s2 s3,?_⟩;have e1:(Tm.mk d.t.kind d.t.num d.t.name ts).sz=1+Tm.szs ts:=tL (t:=Tm.mk d.t.kind d.t.num d.t.name ts) h2;have e2:(Tm.mk d.t.kind d.t.num d.t.name ts).dep=Tm.fS ts+1:=tA (t:=Tm.mk d.t.kind d.t.num d.t.name ts) h2;rw[s4,AK,e1,e2];simp only[foldM];congr 1<;>omega
      obtain⟨t,ht,hm⟩:=hex;obtain⟨k1,k2,k3⟩:=hpt g2 m t q2 s1 ht hm;refine⟨{g2 with known:=pt g2.known r m},some m,by simp only[e8,hkn,if_neg hbr,hs,d1];rw[if_pos (by omega),q1],⟨q2.nodes,q2.vars,q2.shape,q2.least,q2.up⟩,λk h=>k2 k (q3 k h),λe=>(by cases e),λm' e=>?_⟩
      cases e;exact⟨k1,k3,t,ht,hm⟩
end Go.CK
namespace Go.CK
open Go.AM
theorem Om{l:List Tm}{x:Tm}(h:x∈l):x.dep<=Tm.fS l:=Ax h
theorem F2{N:Nat}{g0:Gr}(h0:GW N g0){M:Gr->Nat->Option (Gr×Tm)}{kd:List Nat}{ex:Nat->Tm}
  (hM:∀(g:Gr) (c x:Nat),c∈kd->dB g0 g->g0.R c x->∃g2,M g x=some (g2,ex x)/\dB g g2):
  ∀(xs:List Nat) (g:Gr),(∀x∈xs,x∈kd/\x<g0.nodes.length)->dB g0 g->∃g2 ts,Ap N M g xs=some (g2,ts)/\dB g0 g2/\ts.length=xs.length/\∀(j c s:Nat),xs[j]? =some c->g0.R c s->ts[j]? =some (ex s)
 |[],g,_,hl=>⟨g,[],rfl,hl,rfl,λj c s h=>by simp at h⟩
 |x::xs,g,hx,hl=>by
  have hg:=h0.DW hl;have hlt:x<g.up.length:=by rw[hl.up.1,h0.len];exact(hx x (zV ..)).2
  obtain⟨u,r,e1,e2,e3⟩:=hg.root hlt;have hl2:dB g {g with up:=u}:=⟨rfl,rfl,rfl,rfl,e2⟩;have hl02:=hl.trans hl2;have hr0:g0.R x r:=by rw[hl.rr h0.tot] at e3;exact e3
  obtain⟨g2,f1,f2⟩:=hM _ x r (hx x (zV ..)).1 hl02 hr0;have hup:g2.up.length=g.up.length:=by rw[f2.up.1];exact e2.1
  obtain⟨g3,ts,q1,q2,q3,q4⟩:=F2 h0 hM xs g2 (λy hy=>hx y (zQ _ hy)) (hl02.trans f2);refine⟨g3,ex r::ts,by simp only[Ap,e1,f1,if_pos hup,q1],q2,by simp only[zX,q3],λj c s h1 h2=>?_⟩
  cases j with
  |zero=>
   simp at h1;subst h1
   rw[h0.par.det _ _ _ h2 hr0];rfl
  |succ j=>exact q4 j c s (by simpa using h1) h2
theorem F3{N:Nat}:∀(f:Nat) (g:Gr) (r:Nat) (t:Tm),GW N g->g.Ex r t->t.dep<=f->∃g',oH N f g r=some (g',t)/\dB g g'
 |0,g,r,t,_,_,h=>by have:=D7 t;omega
 |f+1,g,r,t,hg,ht,hf=>by
  have hp:=hg.par;generalize htt:t=t' at ht
  cases ht with
  |var h h1 h2=>
   rename_i w;have h1:lk g.shape r=none:=h1;have h2:lk g.least r=some w:=h2
   exact⟨g,by simp only[oH,h1,lkD,h2],.refl g⟩
  |leaf h h1 h2 h3=>
   rename_i k x;have h1:lk g.shape r=some k:=h1
   exact⟨g,by simp only[oH,h1,h2];rw[if_pos (by rw[h3];rfl)],.refl g⟩
  |fn h h1 h2 h3 h4 h5=>
   rename_i k x ts;have h1:lk g.shape r=some k:=h1;have hlen:=hg.nds.len _ _ h2;have hsix:=yw hg.nds h2
   have hk2:x.t.kind=2:=by
    obtain⟨x',e1,e2,_⟩:=(hg.shp r h).1 k h1;rw[h2] at e1;cases e1
    by_cases hk:x.t.kind=2
    .exact hk
    .have:=nW (hg.nds.frm _ _ h2) e2 hk;rw[this] at h3;exact absurd rfl h3
   have hdep:t.dep=Tm.fS ts+1:=by rw[htt];exact tA (t:=Tm.mk x.t.kind x.t.num x.t.name ts) hk2
   have hne:¬x.t.args.length=0:=λe=>h3 (zL e)
   --the terms of the arguments' classes,by class
   have hex:∃ex:Nat->Tm,∀(j c s:Nat) (y:Tm),x.kids[j]? =some c->g.R c s->ts[j]? =some y->ex s=y:=by
    classical
    refine⟨λs=>if h:∃y,g.Ex s y then h.choose else bX 0,λj c s y a1 a2 a3=>?_⟩;have hy:=h5 j c s y a1 a2 a3;have he:∃y,g.Ex s y:=⟨y,hy⟩;simp only[dif_pos he];exact he.choose_spec.det hg.nds hp hy
   obtain⟨ex,hex⟩:=hex
   have hM:∀(g1:Gr) (c s:Nat),c∈x.kids->dB g g1->g.R c s->∃g2,oH N f g1 s=some (g2,ex s)/\dB g1 g2:=λg1 c s hc hl hcs=>by
    obtain⟨j,hj⟩:=ZS hc;have hlt:=(zB.1 hj).1;have e1:ts[j]? =some (ts[j]'(by omega)):=zA (by omega)
    have e2:=h5 j c s _ hj hcs e1;have e3:=hex j c s _ hj hcs e1;rw[e3];have hd:=Om (zE e1);obtain⟨g2,q1,q2⟩:=F3 f g1 s _ (hg.DW hl) (by rw[hl.ex hg.tot];exact e2) (by omega)
    exact⟨g2,q1,q2⟩
   have hkd:∀y∈x.kids,y∈x.kids/\y<g.nodes.length:=λy hy=>by
    obtain⟨j,hj⟩:=ZS hy;exact⟨hy,nR hg.nds h2 hj⟩
   obtain⟨g2,ts2,q1,q2,q3,q4⟩:=F2 hg (M:=oH N f) hM x.kids g hkd (.refl g)
   have hts:ts2=ts:=by
    apply Zu;intro j
    cases hc:x.kids[j]? with
    |none=>
     rw[ZK] at hc
     rw[ZK.2 (by omega),ZK.2 (by omega)]
    |some c=>
     have hlt:=(zB.1 hc).1;obtain⟨s,hs⟩:=hp.tot c (nR hg.nds h2 hc);have e1:ts[j]? =some (ts[j]'(by omega)):=zA (by omega)
     rw[q4 j c s hc hs,e1,hex j c s _ hc hs e1]
   subst hts;refine⟨g2,?_,q2⟩;simp only[oH,h1,h2];rw[if_neg hne,if_pos ⟨hlen,by omega⟩,q1]
theorem xn{N f:Nat}:∀(ks:List Nat) (g:Gr),GW N g->cQ g->(∀k∈ks,k<g.nodes.length)->nuB g.nodes.length []<f->∃g' b,nu N f ks g=some (g',b)/\dB g g'/\(b=false->vL g)/\(b=true->cQ g'/\KnM g g'/\∀k∈ks,∀r,g.R k r->lk g'.known r≠none)
 |[],g,hg,hk,_,_=>⟨g,true,rfl,.refl g,λe=>(by cases e),λ_=>⟨hk,λk h=>h,λk h=>by cases h⟩⟩
 |k::ks,g,hg,hk,hks,hf=>by
  have hlt:k<g.up.length:=by rw[hg.len];exact hks k (zV ..)
  obtain⟨u,r,e1,e2,e3⟩:=hg.root hlt;have hl:dB g {g with up:=u}:=⟨rfl,rfl,rfl,rfl,e2⟩;have hg1:=hg.DW hl;have hrr:=hg.par.idem _ _ e3;obtain⟨g2,mo,q1,q2,q3,q4,q5⟩:=Co f {g with up:=u} [] r hg1 (hl.known hg.tot rfl hk) (by rw[hl.rr hg.tot];exact hrr) (λσ _ j hj=>by cases hj) hf
  have hl2:=hl.trans q2
  cases mo with
  |none=>
   exact⟨g2,false,by simp only[nu,e1,q1],hl2,λ_=>(hl.L4 hg.tot).1 (q4 rfl),λe=>by cases e⟩
  |some m=>
   obtain⟨s1,s2,_⟩:=q5 m rfl;obtain⟨g3,b,p1,p2,p3,p4⟩:=xn ks g2 (hg.DW hl2) s1 (λj hj=>by rw[hl2.nodes];exact hks j (zQ _ hj)) (by rw[hl2.nodes];exact hf)
   refine⟨g3,b,by simp only[nu,e1,q1];exact p1,hl2.trans p2,λe=>(hl2.L4 hg.tot).1 (p3 e),λe=>?_⟩
   obtain⟨t1,t2,t3⟩:=p4 e;refine⟨t1,λj h=>t2 j (q3 j h),λj hj s hs=>?_⟩;rcases zI.1 hj with rfl|hj
   .rw [hg.par.det _ _ _ hs e3];exact t2 _ s2
   .exact t3 j hj s (by rw[hl2.rr hg.tot];exact hs)
theorem Ao{N:Nat}{M:Gr->Nat->Option (Gr×Tm)}(hM:∀{g r g2 t},M g r=some (g2,t)->g2.known=g.known):∀{xs:List Nat} {g g2:Gr} {l:List Tm},Ap N M g xs=some (g2,l)->g2.known=g.known
 |[],g,g2,l,h=>by cases h;rfl
 |x::xs,g,g2,l,h=>by
  rw[Ap] at h;split at h
  .cases h
  .split at h
   .cases h
   .rename_i h1;split at h
    .split at h
     .cases h
     .rename_i h2;cases h;have h3:=Ao hM h2;have h4:=hM h1;exact h3.trans h4
    .cases h
theorem Aq{N:Nat}:∀{f:Nat} {g g2:Gr} {r:Nat} {t:Tm},oH N f g r=some (g2,t)->g2.known=g.known
 |0,g,g2,r,t,h=>by cases h
 |f+1,g,g2,r,t,h=>by
  rw[oH] at h;split at h
  .cases h;rfl
  .split at h
   .cases h
   .split at h
    .cases h;rfl
    .split at h
     .split at h
      .cases h
      .rename_i h1;cases h;exact Ao (M:=oH N f) (λ{g r g2 t} h=>Aq (f:=f) h) h1
     .cases h
theorem uW(t:Tm):(200<(AK t).1\/20<(AK t).2)↔¬fits t:=by
 unfold AK fits;dsimp only;omega
noncomputable def boundsOf(M:Int->Tm)(vs:List Int):List Bnd:=(vs.filter λv=>decide (¬M v=bX v)).map λv=>⟨v,M v⟩
theorem xj{N f:Nat}(hf:20<=f){g0:Gr}(h0:GW N g0)(hkn:cQ g0)(hall:∀r:Nat,g0.R r r->lk g0.known r≠none):∀(vs:List Int) (g:Gr) (out:List Bnd),dB g0 g->g.known=g0.known->(∀v∈vs,lk g0.vars v≠none)->
  ∃g' ro,jV N f vs g out=some (g',ro)/\((ro=some (out++boundsOf (mguM g0.nodes g0.R g0.sh g0.le) vs)/\∀v∈vs,¬mguM g0.nodes g0.R g0.sh g0.le v=bX v->fits (mguM g0.nodes g0.R g0.sh g0.le v))\/(ro=none/\∃v∈vs,¬mguM g0.nodes g0.R g0.sh g0.le v=bX v/\¬fits (mguM g0.nodes g0.R g0.sh g0.le v)))
 |[],g,out,_,_,_=>⟨g,some out,rfl,.inl ⟨by simp[boundsOf],λv h=>by cases h⟩⟩
 |v::vs,g,out,hl,hk,hvs=>by
  have hg:=h0.DW hl;have hp:=h0.par;obtain⟨M,hM⟩:∃M,M=mguM g0.nodes g0.R g0.sh g0.le:=⟨_,rfl⟩;have ih:=λg' out' a b=>xj hf h0 hkn hall vs g' out' a b (λw hw=>hvs w (zQ _ hw));rw[<-hM] at ih|-
  cases hvk:lk g0.vars v with
  |none=>exact absurd hvk (hvs v (zV ..))
  |some k=>
   obtain⟨x,x1,x2⟩:=(h0.vars v k).1 hvk;have hklt:=(zB.1 x1).1;obtain⟨u,r,e1,e2,e3⟩:=hg.root (k:=k) (by rw[hl.up.1,h0.len];exact hklt)
   have hl2:dB g {g with up:=u}:=⟨rfl,rfl,rfl,rfl,e2⟩;have hl02:=hl.trans hl2;have hr0:g0.R k r:=by rw[hl.rr h0.tot] at e3;exact e3
   have hrr:=hp.idem _ _ hr0;have hgv:lk g.vars v=some k:=by rw[hl.vars];exact hvk
   cases hkr:lk g0.known r with
   |none=>exact absurd hkr (hall r hrr)
   |some m=>
    obtain⟨t,ht,hm⟩:=hkn r m hkr;have hMv:M v=t:=by rw[hM];exact p9 h0.nds hp x1 x2 hr0 ht
    have hskip:(lk g.shape r=none/\lkD g.least r=v)↔M v=bX v:=by
     rw[hMv,hl.shape,hl.least];obtain⟨s1,s2⟩:=h0.shp r hrr;generalize htt:t=t' at ht
     cases ht with
     |var h h1 h2=>
      rename_i w;have h1:lk g0.shape r=none:=h1;have h2:lk g0.least r=some w:=h2;rw[show lkD g0.least r=w by rw[lkD,h2],h1]
      exact⟨λe=>by rw[e.2],λe=>⟨rfl,wP e⟩⟩
     |leaf h h1 h2 h3=>
      rename_i q y;have h1:lk g0.shape r=some q:=h1;rw[h1];refine⟨λe=>(by cases e.1),λe=>?_⟩
      obtain⟨y',f1,f2,_⟩:=s1 q h1;rw[h2] at f1;cases f1
      rw[e] at f2;exact absurd rfl f2
     |fn h h1 h2 h3 h4 h5=>
      rename_i q y ts;have h1:lk g0.shape r=some q:=h1;rw[h1];refine⟨λe=>(by cases e.1),λe=>?_⟩
      obtain⟨y',f1,f2,_⟩:=s1 q h1;rw[h2] at f1;cases f1;exact absurd (congrArg Tm.kind e) f2
    by_cases hs:M v=bX v
    .obtain ⟨g',ro,q1,q2⟩:=ih {g with up:=u} out hl02 hk;refine⟨g',ro,by simp only[jV,hgv,e1,if_pos (hskip.2 hs)];exact q1,?_⟩
     have hb:boundsOf M (v::vs)=boundsOf M vs:=by unfold boundsOf;rw[yA (by simp[hs])]
     rw[hb];rcases q2 with ⟨h1,h2⟩|⟨h1,w,h2,h3⟩
     .exact .inl ⟨h1,λw hw hn=>by
       rcases zI.1 hw with rfl|hw
       .exact absurd hs hn
       .exact h2 w hw hn⟩
     .exact .inr ⟨h1,w,zQ _ h2,h3⟩
    .have hns:¬(lk g.shape r=none/\lkD g.least r=v):=λe=>hs (hskip.1 e);have hgk:lk g.known r=some m:=by rw[hk];exact hkr
     by_cases hbig:200<m.1\/20<m.2
     .refine ⟨{g with up:=u},none,by simp only[jV,hgv,e1,if_neg hns,hgk,if_pos hbig],.inr ⟨rfl,v,zV ..,hs,?_⟩⟩
      rw[hMv,<-uW,<-hm];exact hbig
     .have hfit:fits t:=by
       have:=mt (uW t).2;rw[<-hm] at this;exact Decidable.byContradiction λe=>hbig ((by rw[hm];exact(uW t).2 e))
      obtain⟨g2,q1,q2⟩:=F3 f {g with up:=u} r t (h0.DW hl02) (by rw[hl02.ex h0.tot];exact ht) (by have:=hfit.2;omega)
      have hup:g2.up.length=g.up.length:=by rw[q2.up.1];exact e2.1
      have hk2:g2.known=g.known:=by have h3:=Aq q1;exact h3
      obtain⟨g',ro,p1,p2⟩:=ih g2 (out++[⟨v,t⟩]) (hl02.trans q2) (hk2.trans hk);refine⟨g',ro,by simp only[jV,hgv,e1,if_neg hns,hgk,if_neg hbig,q1,if_pos hup];exact p1,?_⟩
      have hb:boundsOf M (v::vs)=⟨v,t⟩::boundsOf M vs:=by unfold boundsOf;rw[yU (by simp[hs]),zP,hMv]
      rw[hb];rcases p2 with ⟨h1,h2⟩|⟨h1,w,h2,h3⟩
      .refine .inl ⟨by rw[h1,zg];rfl,λw hw hn=>?_⟩
       rcases zI.1 hw with rfl|hw
       .rw [hMv];exact hfit
       .exact h2 w hw hn
      .exact .inr ⟨h1,w,zQ _ h2,h3⟩
theorem Lq(l:List Int):(jg l).Pairwise (·<=·):=by
 have:=List.pairwise_mergeSort (le:=λx y:Int=>decide (x<=y)) (λa b c h1 h2=>by simp only[decide_eq_true_eq] at*;omega) (λa b=>by simp only[ZN,decide_eq_true_eq];omega) l
 exact this.imp λh=>by simpa using h
theorem qY(l:List Int):(jg l).Perm l:=List.mergeSort_perm l _
theorem Lp{l:List Int}(h:l.Nodup):(jg l).Pairwise (·<·):=by
 have h1:=Lq l;have h2:(jg l).Nodup:=(qY l).nodup_iff.2 h;exact(h1.and h2).imp λ⟨a,b⟩=>by omega
theorem HJ{β:Type}:∀{l:List (Int×β)} {n:Int},lk l n≠none↔n∈l.map (·.1)
 |[],n=>by simp[lk]
 |(k,x)::l,n=>by
  simp only[lk,zP,zI];split
  .rename_i h;simp[h]
  .rename_i h;rw[HJ (l:=l)];simp[h]
def Rng(out:List Bnd):Prop:=∀c∈out,0<=c.v/\c.v<=1048576/\c.t.form=true
theorem Rng.nil:Rng []:=λc h=>by cases h
theorem EL{N f:Nat}{g:Gr}(hg:GW N g)(hc:bF g.nodes g.R [])(hk:g.known=[])(hnd:(g.vars.map (·.1)).Nodup)(hf:g.nodes.length<f)(hf20:20<=f):∃out e,np N f g=some (out,e)/\Ans (Sat g.nodes g.R []) out e/\Rng out:=by
 have hnu:nuB g.nodes.length []<f:=by
  unfold nuB;have:=Zz (p:=λ(k:Nat)=>decide (¬((k:Nat):Int)∈([]:List Int))) (l:=List.range g.nodes.length);rw[Zv] at this;omega
 have hk0:cQ g:=λr m h=>by rw[hk] at h;cases h
 obtain⟨g1,b,q1,q2,q3,q4⟩:=xn (N:=N) (f:=f) (List.range g.nodes.length) g hg hk0 (λk h=>zd.1 h) hnu
 cases b with
 |false=>exact⟨[],13,by simp only[np,q1],.inl ⟨q3 rfl,rfl,rfl⟩,.nil⟩
 |true=>
  obtain⟨s1,_,s3⟩:=q4 rfl;have hg1:=hg.DW q2
  have hall:∀r:Nat,g1.R r r->lk g1.known r≠none:=λr hr=>by
   rw[q2.rr hg.tot] at hr;exact s3 r (zd.2 (hg.par.lt _ _ hr).1) r hr
  have hex:∀r,g.R r r->∃t,g.Ex r t:=λr hr=>by
   have h1:=hall r (by rw[q2.rr hg.tot];exact hr)
   cases hkr:lk g1.known r with
   |none=>exact absurd hkr h1
   |some m=>
    obtain⟨t,ht,_⟩:=s1 r m hkr;rw[q2.ex hg.tot] at ht;exact⟨t,ht⟩
  have hm:=PC hg.nds hg.par hg.shp hg.lst hc hex
  have hM:mguM g1.nodes g1.R g1.sh g1.le=mguM g.nodes g.R g.sh g.le:=by
   have e2:g1.sh=g.sh:=by show (λr:Nat=>lk g1.shape r)=_;rw[q2.shape]
   have e3:g1.le=g.le:=by show (λr:Nat=>lk g1.least r)=_;rw[q2.least]
   rw[q2.nodes,q2.rr hg.tot,e2,e3]
  have hvs:∀v∈jg (g1.vars.map (·.1)),lk g1.vars v≠none:=λv hv=>HJ.2 ((qY _).mem_iff.1 hv);obtain⟨g2,ro,p1,p2⟩:=xj (N:=N) (f:=f) hf20 hg1 s1 hall (jg (g1.vars.map (·.1))) g1 [] (.refl g1) rfl hvs;rw[hM] at p2;obtain⟨M,hMM⟩:∃M,M=mguM g.nodes g.R g.sh g.le:=⟨_,rfl⟩;rw[<-hMM] at p2 hm;rcases p2 with ⟨rfl,h2⟩|⟨rfl,v,h2,h3,h4⟩
  .refine ⟨boundsOf M (jg (g1.vars.map (·.1))),0,by simp only[np,q1,p1,Zn],.inr ⟨M,hm,.inl ⟨⟨?_,λv t=>?_⟩,λc hcm=>?_,rfl⟩⟩,λc hcm=>?_⟩
   .unfold boundsOf;rw[List.map_map];have:(jg (g1.vars.map (·.1))).Pairwise (·<·):=Lp (by rw[q2.vars];exact hnd)
    have h5:=this.filter (λv=>decide (¬M v=bX v));rw[List.pairwise_map];exact h5
   .unfold boundsOf;rw[zk];constructor
    .rintro ⟨w,hw,e⟩;cases e;rw[zo,decide_eq_true_iff] at hw;exact⟨rfl,hw.2⟩
    .rintro ⟨rfl,hv⟩;refine⟨v,?_,rfl⟩;rw[zo,decide_eq_true_iff];refine⟨(qY _).mem_iff.2 (HJ.1 ?_),hv⟩;rw[q2.vars];intro hn;apply hv;rw[hMM];refine wC ?_;rintro⟨k,x,e1,e2⟩;have:=(hg.vars v k).2 ⟨x,e1,e2⟩;rw[hn] at this;cases this
   .unfold boundsOf at hcm;obtain⟨w,hw,rfl⟩:=zk.1 hcm;rw[zo,decide_eq_true_iff] at hw;exact h2 w hw.1 hw.2
   .unfold boundsOf at hcm;obtain⟨w,hw,rfl⟩:=zk.1 hcm;rw[zo] at hw;have hwv:=hvs w hw.1
    cases hlk:lk g1.vars w with
    |none=>exact absurd hlk hwv
    |some k=>
     rw[q2.vars] at hlk;obtain⟨x,x1,x2⟩:=(hg.vars w k).1 hlk;have hfx:=hg.nds.frm _ _ x1;have hv:=pA hfx (by rw[x2];rfl)
     rw[x2] at hv;obtain⟨r,hr⟩:=hg.par.tot k (zB.1 x1).1;obtain⟨t,ht⟩:=hex r (hg.par.idem _ _ hr);refine⟨hv.1,hv.2.1,?_⟩;show (M w).form=true;rw[hMM,p9 hg.nds hg.par x1 x2 hr ht];exact ht.form hg.nds hg.par hg.shp hg.lst
  .exact ⟨[],6,by simp only[np,q1,p1],.inr ⟨M,hm,.inr ⟨⟨v,h3,h4⟩,rfl,rfl⟩⟩,.nil⟩
theorem Ly{nds:List Nd}{rt:Nat->Nat->Prop}{i k:Nat}{σ:Int->Tm}:Sat nds rt [(i,k)] σ↔Sat nds rt [] σ/\gv nds σ i=gv nds σ k:=
 ⟨λh=>⟨⟨h.1,λp hp=>by cases hp⟩,h.2 (i,k) (zp.2 rfl)⟩,λh=>⟨h.1.1,λp hp=>by rw[zp] at hp;subst hp;exact h.2⟩⟩
theorem Gi{nds:List Nd}{rt:Nat->Nat->Prop}{ps:List (Nat×Nat)}(h:bF nds rt []):bF nds rt ps:=λi k r x y hx hy hx1 hy1 hi hk=>(h i k r x y hx hy hx1 hy1 hi hk).mono λc d hcd=>Cl.map (ps:=[]) (λc d r h1 h2=>.cls h1 h2) (λc d hm=>by cases hm) hcd
theorem EV{N f:Nat}:∀(ps:List (Tm×Tm)) (g:Gr),GW N g->bF g.nodes g.R []->g.known=[]->g.ok->(∀p∈ps,p.1.form=true/\p.2.form=true)->g.up.length+(Tm.aj (ps.map (·.1))+Tm.aj (ps.map (·.2)))<N->7*N+1<f->N<=400000000->
  ∃g' b,Dq N f g ps=some (g',b)/\(b=true->GW N g'/\bF g'.nodes g'.R []/\g'.known=[]/\g'.ok/\∀σ,Sat g'.nodes g'.R [] σ↔(Sat g.nodes g.R [] σ/\Eqs ps σ))/\(b=false->∀σ,¬(Sat g.nodes g.R [] σ/\Eqs ps σ))
 |[],g,hg,hc,hk,hok,_,_,_,_=>⟨g,true,rfl,λ_=>⟨hg,hc,hk,hok,λσ=>⟨λh=>⟨h,λp hp=>by cases hp⟩,λh=>h.1⟩⟩,λe=>by cases e⟩
 |(x,y)::ps,g,hg,hc,hk,hok,hfm,hN,hf,hN2=>by
  obtain⟨fx,fy⟩:=hfm (x,y) (zV ..);simp only[zP,Tm.aj] at hN;have ok1:=pU x fx hok;obtain⟨a1,n1,a2,a3⟩:=A8 x hg hc fx (by omega)
  have l1:=(nd g x).2;have ok2:=pU y fy ok1;obtain⟨b1,n2,b2,b3⟩:=A8 y a1.gw a1.cl fy (by omega)
  have l2:=(nd (b8 g x).1 y).2;have hab:=a1.trans b1;have hx2:=b1.old _ _ a2;have hlen:=b1.gw.len;have hcls:=MT (b8 (b8 g x).1 y).1.up;have hlim:=b1.gw.lim
  obtain⟨g',b,q1,q2,q3⟩:=qd f (b8 (b8 g x).1 y).1 [((b8 g x).2,(b8 (b8 g x).1 y).2)] b1.gw (Gi b1.cl) (λp hp=>by
   rw[zp] at hp;subst hp;exact⟨by rw[hlen];exact(zB.1 hx2).1,by rw[hlen];exact(zB.1 b2).1⟩) (by simp only[zU];omega) (by simp only[zU];omega)
  have hsat:∀σ,Sat (b8 (b8 g x).1 y).1.nodes (b8 (b8 g x).1 y).1.R [((b8 g x).2,(b8 (b8 g x).1 y).2)] σ↔(Sat g.nodes g.R [] σ/\app σ x=app σ y):=λσ=>by
   rw[Ly,hab.sat σ,pw hx2,pw b2,a3,b3]
  have hcons:∀σ,Eqs ((x,y)::ps) σ↔(app σ x=app σ y/\Eqs ps σ):=λσ=>⟨λh=>⟨h (x,y) (zV ..),λp hp=>h p (zQ _ hp)⟩,λh p hp=>by
   rcases zI.1 hp with rfl|hp
   .exact h.1
   .exact h.2 p hp⟩
  cases b with
  |false=>
   refine⟨g',false,by simp only[Dq,q1],λe=>(by cases e),λ_ σ hs=>?_⟩
   rw[hcons] at hs
   exact q3 rfl σ ((hsat σ).2 ⟨hs.1,hs.2.1⟩)
  |true=>
   obtain⟨k1,k2,k3,k4,k5,k6⟩:=q2 rfl;have hk':g'.known=[]:=by rw[k5,hab.kn,hk]
   have hok':=(mO q1 ok2).1;have hup':g'.up.length=(b8 (b8 g x).1 y).1.up.length:=by rw[k1.len,k3,hlen]
   obtain⟨g3,b3',p1,p2,p3⟩:=EV ps g' k1 k2 hk' hok' (λp hp=>hfm p (zQ _ hp)) (by omega) hf hN2
   refine⟨g3,b3',by simp only[Dq,q1];exact p1,λe=>?_,λe σ hs=>?_⟩
   .obtain ⟨s1,s2,s3,s4,s5⟩:=p2 e;refine⟨s1,s2,s3,s4,λσ=>?_⟩;rw[s5 σ,k6 σ,hsat σ,hcons σ,and_assoc]
   .rw [hcons] at hs;exact p3 e σ ⟨(k6 σ).2 ((hsat σ).2 ⟨hs.1,hs.2.1⟩),hs.2.2⟩
theorem PH{N:Nat}(h:0<N):GW N gr0:=by
 have hr:∀k r,¬gr0.R k r:=λk r ⟨d,hd⟩=>by have:=hd.lt;exact absurd this (Zo _)
 refine⟨rfl,λk hk=>absurd hk (Zo _),λk r d hd=>absurd hd.lt (Zo _),⟨?_,?_,?_,?_⟩,λv i=>?_,λr hr'=>absurd hr' (hr _ _),λr hr'=>absurd hr' (hr _ _),h,λk _=>⟨rfl,rfl⟩⟩
 .intro i x h;simp[gr0] at h
 .intro i x h;simp[gr0] at h
 .intro i x h;simp[gr0] at h
 .intro i j x y h;simp[gr0] at h
 .constructor
  .intro h;cases h
  .rintro ⟨x,h,_⟩;simp[gr0] at h
theorem HV:bF gr0.nodes gr0.R []:=λi k r x y h=>by simp[gr0] at h
theorem Jc(σ:Int->Tm):Sat gr0.nodes gr0.R [] σ:=⟨λk r ⟨d,hd⟩=>absurd hd.lt (Zo _),λp hp=>by cases hp⟩
theorem Iv:∀{a b:List Tm},a.length=b.length->(a.zip b).map (·.1)=a/\(a.zip b).map (·.2)=b
 |[],[],_=>⟨rfl,rfl⟩
 |[],_::_,h=>by cases h
 |_::_,[],h=>by cases h
 |x::a,y::b,h=>by
  have:=Iv (a:=a) (b:=b) (by simpa using h)
  simp only[List.zip_cons_cons,zP,this.1,this.2,and_self]
abbrev fN:Nat:=300000001
abbrev fF:Nat:=2200000000
theorem M8{a b:List Tm}(hN:Tm.aj a+Tm.aj b<=300000000):∃out e,GK fN fF a b=some (out,e)/\(if (a.all Tm.right&&b.all Tm.right)=true then (if a.length=b.length then Ans (Eqs (a.zip b)) out e else out=[]/\e=9) else out=[]/\e=2)/\Rng out:=by
 have hfN:fN=300000001:=rfl;have hfF:fF=2200000000:=rfl;unfold GK
 by_cases hr:(a.all Tm.right&&b.all Tm.right)=true
 .simp only[if_pos hr]
  by_cases hl:a.length=b.length
  .simp only[if_pos hl];simp only[zD] at hr
   have hfm:∀p∈a.zip b,p.1.form=true/\p.2.form=true:=λp hp=>by
    have:=List.of_mem_zip hp;exact⟨aK (zS.1 hr.1 _ this.1),aK (zS.1 hr.2 _ this.2)⟩
   obtain⟨z1,z2⟩:=Iv hl;obtain⟨g,bb,q1,q2,q3⟩:=EV (N:=fN) (f:=fF) (a.zip b) gr0 (PH (by decide)) HV rfl Ms hfm (by rw[z1,z2];show 0+_<_;omega) (by decide) (by decide)
   rw[q1]
   cases bb with
   |false=>exact⟨[],13,rfl,.inl ⟨λσ hs=>q3 rfl σ ⟨Jc σ,hs⟩,rfl,rfl⟩,.nil⟩
   |true=>
    obtain⟨s1,s2,s3,s4,s5⟩:=q2 rfl;have hlim:=s1.lim;have hlen:=s1.len;obtain⟨out,e,p1,p2,p3⟩:=EL (f:=fF) s1 s2 s3 s4.nodup (by omega) (by decide)
    refine⟨out,e,p1,p2.congr λσ=>?_,p3⟩;rw[s5 σ];exact⟨λh=>h.2,λh=>⟨Jc σ,h⟩⟩
  .simp only[if_neg hl];exact⟨[],9,rfl,⟨rfl,rfl⟩,.nil⟩
 .simp only[if_neg hr];exact⟨[],2,rfl,⟨rfl,rfl⟩,.nil⟩
end Go.CK
