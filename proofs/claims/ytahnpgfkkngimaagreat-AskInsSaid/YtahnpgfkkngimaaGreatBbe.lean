/-
  Texts of this aQ joined (wip/gen/bundle.py),those declarations only that are needed:UrA UrB UrC. By an AI agent.
-/
import Derived.Test.YtahnpgfkkngimaaGreatBbd
set_option linter.unusedSimpArgs false
set_option linter.unusedVariables false
namespace Go.CK
open Go.AM
structure Rg where
 nodes:List Nd
 cls:List Nat
def cA(p:Nat->Bool)(n:Nat):Option Nat:=(List.range n).find? p
theorem fC{p:Nat->Bool}{n:Nat}:cA p n=none↔∀j,j<n->p j=false:=by
 unfold cA;rw[List.find?_eq_none];simp only[Zd,Bool.not_eq_true]
theorem nv{p:Nat->Bool}{n k:Nat}(h:cA p n=some k):k<n/\p k=true:=by
 unfold cA at h;exact⟨Zd.1 (List.mem_of_find?_eq_some h),List.find?_some h⟩
theorem xM{p:Nat->Bool}{n k:Nat}(h:k<n)(hp:p k=true)(hj:∀j,j<k->p j=false):cA p n=some k:=by
 cases hf:cA p n with
 |none=>rw[fC.1 hf k h] at hp;cases hp
 |some m=>
  obtain⟨h1,h2⟩:=nv hf;unfold cA at hf;rw[List.find?_range_eq_some] at hf
  by_cases e:m=k
  .rw [e]
  .by_cases hlt:m<k
   .rw [hj m hlt] at h2;cases h2
   .have:=hf.2.2 k (by omega)
    rw[hp] at this;cases this
def Rg.isV(g:Rg)(v:Int)(i:Nat):Bool:=match g.nodes[i]? with
 |some x=>decide (x.t.kind=1)&&decide (x.t.num=v)
 |none=>false
def Rg.isS(g:Rg)(c:Nat)(i:Nat):Bool:=match g.nodes[i]? with
 |some x=>decide (g.cls[i]? =some c)&&decide (¬x.t.kind=1)
 |none=>false
def Rg.shape(g:Rg)(c:Nat):Option Nat:=cA (g.isS c) g.nodes.length
def sg(v:Int):Option Int->Option Int
 |none=>some v
 |some w=>if v<w then some v else some w
def Rg.leN(g:Rg)(c:Nat):Nat->Option Int
 |0=>none
 |j+1=>match g.nodes[j]? with
  |none=>g.leN c j
  |some x=>if g.cls[j]? =some c/\x.t.kind=1 then sg x.t.num (g.leN c j) else g.leN c j
def Rg.le(g:Rg)(c:Nat):Option Int:=g.leN c g.nodes.length
abbrev Rg.R(g:Rg):Nat->Nat->Prop:=λk r=>g.cls[k]? =some r
structure RW(g:Rg):Prop where
 len:g.cls.length=g.nodes.length
 nds:Nds g.nodes
 idm:∀k r:Nat,g.cls[k]? =some r->g.cls[r]? =some r
section
variable{g:Rg}
theorem RW.lt(h:RW g){k r:Nat}(hk:g.R k r):k<g.nodes.length/\r<g.nodes.length:=by
 have h1:=(ZB.1 hk).1;have h2:=(ZB.1 (h.idm _ _ hk)).1;have:=h.len;omega
theorem RW.par(h:RW g):Par g.nodes g.R:=by
 refine⟨λk r hk=>h.lt hk,λk hk=>⟨_,ZA (by rw[h.len];exact hk)⟩,λk r s h1 h2=>?_,λk r hk=>h.idm k r hk⟩
 have h1:g.cls[k]? =some r:=h1;have h2:g.cls[k]? =some s:=h2;rw[h1] at h2;cases h2;rfl
theorem DM{c i:Nat}:g.isS c i=true↔∃x:Nd,g.nodes[i]? =some x/\¬x.t.kind=1/\g.R i c:=by
 unfold Rg.isS
 cases hx:g.nodes[i]? with
 |none=>simp
 |some x=>
  simp only[ZD,decide_eq_true_eq,ZN];constructor
  .rintro ⟨h1,h2⟩;exact⟨x,rfl,h2,h1⟩
  .rintro ⟨y,rfl,h1,h2⟩;exact⟨h2,h1⟩
theorem DL{v:Int}{i:Nat}:g.isV v i=true↔∃x:Nd,g.nodes[i]? =some x/\x.t.kind=1/\x.t.num=v:=by
 unfold Rg.isV
 cases hx:g.nodes[i]? with
 |none=>simp
 |some x=>
  simp only[ZD,decide_eq_true_eq,ZN];constructor
  .rintro ⟨h1,h2⟩;exact⟨x,rfl,h1,h2⟩
  .rintro ⟨y,rfl,h1,h2⟩;exact⟨h1,h2⟩
theorem cT:ma g.nodes g.R g.shape:=λr _=>⟨λk hk=>by
 exact DM.1 (nv hk).2,λhn k x hx hk=>by
 have:=fC.1 hn k (ZB.1 hx).1
 exact Decidable.byContradiction λe=>by
  have h2:=DM.2 ⟨x,hx,e,hk⟩;rw[this] at h2;cases h2⟩
theorem G8(h:∀(i:Nat) (x:Nd),g.nodes[i]? =some x->x.t.form=true)(c:Nat):∀n:Nat,(∀w,g.leN c n=some w->(∃(k:Nat) (x:Nd),k<n/\g.nodes[k]? =some x/\x.t=az w/\g.R k c)/\∀(k:Nat) (x:Nd),k<n->g.nodes[k]? =some x->g.R k c->x.t.kind=1->w<=x.t.num)/\(g.leN c n=none->∀(k:Nat) (x:Nd),k<n->g.nodes[k]? =some x->g.R k c->¬x.t.kind=1)
 |0=>⟨λw hw=>(by cases hw),λ_ k x hk=>by omega⟩
 |n+1=>by
  obtain⟨h1,h2⟩:=G8 h c n
  have hstep:∀{P:Nat->Prop},(∀k,k<n->P k)->P n->∀k,k<n+1->P k:=λ{P} a b k hk=>by
   by_cases e:k=n
   .rw [e];exact b
   .exact a k (by omega)
  rw[Rg.leN]
  cases hx:g.nodes[n]? with
  |none=>
   simp only;refine⟨λw hw=>?_,λhn=>?_⟩
   .obtain ⟨⟨k,x,q1,q2,q3,q4⟩,q5⟩:=h1 w hw;refine⟨⟨k,x,by omega,q2,q3,q4⟩,λk x hk hx'=>?_⟩
    by_cases e:k=n
    .subst e;rw[hx] at hx';cases hx'
    .exact q5 k x (by omega) hx'
   .intro k x hk hx'
    by_cases e:k=n
    .subst e;rw[hx] at hx';cases hx'
    .exact h2 hn k x (by omega) hx'
  |some x=>
   simp only
   by_cases hc:g.cls[n]? =some c/\x.t.kind=1
   .rw [if_pos hc];have hxv:x.t=az x.t.num:=jY (fi _ (h n x hx)) hc.2
    cases hl:g.leN c n with
    |none=>
     simp only[sg,ZN];refine⟨λw hw=>?_,λhn=>by cases hn⟩
     subst hw;refine⟨⟨n,x,by omega,hx,hxv,hc.1⟩,λk y hk hy hkc hk1=>?_⟩
     by_cases e:k=n
     .subst e;rw[hx] at hy;cases hy;exact Int.le_refl _
     .exact absurd hk1 (h2 hl k y (by omega) hy hkc)
    |some w0=>
     obtain⟨⟨k0,x0,q1,q2,q3,q4⟩,q5⟩:=h1 w0 hl
     by_cases hlt:x.t.num<w0
     .simp only[sg,if_pos hlt,ZN];refine⟨λw hw=>?_,λhn=>by cases hn⟩
      subst hw;refine⟨⟨n,x,by omega,hx,hxv,hc.1⟩,λk y hk hy hkc hk1=>?_⟩
      by_cases e:k=n
      .subst e;rw[hx] at hy;cases hy;exact Int.le_refl _
      .have:=q5 k y (by omega) hy hkc hk1;omega
     .simp only[sg,if_neg hlt,ZN];refine⟨λw hw=>?_,λhn=>by cases hn⟩
      subst hw;refine⟨⟨k0,x0,by omega,q2,q3,q4⟩,λk y hk hy hkc hk1=>?_⟩
      by_cases e:k=n
      .subst e;rw[hx] at hy;cases hy;omega
      .exact q5 k y (by omega) hy hkc hk1
   .rw [if_neg hc];refine⟨λw hw=>?_,λhn=>?_⟩
    .obtain ⟨⟨k,y,q1,q2,q3,q4⟩,q5⟩:=h1 w hw;refine⟨⟨k,y,by omega,q2,q3,q4⟩,λk y hk hy hkc hk1=>?_⟩
     by_cases e:k=n
     .subst e;rw[hx] at hy;cases hy;exact absurd ⟨hkc,hk1⟩ hc
     .exact q5 k y (by omega) hy hkc hk1
    .intro k y hk hy hkc hk1
     by_cases e:k=n
     .subst e;rw[hx] at hy;cases hy;exact absurd ⟨hkc,hk1⟩ hc
     .exact h2 hn k y (by omega) hy hkc hk1
theorem AG(h:RW g):mb g.nodes g.R g.le:=λr _=>by
 obtain⟨h1,h2⟩:=G8 h.nds.frm r g.nodes.length;refine⟨λw hw=>?_,λhn k x hx=>h2 hn k x (ZB.1 hx).1 hx⟩;obtain⟨⟨k,x,q1,q2,q3,q4⟩,q5⟩:=h1 w hw;exact⟨⟨k,x,q2,q3,q4⟩,λk x hx=>q5 k x (ZB.1 hx).1 hx⟩
end
def jX(g:Rg)(t:Tm)(l:List Nat):Rg:=⟨g.nodes++[⟨t,l⟩],g.cls++[g.nodes.length]⟩
mutual
def bw:Rg->Tm->Rg×Nat
 |g,.mk k n s l=>match (if k=1 then cA (g.isV n) g.nodes.length else none) with
  |some i=>(g,i)
  |none=>(jX (bj g l).1 (.mk k n s l) (bj g l).2,(bj g l).1.nodes.length)
def bj:Rg->List Tm->Rg×List Nat
 |g,[]=>(g,[])
 |g,t::r=>((bj (bw g t).1 r).1,(bw g t).2::(bj (bw g t).1 r).2)
end
theorem A9{g:Rg}{t:Tm}{i:Nat}(h1:t.kind=1)(h2:cA (g.isV t.num) g.nodes.length=some i):bw g t=(g,i):=by
 obtain⟨k,n,s,l⟩:=t;simp only[Tm.kind,Tm.num] at h1 h2;rw[bw,if_pos h1,h2]
theorem uW{g:Rg}{t:Tm}(h:t.kind=1->cA (g.isV t.num) g.nodes.length=none):bw g t=(jX (bj g t.args).1 t (bj g t.args).2,(bj g t.args).1.nodes.length):=by
 obtain⟨k,n,s,l⟩:=t;simp only[Tm.kind,Tm.num] at h;rw[bw]
 have:(if k=1 then cA (g.isV n) g.nodes.length else none)=none:=by
  split
  .exact h ‹_›
  .rfl
 rw[this];rfl
theorem rK:∀(g:Rg) (l:List Tm) (t:Tm),bj g (l++[t])=((bw (bj g l).1 t).1,(bj g l).2++[(bw (bj g l).1 t).2])
 |g,[],t=>by simp only[Ym,bj]
 |g,x::l,t=>by simp only[Ze,bj,rK (bw g x).1 l t]
mutual
theorem nz:∀(g:Rg) (t:Tm),(bw g t).1.nodes.length<=g.nodes.length+t.nodes/\(bw g t).1.cls.length<=g.cls.length+t.nodes
 |g,.mk k n s l=>by
  have:=kV g l;rw[bw];split
  .dsimp only;omega
  .simp only[jX,ZC,ZU,Tm.nodes];omega
theorem kV:∀(g:Rg) (l:List Tm),(bj g l).1.nodes.length<=g.nodes.length+Tm.ai l/\(bj g l).1.cls.length<=g.cls.length+Tm.ai l
 |g,[]=>⟨ZG _,ZG _⟩
 |g,t::r=>by
  have h1:=nz g t;have h2:=kV (bw g t).1 r;simp only[bj,Tm.ai];omega
end
theorem rL:∀(g:Rg) (l:List Tm),(bj g l).2.length=l.length
 |g,[]=>rfl
 |g,t::r=>by simp only[bj,ZX,rL (bw g t).1 r]
structure vO(g g':Rg):Prop where
 gw:RW g'
 cl:aE g'.nodes g'.R []
 old:∀(j:Nat) (x:Nd),g.nodes[j]? =some x->g'.nodes[j]? =some x
 sat:∀σ,Sat g'.nodes g'.R [] σ↔Sat g.nodes g.R [] σ
theorem vO.trans{a b c:Rg}(h:vO a b)(k:vO b c):vO a c:=⟨k.gw,k.cl,λj x hx=>k.old j x (h.old j x hx),λσ=>(k.sat σ).trans (h.sat σ)⟩
theorem Hx{g:Rg}{t:Tm}{l:List Nat}(h:RW g)(hc:aE g.nodes g.R [])(hf:t.form=true)(hl:l.length=t.args.length)(hk:∀(j c:Nat) (y:Tm),l[j]? =some c->t.args[j]? =some y->∃z:Nd,g.nodes[c]? =some z/\z.t=y)(hv:t.kind=1->cA (g.isV t.num) g.nodes.length=none):vO g (jX g t l):=by
 obtain⟨n,hn⟩:∃n,n=g.nodes.length:=⟨_,rfl⟩;have hlen:=h.len
 have hRR:∀k r,(jX g t l).R k r↔g.R k r\/(k=n/\r=n):=λk r=>by
  show (g.cls++[g.nodes.length])[k]? =some r↔g.cls[k]? =some r\/_
  by_cases hkl:k<g.cls.length
  .rw [ZK hkl];exact⟨.inl,λe=>e.elim id λe=>by omega⟩
  .rw [ZZ (by omega)]
   by_cases hkn:k=n
   .subst hkn;rw[show k-g.cls.length=0 by omega]
    simp only[Yq,ZN,true_and];constructor
    .intro e;right;omega
    .rintro (e|e)
     .have:=(ZB.1 e).1;omega
     .omega
   .constructor
    .intro e;have:=(ZB.1 e).1;simp only[ZU] at this;omega
    .rintro (e|e)
     .have:=(ZB.1 e).1;omega
     .omega
 have hnd:(jX g t l).nodes=g.nodes++[⟨t,l⟩]:=rfl
 have hold:∀(j:Nat) (x:Nd),g.nodes[j]? =some x->(jX g t l).nodes[j]? =some x:=λj x hx=>by
  rw[hnd,ZK (ZB.1 hx).1];exact hx
 have hnew:(jX g t l).nodes[n]? =some ⟨t,l⟩:=by rw[hnd,hn];simp
 have hcase:∀(j:Nat) (x:Nd),(jX g t l).nodes[j]? =some x->g.nodes[j]? =some x\/(j=n/\x=⟨t,l⟩):=λj x hx=>by
  rw[hnd] at hx
  by_cases hj:j<g.nodes.length
  .rw [ZK hj] at hx;exact .inl hx
  .have hj2:=(ZB.1 hx).1;rw[ZC,ZU] at hj2;obtain rfl:j=n:=by omega
   rw[hn] at hx;simp at hx;exact .inr ⟨rfl,hx.symm⟩
 have hp:=h.par;have hRn:∀k,g.R k n->False:=λk hk=>by have:=h.lt hk;omega
 have hRn2:∀r,g.R n r->False:=λk hk=>by have:=h.lt hk;omega
 have hin:∀k r,g.R r r->(jX g t l).R k r->g.R k r:=λk r hr hkr=>by
  rcases(hRR k r).1 hkr with h1|⟨_,h1⟩
  .exact h1
  .subst h1;exact(hRn _ hr).elim
 have hinn:∀k,(jX g t l).R k n->k=n:=λk hkr=>by
  rcases(hRR k n).1 hkr with h1|⟨h1,_⟩
  .exact (hRn _ h1).elim
  .exact h1
 have hvar:t.kind=1->t=az t.num:=jY (fi t hf)
 have hnds:Nds (jX g t l).nodes:=by
  refine⟨λi x hx=>?_,λi x hx=>?_,λi x hx j c y h1 h2=>?_,λi j x y hx hy hx1 hxy=>?_⟩
  .rcases hcase i x hx with h1|⟨_,rfl⟩
   .exact h.nds.frm i x h1
   .exact hf
  .rcases hcase i x hx with h1|⟨_,rfl⟩
   .exact h.nds.len i x h1
   .exact hl
  .rcases hcase i x hx with h3|⟨_,rfl⟩
   .obtain ⟨z,h4,h5⟩:=h.nds.kid i x h3 j c y h1 h2;exact⟨z,hold _ _ h4,h5⟩
   .obtain ⟨z,h4,h5⟩:=hk j c y h1 h2;exact⟨z,hold _ _ h4,h5⟩
  .have hno:∀(i:Nat) (x:Nd),g.nodes[i]? =some x->x.t=t->t.kind=1->False:=λi x hx e h1=>by
    have h2:=fC.1 (hv h1) i (ZB.1 hx).1;rw[DL.2 ⟨x,hx,by rw[e];exact h1,by rw[e]⟩] at h2;cases h2
   rcases hcase i x hx with h1|⟨h1,rfl⟩<;>rcases hcase j y hy with h2|⟨h2,rfl⟩
   .exact h.nds.one i j x y h1 h2 hx1 hxy
   .exact (hno i x h1 hxy (by have e:x.t=t:=hxy;rw[<-e];exact hx1)).elim
   .exact (hno j y h2 hxy.symm hx1).elim
   .omega
 have hgw:RW (jX g t l):=by
  refine⟨?_,hnds,λk r hk=>?_⟩
  .show (g.cls++[g.nodes.length]).length=(g.nodes++[_]).length;rw[ZC,ZC,hlen];rfl
  .rcases (hRR k r).1 hk with h1|⟨h1,h2⟩
   .exact (hRR r r).2 (.inl (h.idm k r h1))
   .subst h2;exact(hRR r r).2 (.inr ⟨rfl,rfl⟩)
 refine⟨hgw,λi k r x y hx hy hx1 hy1 hi hk=>?_,hold,λσ=>?_⟩
 .have hcl:∀c d,Cl g.R [] c d->Cl (jX g t l).R [] c d:=λc d hcd=>Cl.map (rt:=g.R) (rt':=(jX g t l).R) (ps:=[]) (ps':=[]) (λc d r h1 h2=>.cls ((hRR _ _).2 (.inl h1)) ((hRR _ _).2 (.inl h2))) (λc d hm=>by cases hm) hcd
  rcases hcase i x hx with h1|⟨h1,rfl⟩
  .have hri:g.R i r:=by
    rcases(hRR _ _).1 hi with h2|⟨h2,_⟩
    .exact h2
    .subst h2;have:=(ZB.1 h1).1;omega
   have hrk:=hin k r (hp.idem _ _ hri) hk;rcases hcase k y hy with h2|⟨h2,_⟩
   .exact (hc i k r x y h1 h2 hx1 hy1 hri hrk).mono hcl
   .subst h2;exact(hRn2 _ hrk).elim
  .subst h1
   have hrn:r=i:=by
    rcases(hRR _ _).1 hi with h2|⟨_,h2⟩
    .exact (hRn2 _ h2).elim
    .exact h2
   subst hrn;have:=hinn k hk;subst this;rw[hnew] at hy;cases hy;refine⟨bq.2 ⟨rfl,rfl,rfl,rfl⟩,λj c d h1 h2=>?_⟩;rw[h1] at h2;cases h2;obtain⟨s,hs⟩:=hgw.par.tot c (ew hnds hnew h1);exact .cls hs hs
 .constructor
  .rintro ⟨h1,_⟩;refine⟨λk r hkr=>?_,λp hp=>by cases hp⟩
   have:=h1 k r ((hRR _ _).2 (.inl hkr));have hlt:=hp.lt _ _ hkr;rw[hnd,iZ hlt.1,iZ hlt.2] at this;exact this
  .rintro ⟨h1,_⟩;refine⟨λk r hkr=>?_,λp hp=>by cases hp⟩
   rcases(hRR _ _).1 hkr with h2|⟨h2,h3⟩
   .have hlt:=hp.lt _ _ h2;rw[hnd,iZ hlt.1,iZ hlt.2];exact h1 k r h2
   .rw [h2,h3]
mutual
theorem nA:∀{g:Rg} (t:Tm),RW g->aE g.nodes g.R []->t.form=true->vO g (bw g t).1/\∃x:Nd,(bw g t).1.nodes[(bw g t).2]? =some x/\x.t=t
 |g,.mk k n s l,h,hc,hf=>by
  by_cases hold:k=1/\∃i,cA (g.isV n) g.nodes.length=some i
  .obtain ⟨hk,i,hi⟩:=hold;rw[A9 (t:=.mk k n s l) hk hi];refine⟨⟨h,hc,λj x hx=>hx,λσ=>Iff.rfl⟩,?_⟩;obtain⟨x,hx,hx1,hx2⟩:=DL.1 (nv hi).2;refine⟨x,hx,?_⟩;rw[jY (fi _ (h.nds.frm _ _ hx)) hx1,hx2];exact(jY (fi _ hf) hk).symm
  .have hnew:(Tm.mk k n s l).kind=1->cA (g.isV (Tm.mk k n s l).num) g.nodes.length=none:=λhk=>by
    cases hl:cA (g.isV (Tm.mk k n s l).num) g.nodes.length with
    |none=>rfl
    |some i=>exact absurd ⟨hk,i,hl⟩ hold
   rw[uW hnew];have hfl:=gQ hf;obtain⟨a1,a2,a3⟩:=Bb l h hc hfl
   have hv:(Tm.mk k n s l).kind=1->cA ((bj g l).1.isV (Tm.mk k n s l).num) (bj g l).1.nodes.length=none:=λhk=>by
    have hl:l=[]:=(ix hf hk).2.2;subst hl;rw[bj];exact hnew hk
   have b:=Hx (t:=.mk k n s l) (l:=(bj g l).2) a1.gw a1.cl hf a2 a3 hv;exact⟨a1.trans b,⟨.mk k n s l,(bj g l).2⟩,List.getElem?_concat_length,rfl⟩
theorem Bb:∀{g:Rg} (l:List Tm),RW g->aE g.nodes g.R []->Tm.bN l=true->vO g (bj g l).1/\(bj g l).2.length=l.length/\∀(j c:Nat) (y:Tm),(bj g l).2[j]? =some c->l[j]? =some y->∃z:Nd,(bj g l).1.nodes[c]? =some z/\z.t=y
 |g,[],h,hc,_=>⟨⟨h,hc,λj x hx=>hx,λσ=>Iff.rfl⟩,rfl,λj c y h1 h2=>by simp at h2⟩
 |g,t::r,h,hc,hf=>by
  simp only[Tm.bN,ZD] at hf;obtain⟨a1,x,a2,a3⟩:=nA t h hc hf.1;obtain⟨b1,b2,b3⟩:=Bb r a1.gw a1.cl hf.2;simp only[bj];refine⟨a1.trans b1,by simp only[ZX,b2],λj c y h1 h2=>?_⟩
  cases j with
  |zero=>
   simp at h1 h2;subst h1;subst h2
   exact⟨x,b1.old _ _ a2,a3⟩
  |succ j=>exact b3 j c y (by simpa using h1) (by simpa using h2)
end
end Go.CK
namespace Go.CK
open Go.AM
def fZ(g:Rg)(x y:Nat):Rg:=⟨g.nodes,g.cls.map λc=>if c=y then x else c⟩
def pw(p q:Nd):Bool:=decide (p.t.kind=q.t.kind)&&(decide (p.t.num=q.t.num)&&(decide (p.t.name=q.t.name)&&decide (p.kids.length=q.kids.length)))
def kR(M:Rg->Nat->Nat->Option (Rg×Bool)):Rg->List (Nat×Nat)->Option (Rg×Bool)
 |g,[]=>some (g,true)
 |g,(a,b)::r=>match M g a b with
  |none=>none
  |some (g',false)=>some (g',false)
  |some (g',true)=>kR M g' r
def iW:Nat->Rg->Nat->Nat->Option (Rg×Bool)
 |0,_,_,_=>none
 |f+1,g,a,b=>match g.cls[a]?,g.cls[b]? with
  |some x,some y=>if x=y then some (g,true) else
   match g.shape x,g.shape y with
   |some m,some n=>match g.nodes[m]?,g.nodes[n]? with
    |some p,some q=>if pw p q=true then kR (iW f) (fZ g x y) (p.kids.zip q.kids) else some (fZ g x y,false)
    |_,_=>none
   |_,_=>some (fZ g x y,true)
  |_,_=>none
def kW(g:Rg):Nat:=(List.range g.cls.length).countP λk=>decide (g.cls[k]? =some k)
section
variable{g:Rg}
theorem JC(x y k r:Nat):(fZ g x y).R k r↔rtM g.R x y k r:=by
 show (g.cls.map _)[k]? =some r↔∃s,g.cls[k]? =some s/\_;rw[YD]
 cases g.cls[k]? with
 |none=>simp
 |some s=>simp[eq_comm]
theorem GP(x y:Nat):(fZ g x y).R=rtM g.R x y:=funext λk=>funext λr=>propext (JC x y k r)
theorem Kk(h:RW g){x y:Nat}(hx:g.R x x)(hxy:¬x=y):RW (fZ g x y):=by
 refine⟨by show (g.cls.map _).length=_;rw[ZF];exact h.len,h.nds,λk r hk=>?_⟩
 have hp:=Ip (b:=y) h.par hx hxy;rw[<-GP] at hp;exact hp.idem k r hk
theorem IP(h:RW g){x y:Nat}(hx:g.R x x)(hy:g.R y y)(hxy:¬x=y):kW (fZ g x y)<kW g:=by
 have hylt:=(ZB.1 hy).1;have hl:(fZ g x y).cls.length=g.cls.length:=ZF ..;unfold kW;rw[hl];have hR:∀k,(fZ g x y).cls[k]? =some k↔rtM g.R x y k k:=λk=>JC x y k k;refine oh (a:=y) (λk _ hk=>?_) (Zd.2 hylt) (decide_eq_true hy) (decide_eq_false ?_)
 .rw [decide_eq_true_iff] at hk|-;obtain⟨s,h1,h2⟩:=(hR k).1 hk
  by_cases hs:s=y
  .rw [if_pos hs] at h2;subst h2;subst hs;exact absurd (h.par.det _ _ _ hx h1) hxy
  .rw [if_neg hs] at h2;subst h2;exact h1
 .intro e;obtain⟨s,h1,h2⟩:=(hR y).1 e;have:=h.par.det _ _ _ h1 hy;subst this;rw[if_pos rfl] at h2;exact hxy h2.symm
theorem HV(h:RW g){i k:Nat}{p q:Nd}(hp:g.nodes[i]? =some p)(hq:g.nodes[k]? =some q):pw p q=dq p.t q.t:=by
 unfold pw dq;rw[h.nds.len _ _ hp,h.nds.len _ _ hq]
end
theorem C1{nds:List Nd}{rt:Nat->Nat->Prop}{ps ps':List (Nat×Nat)}(hm:∀p∈ps,p∈ps')(h:aE nds rt ps):aE nds rt ps':=λi k r x y hx hy hx1 hy1 hi hk=>(h i k r x y hx hy hx1 hy1 hi hk).mono λc d hcd=>hcd.map (λc d r h1 h2=>.cls h1 h2) λc d hcd=>.pair (hm _ hcd)
theorem pL{nds:List Nd}{rt:Nat->Nat->Prop}{ps ps':List (Nat×Nat)}{σ:Int->Tm}(hm:∀p∈ps,p∈ps')(h:Sat nds rt ps' σ):Sat nds rt ps σ:=⟨h.1,λp hp=>h.2 p (hm p hp)⟩
def zr(g:Rg)(ps qs:List (Nat×Nat))(g':Rg)(b:Bool):Prop:=g'.nodes=g.nodes/\g'.cls.length=g.cls.length/\(b=true->RW g'/\aE g'.nodes g'.R ps/\kW g'<=kW g/\∀σ,Sat g'.nodes g'.R ps σ↔Sat g.nodes g.R (ps++qs) σ)/\(b=false->∀σ,¬Sat g.nodes g.R (ps++qs) σ)
def De(g:Rg)(qs:List (Nat×Nat)):Prop:=∀p∈qs,p.1<g.nodes.length/\p.2<g.nodes.length
theorem xF{M:Rg->Nat->Nat->Option (Rg×Bool)}{n:Nat}(hM:∀(g:Rg) (ps:List (Nat×Nat)) (a b:Nat),RW g->aE g.nodes g.R (ps++[(a,b)])->De g [(a,b)]->kW g<n->∃g' b',M g a b=some (g',b')/\zr g ps [(a,b)] g' b'):∀(qs ps:List (Nat×Nat)) (g:Rg),RW g->aE g.nodes g.R (ps++qs)->De g qs->kW g<n->∃g' b',kR M g qs=some (g',b')/\zr g ps qs g' b'
 |[],ps,g,hg,hc,_,_=>⟨g,true,rfl,rfl,rfl,λ_=>⟨hg,by rw[Zv] at hc;exact hc,ZG _,λσ=>by rw[Zv]⟩,λe=>by cases e⟩
 |(a,b)::qs,ps,g,hg,hc,hw,hn=>by
  have hm1:∀p∈ps++(a,b)::qs,p∈(ps++qs)++[(a,b)]:=λp hp=>by
   simp only[ZY,ZI,Zp,Xg,or_false] at hp|-;rcases hp with h|h|h
   .exact .inl (.inl h)
   .exact .inr h
   .exact .inl (.inr h)
  have hm2:∀p∈(ps++qs)++[(a,b)],p∈ps++(a,b)::qs:=λp hp=>by
   simp only[ZY,ZI,Zp,Xg,or_false] at hp|-;rcases hp with (h|h)|h
   .exact .inl h
   .exact .inr (.inr h)
   .exact .inr (.inl h)
  obtain⟨g1,b1,e1,n1,l1,t1,f1⟩:=hM g (ps++qs) a b hg (C1 hm1 hc) (λp hp=>hw p (by rw[Zp] at hp;rw[hp];exact ZV ..)) hn
  cases b1 with
  |false=>
   refine⟨g1,false,by simp only[kR,e1],n1,l1,λe=>(by cases e),λ_ σ hs=>f1 rfl σ (pL hm2 hs)⟩
  |true=>
   obtain⟨w1,c1,k1,s1⟩:=t1 rfl;obtain⟨g2,b2,e2,n2,l2,t2,f2⟩:=xF hM qs ps g1 w1 c1 (λp hp=>by rw[n1];exact hw p (ZQ _ hp)) (by omega)
   refine⟨g2,b2,by simp only[kR,e1];exact e2,n2.trans n1,l2.trans l1,λe=>?_,λe σ hs=>f2 e σ ((s1 σ).2 (pL hm2 hs))⟩
   obtain⟨w2,c2,k2,s2⟩:=t2 e;exact⟨w2,c2,by omega,λσ=>(s2 σ).trans ((s1 σ).trans ⟨λh=>pL hm1 h,λh=>pL hm2 h⟩)⟩
theorem rz:∀(f:Nat) (g:Rg) (ps:List (Nat×Nat)) (a b:Nat),RW g->aE g.nodes g.R (ps++[(a,b)])->De g [(a,b)]->kW g<f->∃g' b',iW f g a b=some (g',b')/\zr g ps [(a,b)] g' b'
 |0,g,ps,a,b,_,_,_,h=>by omega
 |f+1,g,ps,a,b,hg,hc,hw,hf=>by
  obtain⟨ha,hb⟩:=hw (a,b) (Zp.2 rfl);dsimp only at ha hb;have hp:=hg.par;obtain⟨x,hx⟩:=hp.tot a ha;obtain⟨y,hy⟩:=hp.tot b hb;have hx':g.cls[a]? =some x:=hx;have hy':g.cls[b]? =some y:=hy;have hxx:=hp.idem _ _ hx;have hyy:=hp.idem _ _ hy;simp only[iW,hx',hy']
  by_cases hxy:x=y
  .subst hxy;rw[if_pos rfl];exact⟨g,true,rfl,rfl,rfl,λ_=>⟨hg,sw hx hy hc,ZG _,λσ=>(zJ hx hy σ).symm⟩,λe=>by cases e⟩
  .rw [if_neg hxy];have hmw:=Kk hg hxx hxy;have hmc:=IP hg hxx hyy hxy;have hmR:=GP (g:=g) x y;have hsat:=λσ=>nW (ps:=ps) hp hx hy σ;have hlen:(fZ g x y).cls.length=g.cls.length:=ZF ..
   have hnone:(g.shape x=none\/g.shape y=none)->∃g' b',some (fZ g x y,true)=some (g',b')/\zr g ps [(a,b)] g' b':=λhn=>by
    refine⟨_,true,rfl,rfl,hlen,λ_=>⟨hmw,?_,by omega,λσ=>by rw[hmR];exact hsat σ⟩,λe=>by cases e⟩
    rw[hmR];refine gk hg.nds hp hx hy hxy (λp h=>h) hc λi k u v hu hv hu1 hv1 hi hk=>?_;rcases hn with h|h
    .exact absurd ((cT x hxx).2 h i u hu hi) hu1
    .exact absurd ((cT y hyy).2 h k v hv hk) hv1
   cases hsx:g.shape x with
   |none=>exact hnone (.inl hsx)
   |some m=>
    cases hsy:g.shape y with
    |none=>exact hnone (.inr hsy)
    |some n=>
     obtain⟨p,p1,p2,p3⟩:=(cT x hxx).1 m hsx;obtain⟨q,q1,q2,q3⟩:=(cT y hyy).1 n hsy;simp only[p1,q1];rw[HV hg p1 q1]
     cases hal:dq p.t q.t with
     |false=>
      refine⟨fZ g x y,false,by rw[if_neg YY],rfl,hlen,λe=>(by cases e),λ_ σ hs=>?_⟩
      have h1:=hs.1;apply xk hg.nds p1 q1 p2 q2 hal σ;rw[h1 _ _ p3,h1 _ _ q3,<-h1 _ _ hx,<-h1 _ _ hy]
      exact hs.2 (a,b) (by simp)
     |true=>
      rw[if_pos rfl]
      have hzip:∀r∈p.kids.zip q.kids,r.1<g.nodes.length/\r.2<g.nodes.length:=λr hr=>by
       obtain⟨j,hj⟩:=YQ hr;obtain⟨j1,j2⟩:=YS.1 hj;exact⟨ew hg.nds p1 j1,ew hg.nds q1 j2⟩
      have hcm:aE (fZ g x y).nodes (fZ g x y).R (ps++p.kids.zip q.kids):=by
       rw[hmR];refine gk hg.nds hp hx hy hxy (λr hr=>Zy _ hr) hc λi k u v hu hv hu1 hv1 hi hk=>?_;exact⟨m,n,p,q,p1,q1,p2,q2,p3,q3,vz hal λr hr=>YU _ hr⟩
      obtain⟨g',b',e1,n1,l1,t1,f1⟩:=xF (M:=iW f) (n:=f) (λg ps a b h1 h2 h3 h4=>rz f g ps a b h1 h2 h3 h4) (p.kids.zip q.kids) ps (fZ g x y) hmw hcm hzip (by omega)
      have hss:∀σ,Sat (fZ g x y).nodes (fZ g x y).R (ps++p.kids.zip q.kids) σ↔Sat g.nodes g.R (ps++[(a,b)]) σ:=λσ=>by
       have h0:=hsat σ;rw[hmR];constructor
       .intro h;exact h0.1 (pL (λr hr=>Zy _ hr) h)
       .intro h;refine zL (h0.2 h) ?_;refine DK hg.nds p1 q1 hal p2 ?_;have h1:=h.1;rw[h1 _ _ p3,h1 _ _ q3,<-h1 _ _ hx,<-h1 _ _ hy];exact h.2 (a,b) (by simp)
      refine⟨g',b',e1,n1,l1.trans hlen,λe=>?_,λe σ hs=>f1 e σ ((hss σ).2 hs)⟩;obtain⟨w1,c1,k1,s1⟩:=t1 e;exact⟨w1,c1,by omega,λσ=>(s1 σ).trans (hss σ)⟩
def me(M:Nat->Option Tm)(g:Rg):List Nat->Option (List Tm)
 |[]=>some []
 |c::r=>match g.cls[c]? with
  |none=>none
  |some s=>match M s with
   |none=>none
   |some t=>match me M g r with
    |none=>none
    |some l=>some (t::l)
def oiI(o:Option Int):Int:=match o with
 |none=>-1
 |some w=>w
def gU(g:Rg):Nat->Nat->Option Tm
 |0,_=>none
 |f+1,c=>match g.shape c with
  |none=>some (az (oiI (g.le c)))
  |some k=>match g.nodes[k]? with
   |none=>none
   |some x=>match me (gU g f) g x.kids with
    |none=>none
    |some l=>some (.mk x.t.kind x.t.num x.t.name l)
abbrev Rg.Ex(g:Rg):Nat->Tm->Prop:=Go.CK.Ex g.nodes g.R g.shape g.le
theorem wR{g:Rg}(hg:RW g){M:Nat->Option Tm}:∀(xs:List Nat) (ts:List Tm),ts.length=xs.length->(∀c∈xs,c<g.nodes.length)->(∀(j c s:Nat) (y:Tm),xs[j]? =some c->g.R c s->ts[j]? =some y->M s=some y)->me M g xs=some ts
 |[],ts,h,_,_=>by
  have:ts=[]:=ZL (by simpa using h)
  rw[this];rfl
 |c::xs,[],h,_,_=>by simp at h
 |c::xs,t::ts,h,hlt,hM=>by
  obtain⟨s,hs⟩:=hg.par.tot c (hlt c (ZV ..));have hs':g.cls[c]? =some s:=hs;have h1:=hM 0 c s t rfl hs rfl;have h2:=wR hg xs ts (by simpa using h) (λd hd=>hlt d (ZQ _ hd)) λj d s y e1 e2 e3=>hM (j+1) d s y (by simpa using e1) e2 (by simpa using e3)
  simp only[me,hs',h1,h2]
theorem wP{g:Rg}(hg:RW g):∀(f:Nat) (r:Nat) (t:Tm),g.Ex r t->t.dep<=f->gU g f r=some t
 |0,r,t,_,h=>by have:=og t;omega
 |f+1,r,t,ht,hf=>by
  generalize htt:t=t' at ht
  cases ht with
  |var h h1 h2=>simp only[gU,h1,h2];rfl
  |leaf h h1 h2 h3=>
   rename_i k x;have hk:x.kids=[]:=ZL (by rw[hg.nds.len _ _ h2,h3];rfl)
   simp only[gU,h1,h2,hk,me];obtain⟨q,z⟩:=x;obtain⟨a1,a2,a3,a4⟩:=q;simp only[Tm.args] at h3
   subst h3;rfl
  |fn h h1 h2 h3 h4 h5=>
   rename_i k x ts
   have hk2:x.t.kind=2:=by
    obtain⟨x',e1,e2,_⟩:=(cT r h).1 k h1;rw[h2] at e1;cases e1
    by_cases hk:x.t.kind=2
    .exact hk
    .have:=fh (hg.nds.frm _ _ h2) e2 hk;rw[this] at h3;exact absurd rfl h3
   have hdep:t.dep=Tm.eE ts+1:=by rw[htt];exact ja (t:=Tm.mk x.t.kind x.t.num x.t.name ts) hk2
   have hl:=wR hg (M:=gU g f) x.kids ts h4 (λc hc=>by
    obtain⟨j,hj⟩:=YQ hc;exact ew hg.nds h2 hj) λj c s y e1 e2 e3=>wP hg f s y (h5 j c s y e1 e2 e3) (by
    have:=D3 (ZE e3);omega)
   simp only[gU,h1,h2,hl]
end Go.CK
namespace Go.CK
open Go.AM
def nJ(x:Int×Int):Prop:=0<=x.1/\x.1<=201/\0<=x.2/\x.2<=21
instance (x:Int×Int):Decidable (nJ x):=inferInstanceAs (Decidable (_/\_))
def vH(x y:Int×Int):Int×Int:=(min (x.1+y.1) 201,min (max x.2 (y.2+1)) 21)
theorem H2{x y:Int×Int}(hx:nJ x)(hy:nJ y):nJ (vH x y):=by
 unfold nJ vH at*;dsimp only;omega
def wC(g:Rg)(m:List (Int×Int)):List Nat->(Int×Int)->Bool->Option ((Int×Int)×Bool)
 |[],x,d=>some (x,d)
 |c::r,x,d=>match g.cls[c]? with
  |none=>none
  |some s=>match m[s]? with
   |none=>none
   |some y=>if nJ x/\nJ y then wC g m r (vH x y) (d&&decide (0<y.1)) else none
def nj(g:Rg)(c:Nat):Option (List Nat):=match g.shape c with
 |none=>some []
 |some k=>match g.nodes[k]? with
  |none=>none
  |some x=>some x.kids
def Dk(g:Rg)(i:Nat)(m:List (Int×Int))(left:Int):Option (List (Int×Int)×Int):=match g.cls[i]? with
 |none=>none
 |some c=>match m[c]? with
  |none=>none
  |some y=>if 0<y.1 then some (m,left) else match nj g c with
   |none=>none
   |some l=>match wC g m l (1,1) true with
    |none=>none
    |some (x,d)=>if d=true then (if 0<left then some (m.set c x,left-1) else none) else some (m,left)
def jg(g:Rg):Nat->List (Int×Int)->Int->Option (List (Int×Int)×Int)
 |0,m,left=>some (m,left)
 |i+1,m,left=>match jg g i m left with
  |none=>none
  |some (m',left')=>Dk g i m' left'
def uo(g:Rg):Nat->List (Int×Int)->Int->Option (Option (List (Int×Int)))
 |0,_,_=>none
 |f+1,m,left=>if 0<left then (match jg g g.nodes.length m left with
  |none=>none
  |some (m',left')=>if left'=left then some none else uo g f m' left') else some (some m)
section
variable{g:Rg}
structure MI(g:Rg)(m:List (Int×Int)):Prop where
 len:m.length=g.nodes.length
 val:∀(c:Nat) (y:Int×Int),m[c]? =some y->y=(0,0)\/∃t,g.Ex c t/\y=fa t
theorem Bn(t:Tm):nJ (fa t)/\0<(fa t).1:=by
 have:=yj t;have:=og t;unfold nJ fa;dsimp only;omega
theorem MI.bnd{m:List (Int×Int)}(h:MI g m){c:Nat}{y:Int×Int}(hy:m[c]? =some y):nJ y/\(0<y.1->∃t,g.Ex c t/\y=fa t)/\(¬0<y.1->y=(0,0)):=by
 rcases h.val c y hy with rfl|⟨t,h1,h2⟩
 .exact ⟨by decide,λe=>absurd e (by decide),λ_=>rfl⟩
 .subst h2;have:=Bn t;exact⟨this.1,λ_=>⟨t,h1,rfl⟩,λe=>absurd this.2 e⟩
def pnd(g:Rg)(m:List (Int×Int))(c:Nat):Bool:=decide (g.cls[c]? =some c)&&decide (m[c]? =some (0,0))
def eg(g:Rg)(m:List (Int×Int)):Nat:=(List.range g.nodes.length).countP (pnd g m)
theorem CU{x:Int×Int}{t:Tm}{ts:List Tm}(h:nJ x):foldM (vH x (fa t)) ts=foldM x (t::ts):=by
 have:=yj t;have:=og t;unfold nJ at h;simp only[foldM,vH,fa,Tm.szs,Tm.eE];congr 1<;>omega
theorem AJ(hg:RW g){m:List (Int×Int)}(hm:MI g m):∀(l:List Nat) (x:Int×Int) (d:Bool),(∀c∈l,c<g.nodes.length)->nJ x->1<=x.2->∃x' d',wC g m l x d=some (x',d')/\(d'=true->d=true/\∃ts:List Tm,ts.length=l.length/\(∀(j c s:Nat) (y:Tm),l[j]? =some c->g.R c s->ts[j]? =some y->g.Ex s y)/\x'=foldM x ts)/\(d'=false->d=false\/∃c s,c∈l/\g.R c s/\m[s]? =some (0,0))
 |[],x,d,_,hx,hx1=>⟨x,d,rfl,λh=>⟨h,[],rfl,λj c s y h=>by simp at h,by
   obtain⟨a,b⟩:=x;unfold nJ at hx;simp only[foldM,Tm.szs,Tm.eE] at hx hx1|-
   congr 1<;>omega⟩,λh=>.inl h⟩
 |c::l,x,d,hl,hx,hx1=>by
  obtain⟨s,hs⟩:=hg.par.tot c (hl c (ZV ..));have hs':g.cls[c]? =some s:=hs;have hslt:=(hg.lt hs).2;have hy:m[s]? =some (m[s]'(by rw[hm.len];exact hslt)):=ZA _
  generalize m[s]'(by rw[hm.len];exact hslt)=y at hy
  obtain⟨b1,b2,b3⟩:=hm.bnd hy;obtain⟨x',d',e1,e2,e3⟩:=AJ hg hm l (vH x y) (d&&decide (0<y.1)) (λc hc=>hl c (ZQ _ hc)) (H2 hx b1) (by unfold vH;unfold nJ at*;dsimp only;omega)
  refine⟨x',d',by simp only[wC,hs',hy];rw[if_pos ⟨hx,b1⟩];exact e1,λh=>?_,λh=>?_⟩
  .obtain ⟨f1,ts,f2,f3,f4⟩:=e2 h;rw[ZD,decide_eq_true_eq] at f1;obtain⟨t,ht,hyt⟩:=b2 f1.2;subst hyt;refine⟨f1.1,t::ts,by simp[f2],λj c' s' z h1 h2 h3=>?_,by rw[f4];exact CU hx⟩
   cases j with
   |zero=>
    simp at h1 h3;subst h1;subst h3
    rw[hg.par.det _ _ _ h2 hs];exact ht
   |succ j=>exact f3 j c' s' z (by simpa using h1) h2 (by simpa using h3)
  .rcases e3 h with h1|⟨c',s',h1,h2,h3⟩
   .rw [Bool.and_eq_false_iff] at h1;rcases h1 with h1|h1
    .exact .inl h1
    .rw [decide_eq_false_iff_not] at h1;exact .inr ⟨c,s,ZV ..,hs,by rw[hy,b3 h1]⟩
   .exact .inr ⟨c',s',ZQ _ h1,h2,h3⟩
theorem CJ(hg:RW g){c k:Nat}{x:Nd}{ts:List Tm}(hc:g.R c c)(hs:g.shape c=some k)(hx:g.nodes[k]? =some x)(hl:ts.length=x.kids.length)(h:∀(j c s:Nat) (y:Tm),x.kids[j]? =some c->g.R c s->ts[j]? =some y->g.Ex s y):∃t,g.Ex c t/\fa t=foldM (1,1) ts:=by
 obtain⟨x',e1,e2,e3⟩:=(cT c hc).1 k hs;rw[hx] at e1;cases e1;have hlen:=hg.nds.len _ _ hx
 by_cases ha:x.t.args=[]
 .refine ⟨x.t,.leaf hc hs hx ha,?_⟩;have hts:ts=[]:=ZL (by rw[hl,hlen,ha];rfl)
  subst hts
  have e1:x.t.sz=1:=by
   by_cases h2:x.t.kind=2
   .rw [mM h2,ha];rfl
   .exact pF h2
  have e2:x.t.dep=1:=by
   by_cases h2:x.t.kind=2
   .rw [ja h2,ha];rfl
   .exact qo h2
  rw[fa,e1,e2];rfl
 .have h2:x.t.kind=2:=by
   by_cases hk:x.t.kind=2
   .exact hk
   .have:=fh (hg.nds.frm _ _ hx) e2 hk;rw[this] at ha;exact absurd rfl ha
  refine⟨_,.fn hc hs hx ha hl h,?_⟩;have e1:(Tm.mk x.t.kind x.t.num x.t.name ts).sz=1+Tm.szs ts:=mM (t:=Tm.mk x.t.kind x.t.num x.t.name ts) h2;have e2:(Tm.mk x.t.kind x.t.num x.t.name ts).dep=Tm.eE ts+1:=ja (t:=Tm.mk x.t.kind x.t.num x.t.name ts) h2;rw[fa,e1,e2];simp only[foldM];congr 1<;>omega
def H4(g:Rg)(m:List (Int×Int))(c:Nat):Prop:=∃(k:Nat) (x:Nd) (d s:Nat),g.shape c=some k/\g.nodes[k]? =some x/\d∈x.kids/\g.R d s/\m[s]? =some (0,0)
theorem Et(hg:RW g){m:List (Int×Int)}(hm:MI g m){i:Nat}(hi:i<g.nodes.length):∃m' left',Dk g i m (eg g m)=some (m',left')/\MI g m'/\left'=eg g m'/\left'<=eg g m/\(left'=eg g m->m'=m/\∀c,g.R i c->m[c]? =some (0,0)->H4 g m c):=by
 have hp:=hg.par;obtain⟨c,hc⟩:=hp.tot i hi;have hc':g.cls[i]? =some c:=hc;have hclt:=(hg.lt hc).2;have hcc:=hp.idem _ _ hc;have hy:m[c]? =some (m[c]'(by rw[hm.len];exact hclt)):=ZA _
 generalize m[c]'(by rw[hm.len];exact hclt)=y at hy
 obtain⟨b1,b2,b3⟩:=hm.bnd hy;simp only[Dk,hc',hy];have hdet:∀c2,g.R i c2->c2=c:=λc2 h=>hp.det _ _ _ h hc
 by_cases hpos:0<y.1
 .refine ⟨m,eg g m,by rw[if_pos hpos],hm,rfl,Int.le_refl _,λ_=>⟨rfl,λc2 h1 h2=>?_⟩⟩
  rw[hdet c2 h1,hy] at h2;cases h2;exact absurd hpos (by decide)
 .rw [if_neg hpos];have hy0:=b3 hpos;subst hy0
  have hpn:pnd g m c=true:=by
   unfold pnd;rw[ZD,decide_eq_true_eq,decide_eq_true_eq];exact⟨hcc,hy⟩
  have hset:∀(x:Int×Int) (t:Tm),g.Ex c t->x=fa t->MI g (m.set c x)/\eg g (m.set c x)+1=eg g m:=λx t ht hx=>by
   refine⟨⟨by rw[Zm];exact hm.len,λd z hz=>?_⟩,?_⟩
   .by_cases hd:c=d
    .subst hd;rw[List.getElem?_set_self (by rw[hm.len];exact hclt)] at hz
     cases hz;exact .inr ⟨t,ht,hx⟩
    .rw [Yg hd] at hz;exact hm.val d z hz
   .unfold eg;have hcm:(m.set c x)[c]? =some x:=List.getElem?_set_self (by rw[hm.len];exact hclt)
    have hx0:¬x=(0,0):=λe=>by
     have:=(Bn t).2;rw[<-hx,e] at this;exact absurd this (by decide)
    have key:∀l:List Nat,l.Nodup->c∈l->l.countP (pnd g (m.set c x))+1=l.countP (pnd g m):=by
     have hne:∀d,¬d=c->pnd g (m.set c x) d=pnd g m d:=λd hd=>by
      unfold pnd;rw[Yg (λe=>hd e.symm)]
     intro l
     induction l with
     |nil=>intro _ h;cases h
     |cons d l ih=>
      intro hn hcl;rw[Ye] at hn
      by_cases hd:d=c
      .subst hd
       have h1:pnd g (m.set d x) d=false:=by
        unfold pnd;rw[hcm,Bool.and_eq_false_iff];right;rw[decide_eq_false_iff_not];simp only[ZN];exact hx0
       rw[Yh hpn,Yw (by rw[h1];decide)]
       congr 1;refine List.countP_congr λe he=>?_;rw[hne e (λh=>hn.1 (h▸he))]
      .have hcl:c∈l:=by
        rcases ZI.1 hcl with h|h
        .exact absurd h.symm hd
        .exact h
       have:=ih hn.2 hcl
       by_cases hq:pnd g m d=true
       .rw [Yh hq,Yh (by rw[hne d hd];exact hq)];omega
       .rw [Yw hq,Yw (by rw[hne d hd];exact hq)];omega
    exact key _ List.nodup_range (Zd.2 hclt)
  have hdone:∀(x:Int×Int) (t:Tm),g.Ex c t->x=fa t->∃m' left',(if 0<(eg g m:Int) then some (m.set c x,(eg g m:Int)-1) else none)=some (m',left')/\MI g m'/\left'=eg g m'/\left'<=eg g m/\(left'=eg g m->m'=m/\∀c,g.R i c->m[c]? =some (0,0)->H4 g m c):=λx t ht hx=>by
   obtain⟨h1,h2⟩:=hset x t ht hx;refine⟨m.set c x,(eg g m:Int)-1,by rw[if_pos (by omega)],h1,by omega,by omega,λe=>?_⟩
   omega
  cases hs:g.shape c with
  |none=>
   have hk:nj g c=some []:=by simp only[nj,hs]
   simp only[hk,wC,if_true]
   have hle:∃w,g.le c=some w:=by
    cases hl:g.le c with
    |some w=>exact⟨w,rfl⟩
    |none=>
     exfalso;have hx:=ZA hclt;exact(AG hg c hcc).2 hl c _ hx hcc ((cT c hcc).2 hs c _ hx hcc)
   obtain⟨w,hw⟩:=hle
   exact hdone (1,1) (az w) (.var hcc hs hw) rfl
  |some k=>
   obtain⟨x,x1,x2,x3⟩:=(cT c hcc).1 k hs;have hk:nj g c=some x.kids:=by simp only[nj,hs,x1]
   obtain⟨x',d',e1,e2,e3⟩:=AJ hg hm x.kids (1,1) true (λd hd=>by
    obtain⟨j,hj⟩:=YQ hd;exact ew hg.nds x1 hj) (by decide) (by decide)
   simp only[hk,e1]
   cases d' with
   |true=>
    rw[if_pos rfl];obtain⟨_,ts,f1,f2,f3⟩:=e2 rfl;obtain⟨t,ht,htt⟩:=CJ hg hcc hs x1 f1 f2
    exact hdone x' t ht (by rw[f3,htt])
   |false=>
    rw[if_neg YY];refine⟨m,eg g m,rfl,hm,rfl,Int.le_refl _,λ_=>⟨rfl,λc2 h1 h2=>?_⟩⟩;rw[hdet c2 h1];rcases e3 rfl with h|⟨d,s,h3,h4,h5⟩
    .cases h
    .exact ⟨k,x,d,s,hs,x1,h3,h4,h5⟩
theorem tt(hg:RW g){m:List (Int×Int)}(hm:MI g m):∀n:Nat,n<=g.nodes.length->∃m' left',jg g n m (eg g m)=some (m',left')/\MI g m'/\left'=eg g m'/\left'<=eg g m/\(left'=eg g m->m'=m/\∀i c,i<n->g.R i c->m[c]? =some (0,0)->H4 g m c)
 |0,_=>⟨m,eg g m,rfl,hm,rfl,Int.le_refl _,λ_=>⟨rfl,λi c h=>by omega⟩⟩
 |n+1,hn=>by
  obtain⟨m1,l1,e1,e2,e3,e4,e5⟩:=tt hg hm n (by omega)
  subst e3;obtain⟨m2,l2,f1,f2,f3,f4,f5⟩:=Et hg e2 (i:=n) (by omega)
  refine⟨m2,l2,by simp only[jg,e1];exact f1,f2,f3,by omega,λe=>?_⟩
  obtain⟨a1,a2⟩:=e5 (by omega)
  subst a1;obtain⟨b1,b2⟩:=f5 (by omega)
  refine⟨b1,λi c hi hc h0=>?_⟩
  by_cases h:i=n
  .subst h;exact b2 c hc h0
  .exact a2 i c (by omega) hc h0
theorem xy(hg:RW g):∀(f:Nat) (m:List (Int×Int)),MI g m->eg g m<f->∃r,uo g f m (eg g m)=some r/\((∃m',r=some m'/\MI g m'/\eg g m'=0)\/(r=none/\∀σ,¬Sat g.nodes g.R [] σ))
 |0,m,_,h=>by omega
 |f+1,m,hm,hf=>by
  by_cases hp:0<(eg g m:Int)
  .obtain ⟨m',l',e1,e2,e3,e4,e5⟩:=tt hg hm g.nodes.length (ZG _);simp only[uo,if_pos hp,e1]
   by_cases hl:l'=eg g m
   .rw [if_pos hl];refine⟨none,rfl,.inr ⟨rfl,λσ hσ=>?_⟩⟩;obtain⟨_,hst⟩:=e5 hl
    have key:∀N c,g.R c c->m[c]? =some (0,0)->(gv g.nodes σ c).nodes<=N->False:=by
     intro N
     induction N with
     |zero=>intro c _ _ h;have:=(gv g.nodes σ c).xn;omega
     |succ N ih=>
      intro c hc h0 hN;obtain⟨k,x,d,s,s1,s2,s3,s4,s5⟩:=hst c c (hg.lt hc).1 hc h0;obtain⟨x',x1,x2,x3⟩:=(cT c hc).1 k s1;rw[s2] at x1;cases x1
      have h2:x.t.kind=2:=by
       by_cases h2:x.t.kind=2
       .exact h2
       .have hi:=fh (hg.nds.frm _ _ s2) x2 h2;have hlen:=hg.nds.len _ _ s2;rw[hi] at hlen;have:x.kids=[]:=ZL hlen;rw[this] at s3;cases s3
      have hlt:(gv g.nodes σ s).nodes<(gv g.nodes σ c).nodes:=by
       rw[<-hσ.1 _ _ s4,<-hσ.1 _ _ x3,ph hg.nds s2 σ h2];have:=kP (YV (f:=gv g.nodes σ) s3);simp only[Tm.nodes];omega
      exact ih s (hg.par.idem _ _ s4) s5 (by omega)
    have:∃c,c∈List.range g.nodes.length/\pnd g m c=true:=by
     have:=List.countP_pos_iff (p:=pnd g m) (l:=List.range g.nodes.length);exact this.1 (by unfold eg at hp;omega)
    obtain⟨c,_,hc⟩:=this;unfold pnd at hc;rw[ZD,decide_eq_true_eq,decide_eq_true_eq] at hc;exact key _ c hc.1 hc.2 (ZG _)
   .rw [if_neg hl];subst e3;exact xy hg f m' e2 (by omega)
  .exact ⟨some m,by simp only[uo,if_neg hp],.inl ⟨m,rfl,hm,by omega⟩⟩
theorem mi0(n:Nat)(hn:n=g.nodes.length):MI g (List.replicate n (0,0)):=⟨by rw[Zf];exact hn,λc y hy=>by
 rw[List.getElem?_replicate] at hy;split at hy
 .cases hy;exact .inl rfl
 .cases hy⟩
theorem Jz(hg:RW g):eg g (List.replicate g.nodes.length (0,0))=kW g:=by
 unfold eg kW;rw[hg.len];refine List.countP_congr λc hc=>?_;rw[Zd] at hc;unfold pnd;rw[List.getElem?_replicate,if_pos hc,decide_eq_true (p:=some ((0:Int),(0:Int))=some (0,0)) rfl,Bool.and_true]
end
def Au(g:Rg):Option (Option (List (Int×Int))):=uo g (g.nodes.length+1) (List.replicate g.nodes.length (0,0)) (kW g)
theorem EP{g:Rg}(hg:RW g):∃r,Au g=some r/\((∃m,r=some m/\MI g m/\∀c,g.R c c->∃t,g.Ex c t/\m[c]? =some (fa t))\/(r=none/\∀σ,¬Sat g.nodes g.R [] σ)):=by
 have hle:kW g<=g.nodes.length:=by
  unfold kW;have:=Yz (p:=λk=>decide (g.cls[k]? =some k)) (l:=List.range g.cls.length);rw[Yu,hg.len] at this;rw[hg.len];exact this
 obtain⟨r,h1,h2⟩:=xy hg (g.nodes.length+1) (List.replicate g.nodes.length (0,0)) (mi0 _ rfl) (by rw[Jz hg];omega)
 rw[Jz hg] at h1;refine⟨r,h1,?_⟩;rcases h2 with ⟨m,rfl,hm,h0⟩|h2
 .refine .inl ⟨m,rfl,hm,λc hc=>?_⟩;have hclt:=(hg.lt hc).1;have hy:m[c]? =some (m[c]'(by rw[hm.len];exact hclt)):=ZA _
  generalize m[c]'(by rw[hm.len];exact hclt)=y at hy
  rcases hm.val c y hy with rfl|⟨t,ht,rfl⟩
  .exfalso
   have:pnd g m c=true:=by
    unfold pnd;rw[ZD,decide_eq_true_eq,decide_eq_true_eq];exact⟨hc,hy⟩
   have:=List.countP_pos_iff.2 ⟨c,Zd.2 hclt,this⟩;unfold eg at h0;omega
  .exact ⟨t,ht,hy⟩
 .exact .inr h2
end Go.CK
