/-
  Texts of this aQ joined (wip/gen/bundle.py),those declarations only that are needed:AmLy AmSk Cmp. By an AI agent.
-/
import Derived.Test.YtahnpgfkkngimaaGreatBas
set_option linter.unusedSimpArgs false
set_option linter.unusedVariables false
namespace Go.AM
open Go.CK Go.RowKit
def ixO:List (Option Nat)->Nat->Nat->Option Nat
 |[],_,_=>none
 |none::l,b,k=>ixO l b (k+1)
 |some i::l,b,k=>match Nat.beq i b with
  |true=>some k
  |false=>ixO l b (k+1)
theorem uz:∀{l:List (Option Nat)} {b k q:Nat},ixO l b k=some q->k<=q/\l[q-k]? =some (some b)
 |none::l,b,k,q,h=>by
  obtain⟨h1,h2⟩:=uz (l:=l) (k:=k+1) h;refine⟨by omega,?_⟩
  rw[show q-k=(q-(k+1))+1 by omega]
  simpa using h2
 |some i::l,b,k,q,h=>by
  simp only[ixO] at h;split at h
  .rename_i hb;cases h;have:=ZO hb;subst this;simp
  .obtain ⟨h1,h2⟩:=uz h;refine⟨by omega,?_⟩
   rw[show q-k=(q-(k+1))+1 by omega]
   simpa using h2
def inO(l:List (Option Nat))(b:Nat):Bool:=match ixO l b 0 with
 |some _=>true
 |none=>false
def gZ(l:List (Option Nat))(b:Nat):Nat:=match ixO l b 0 with
 |some k=>k
 |none=>0
def iK(f:Nat->Nat)(bs:List Box):List (Option Nat)->List Box
 |[]=>[]
 |none::l=>.dead::iK f bs l
 |some i::l=>rnB f (je bs i)::iK f bs l
theorem u7(f:Nat->Nat)(bs:List Box):∀(l:List (Option Nat)) (k:Nat),(iK f bs l)[k]? =(l[k]?).map λo=>match o with|some i=>rnB f (je bs i)|none=>.dead
 |[],k=>by simp[iK]
 |none::l,0=>by simp[iK]
 |some i::l,0=>by simp[iK]
 |none::l,k+1=>by simp[iK,u7 f bs l k]
 |some i::l,k+1=>by simp[iK,u7 f bs l k]
theorem nC(f:Nat->Nat)(bs:List Box):∀l:List (Option Nat),(iK f bs l).length=l.length
 |[]=>rfl
 |none::l=>by simp[iK,nC f bs l]
 |some i::l=>by simp[iK,nC f bs l]
def rnE(f:Nat->Nat):List (Nat×AV)->List (Nat×AV)
 |[]=>[]
 |(t,x)::e=>(t,x.rn f)::rnE f e
theorem Dt(f:Nat->Nat):∀(e:List (Nat×AV)) (t:Nat),ak (rnE f e) t=(ak e t).map (AV.rn f)
 |[],t=>rfl
 |(k,x)::e,t=>by
  simp only[rnE,ak]
  cases Nat.beq k t with
  |true=>rfl
  |false=>exact Dt f e t
def atE(p:Nat->Bool):List (Nat×AV)->Bool
 |[]=>true
 |(_,x)::e=>x.atp p&&atE p e
theorem Ec{p:Nat->Bool}:∀{e:List (Nat×AV)} {t:Nat} {x:AV},atE p e=true->ak e t=some x->x.atp p=true
 |(k,y)::e,t,x,h,hg=>by
  simp only[atE,ZD] at h;simp only[ak] at hg;split at hg
  .cases hg;exact h.1
  .exact Ec h.2 hg
 |[],_,_,_,hg=>by cases hg
def oA:List (Option Nat)->Bool
 |[]=>true
 |none::l=>oA l
 |some i::l=>(match ixO l i 0 with|some _=>false|none=>true)&&oA l
def AA(n:Nat):Nat->List (Option Nat)->Bool
 |_,[]=>true
 |b,none::l=>AA n (b+1) l
 |b,some i::l=>(Nat.ble n b||Nat.beq i b)&&AA n (b+1) l
def ltO(N:Nat):List (Option Nat)->Bool
 |[]=>true
 |none::l=>ltO N l
 |some i::l=>Nat.blt i N&&ltO N l
theorem uB:∀{l:List (Option Nat)} {b k:Nat},ixO l b k=none->some b∉l
 |none::l,b,k,h,hm=>by
  rcases ZI.1 hm with hm|hm
  .cases hm
  .exact uB (l:=l) h hm
 |some i::l,b,k,h,hm=>by
  simp only[ixO] at h;split at h
  .cases h
  .rename_i hb;rcases ZI.1 hm with hm|hm
   .cases hm;simp at hb
   .exact uB h hm
 |[],_,_,_,hm=>by cases hm
theorem lM:∀{l:List (Option Nat)},oA l=true->∀{k k' i:Nat},l[k]? =some (some i)->l[k']? =some (some i)->k=k'
 |none::l,h,0,k',i,h1,h2=>by simp at h1
 |none::l,h,k+1,0,i,h1,h2=>by simp at h2
 |none::l,h,k+1,k'+1,i,h1,h2=>by
  have:=lM (l:=l) h (k:=k) (k':=k') (i:=i) (by simpa using h1) (by simpa using h2)
  rw[this]
 |some j::l,h,k,k',i,h1,h2=>by
  simp only[oA,ZD] at h
  have hno:some j∉l:=by
   have:=h.1;split at this
   .cases this
   .rename_i hn;exact uB hn
  cases k with
  |zero=>
   simp at h1;subst h1
   cases k' with
   |zero=>rfl
   |succ k'=>exact absurd (ZE (by simpa using h2)) hno
  |succ k=>
   cases k' with
   |zero=>simp at h2;subst h2;exact absurd (ZE (by simpa using h1)) hno
   |succ k'=>
    have:=lM h.2 (k:=k) (k':=k') (i:=i) (by simpa using h1) (by simpa using h2)
    rw[this]
 |[],_,k,k',i,h1,_=>by simp at h1
theorem rq{n:Nat}:∀{l:List (Option Nat)} {c k i:Nat},AA n c l=true->l[k]? =some (some i)->c+k<n->i=c+k
 |none::l,c,0,i,h,h1,hlt=>by simp at h1
 |none::l,c,k+1,i,h,h1,hlt=>by
  have:=rq (l:=l) (c:=c+1) (k:=k) (i:=i) h (by simpa using h1) (by omega)
  omega
 |some j::l,c,k,i,h,h1,hlt=>by
  simp only[AA,ZD,YL] at h
  cases k with
  |zero=>
   simp at h1;subst h1;rcases h.1 with h|h
   .have:=Zr h;omega
   .exact ZO h
  |succ k=>
   have:=rq (c:=c+1) (k:=k) (i:=i) h.2 (by simpa using h1) (by omega)
   omega
 |[],c,k,i,_,h1,_=>by simp at h1
theorem qc{N:Nat}:∀{l:List (Option Nat)} {k i:Nat},ltO N l=true->l[k]? =some (some i)->i<N
 |none::l,0,i,h,h1=>by simp at h1
 |none::l,k+1,i,h,h1=>qc (l:=l) (k:=k) h (by simpa using h1)
 |some j::l,k,i,h,h1=>by
  simp only[ltO,ZD] at h
  cases k with
  |zero=>simp at h1;subst h1;simpa[Nat.blt_eq] using h.1
  |succ k=>exact qc h.2 (by simpa using h1)
 |[],k,i,_,h1=>by simp at h1
def okO(p:Nat->Bool)(bs:List Box):List (Option Nat)->Bool
 |[]=>true
 |none::l=>okO p bs l
 |some i::l=>atB p (je bs i)&&okO p bs l
theorem pZ{p:Nat->Bool}{bs:List Box}:∀{l:List (Option Nat)} {k i:Nat},okO p bs l=true->l[k]? =some (some i)->atB p (je bs i)=true
 |none::l,0,i,h,h1=>by simp at h1
 |none::l,k+1,i,h,h1=>pZ (l:=l) (k:=k) h (by simpa using h1)
 |some j::l,k,i,h,h1=>by
  simp only[okO,ZD] at h
  cases k with
  |zero=>simp at h1;subst h1;exact h.1
  |succ k=>exact pZ h.2 (by simpa using h1)
 |[],k,i,_,h1=>by simp at h1
theorem aB.lay(s:St)(is:List (Option Nat))(h1:oA is=true)(h2:AA s.lo 0 is=true)(h3:ltO s.bs.length is=true)(h4:Nat.ble s.lo is.length=true)(he:atE (inO is) s.env=true)(hb:okO (inO is) s.bs is=true):
  aB s ⟨rnE (gZ is) s.env,iK (gZ is) s.bs is,s.lo⟩:=λE G a w hs=>by
 obtain⟨env,bs,lo⟩:=s;simp only at h2 h3 h4 he hb|-;have h4:=Zr h4;have hlo:lo=E.nb:=hs.lo;have hcl:(iK (gZ is) bs is).length=is.length:=nC _ _ _
 have hcb:∀{k:Nat} {y:Box},(iK (gZ is) bs is)[k]? =some y->(is[k]? =some none/\y=.dead)\/∃i x,is[k]? =some (some i)/\bs[i]? =some x/\y=rnB (gZ is) x/\atB (inO is) x=true:=λ{k y} hy=>by
  rw[u7] at hy
  cases hk:is[k]? with
  |none=>rw[hk] at hy;cases hy
  |some o=>
   rw[hk] at hy
   cases o with
   |none=>simp at hy;exact .inl ⟨rfl,hy.symm⟩
   |some i=>
    have hlt:=qc h3 hk;have hx:bs[i]? =some bs[i]:=ZA hlt;have hat:=pZ hb hk;rw[kY hx] at hat;simp only[ZM,ZN,kY hx] at hy;exact .inr ⟨i,_,rfl,hx,hy.symm,hat⟩
 obtain⟨G2,hG2⟩:∃G2:Gh,G2=⟨G.M,λb=>match is[b]? with|some (some i)=>G.σ i|_=>G.σ b,λp=>match p with|.sl t=>G.cl (.sl t)|.bx b j=>match is[b]? with|some (some i)=>G.cl (.bx i j)|_=>none⟩:=⟨_,rfl⟩;have hM:G2.M=G.M:=by rw[hG2]
 have hσ:∀{k i:Nat},is[k]? =some (some i)->G2.σ k=G.σ i:=λ{k i} hk=>by rw[hG2];simp only[hk]
 have hclS:∀t,G2.cl (.sl t)=G.cl (.sl t):=λt=>by rw[hG2]
 have hclB:∀{k i:Nat} (j:Nat),is[k]? =some (some i)->G2.cl (.bx k j)=G.cl (.bx i j):=λ{k i} j hk=>by rw[hG2];simp only[hk]
 have hcl2:∀{p:Pl} {B:Nat},G2.cl p=some B->(∃t,p=.sl t/\G.cl (.sl t)=some B)\/∃k i j,p=.bx k j/\is[k]? =some (some i)/\G.cl (.bx i j)=some B:=λ{p B} hp=>by
  cases p with
  |sl t=>exact .inl ⟨t,rfl,by rw[<-hclS];exact hp⟩
  |bx k j=>
   rw[hG2] at hp;simp only at hp;split at hp
   .rename_i i hk;exact .inr ⟨k,i,j,rfl,hk,hp⟩
   .cases hp
 have hcells:∀{k:Nat} {cs:List AV},aa (iK (gZ is) bs is) k=some cs->∃i ds,is[k]? =some (some i)/\aa bs i=some ds/\cs=ds.map (AV.rn (gZ is))/\∀c∈ds,c.atp (inO is)=true:=λ{k cs} hc=>by
  unfold aa at hc;split at hc
  .rename_i y hy;rcases hcb hy with ⟨_,rfl⟩|⟨i,x,q1,q2,rfl,q4⟩
   .cases hc
   .rw [Cd _ q4] at hc
    cases hx:x.cs? with
    |none=>rw[hx] at hc;cases hc
    |some ds=>
     rw[hx] at hc;simp only[ZM,ZN] at hc;exact⟨i,ds,q1,by simp only[aa,q2,hx],hc.symm,rQ q4 hx⟩
  .cases hc
 have hloops:∀{k:Nat} {x:LB},ag (iK (gZ is) bs is) k=some x->∃i,is[k]? =some (some i)/\ag bs i=some x/\x.n=0/\∀M:Hp,x.M.le M:=λ{k x} hc=>by
  unfold ag at hc;split at hc
  .rename_i y hy;rcases hcb hy with ⟨_,rfl⟩|⟨i,z,q1,q2,rfl,q4⟩
   .cases hc
   .rw [Cc] at hc;exact⟨i,q1,by simp only[ag,q2,hc],C6 q4 hc⟩
  .cases hc
 have hone:=λ{k k' i:Nat}=>lM h1 (k:=k) (k':=k') (i:=i)
 have toR:∀{x:AV} {v:Value},RV G.M G.σ bs.length x v->x.atp (inO is)=true->RV G2.M G2.σ (iK (gZ is) bs is).length (x.rn (gZ is)) v:=λ{x v} hx hp=>by
  rw[hM];refine hx.rn (λb hb _=>?_) hp;unfold inO at hb
  cases hq:ixO is b 0 with
  |none=>rw[hq] at hb;cases hb
  |some k=>
   obtain⟨_,q1⟩:=uz hq;rw[XL] at q1;have hr:gZ is b=k:=by unfold gZ;rw[hq]
   rw[hr,hσ q1,hcl];exact⟨rfl,(ZB.1 q1).1⟩
 have hat:∀{p:Pl} {x:AV},(⟨rnE (gZ is) env,iK (gZ is) bs is,lo⟩:St).at p=some x->(∃t y,p=.sl t/\(⟨env,bs,lo⟩:St).at (.sl t)=some y/\x=y.rn (gZ is)/\y.atp (inO is)=true)\/(∃k i j y,p=.bx k j/\is[k]? =some (some i)/\(⟨env,bs,lo⟩:St).at (.bx i j)=some y/\x=y.rn (gZ is)/\y.atp (inO is)=true):=λ{p x} hp=>by
  cases p with
  |sl t=>
   simp only[St.at,Dt] at hp
   cases hq:ak env t with
   |none=>rw[hq] at hp;cases hp
   |some y=>
    rw[hq] at hp;simp only[ZM,ZN] at hp
    exact .inl ⟨t,y,rfl,hq,hp.symm,Ec he hq⟩
  |bx k j=>
   simp only[St.at] at hp
   cases hbk:aa (iK (gZ is) bs is) k with
   |none=>rw[hbk] at hp;cases hp
   |some cs=>
    obtain⟨i,ds,q1,q2,q3,q4⟩:=hcells hbk;rw[hbk,q3] at hp;simp only[YE,YD] at hp
    cases hj:ds[j]? with
    |none=>rw[hj] at hp;cases hp
    |some y=>
     rw[hj] at hp;simp only[ZM,ZN] at hp;exact .inr ⟨k,i,j,y,rfl,q1,by simp only[St.at,q2,YE,hj],hp.symm,q4 y (ZE hj)⟩
 have hval:∀{k i:Nat} (j:Nat),is[k]? =some (some i)->al G2.σ a w (.bx k j)=al G.σ a w (.bx i j):=λ{k i} j hk=>by simp only[al,hσ hk]
 refine⟨G2,by rw[hM];exact hs.fr,by rw[hM];exact hs.ok,hs.nt,λp x hp=>?_,λk j x hp=>?_,λk cs hk=>?_,λk cs hk=>?_,λk k' cs cs' hk hk' e=>?_,λp z l hp=>?_,λp q B hp hq=>?_,λp B hp k cs hk=>?_,λp B hp=>?_,hs.lo,by show E.nb<=_;rw[hcl];omega,λb hb=>?_,?_⟩
 .rcases hat hp with ⟨t,y,rfl,q1,rfl,q2⟩|⟨k,i,j,y,rfl,q0,q1,rfl,q2⟩
  .show RV G2.M G2.σ _ _ (al G2.σ a w (.sl t));rw[mQ];exact toR (hs.val _ _ q1) (by rw[k7];exact q2)
  .show RV G2.M G2.σ _ _ (al G2.σ a w (.bx k j));rw[mQ,hval j q0];exact toR (hs.val _ _ q1) (by rw[k7];exact q2)
 .rcases hat hp with ⟨t,y,e,_⟩|⟨k',i,j',y,e,q0,q1,rfl,q2⟩
  .cases e
  .cases e;rw[hval _ q0];exact hs.one _ _ _ q1
 .obtain ⟨i,ds,q1,q2,rfl,_⟩:=hcells hk;rw[hσ q1,ZF];exact hs.box i ds q2
 .obtain ⟨i,ds,q1,q2,rfl,_⟩:=hcells hk;rw[hσ q1,hM];exact hs.bmem i ds q2
 .obtain ⟨i,ds,q1,q2,_,_⟩:=hcells hk;obtain⟨i',ds',q1',q2',_,_⟩:=hcells hk';rw[hσ q1,hσ q1'] at e;have:=hs.inj i i' ds ds' q2 q2' e;subst this;exact hone q1 q1'
 .rcases hat hp with ⟨t,y,rfl,q1,e,q2⟩|⟨k,i,j,y,rfl,q0,q1,e,q2⟩
  .have hy:=tw e.symm;subst hy;obtain⟨ad,kk,r1,r2,r3⟩:=hs.own _ _ _ q1;refine⟨ad,kk,r1,r2,?_⟩;rcases r3 with r3|⟨B,hB,r4,r5⟩
   .exact .inl r3
   .exact .inr ⟨B,by rw[hclS];exact hB,r4,r5.lt,r5.cells,by rw[hM];exact r5.free,r5.mine⟩
  .have hy:=tw e.symm;subst hy;obtain⟨ad,kk,r1,r2,r3⟩:=hs.own _ _ _ q1;refine⟨ad,kk,by rw[hval j q0];exact r1,r2,?_⟩
   rcases r3 with r3|⟨B,hB,r4,r5⟩
   .exact .inl r3
   .exact .inr ⟨B,by rw[hclB j q0];exact hB,r4,r5.lt,r5.cells,by rw[hM];exact r5.free,r5.mine⟩
 .rcases hcl2 hp with ⟨t,rfl,q1⟩|⟨k,i,j,rfl,q0,q1⟩<;>rcases hcl2 hq with ⟨t',rfl,q1'⟩|⟨k',i',j',rfl,q0',q1'⟩
  .exact hs.clinj _ _ B q1 q1'
  .have:=hs.clinj _ _ B q1 q1';cases this
  .have:=hs.clinj _ _ B q1 q1';cases this
  .have:=hs.clinj _ _ B q1 q1';cases this;have:=hone q0 q0';subst this;rfl
 .obtain ⟨i,ds,q1,q2,_,_⟩:=hcells hk;rw[hσ q1];rcases hcl2 hp with ⟨t,rfl,q⟩|⟨k',i',j,rfl,q0,q⟩
  .exact hs.clbox _ B q i ds q2
  .exact hs.clbox _ B q i ds q2
 .rcases hcl2 hp with ⟨t,rfl,q⟩|⟨k',i',j,rfl,q0,q⟩
  .exact hs.cllt _ B q
  .exact hs.cllt _ B q
 .have hlt:b<is.length:=by omega
  have hsg:=hs.sig b hb;rw[hG2];simp only
  cases hk:is[b]? with
  |none=>exact hsg
  |some o=>
   cases o with
   |none=>exact hsg
   |some i=>
    have:=rq h2 hk (by omega)
    rw[YG] at this;subst this;exact hsg
 .refine ⟨λB o hsp=>?_,λk x hk=>?_,λk k' x x' hk hk' e=>?_,hs.sp.ds⟩
  .rcases hsp with ⟨k,x,hk,e,ho⟩|hm
   .obtain ⟨i,q1,q2,_,_⟩:=hloops hk;rw[hσ q1] at e;obtain⟨r1,r2,r3⟩:=hs.sp.ob B o (.inl ⟨i,x,q2,e,ho⟩);refine⟨r1,λp hp=>?_,r3⟩;rcases hcl2 hp with ⟨t,rfl,q⟩|⟨k',i',j,rfl,q0,q⟩<;>exact r2 _ q
   .obtain ⟨r1,r2,r3⟩:=hs.sp.ob B o (.inr hm);refine⟨r1,λp hp=>?_,r3⟩;rcases hcl2 hp with ⟨t,rfl,q⟩|⟨k',i',j,rfl,q0,q⟩<;>exact r2 _ q
  .obtain ⟨i,q1,q2,q3,q4⟩:=hloops hk;exact⟨q4 _,by omega,λc hc=>by omega⟩
  .obtain ⟨i,q1,q2,_,_⟩:=hloops hk;obtain⟨i',q1',q2',_,_⟩:=hloops hk';rw[hσ q1,hσ q1'] at e;have:=hs.sp.inj i i' x x' q2 q2' e;subst this;exact hone q1 q1'
theorem GJ{p:Nat->Bool}{bs:List Box}{i:Nat}{l:List (Option Nat)}(h:atB p (je bs i)=true)(k:okO p bs l=true):okO p bs (some i::l)=true:=by simp only[okO,h,k,Bool.and_self]
theorem ta{α:Type}{f:α->AV}{z:Nat}(hp:Plain f z){p:Nat->Bool}(k:Nat)(l:List α):atB p (aL f z k l)=true:=by
 simp only[aL,atB,ZS];intro c hc;rcases ZY.1 hc with hc|hc
 .exact (hp.mem hc).2
 .rw [(Ya.1 hc).2];rfl
theorem Fz{p:Nat->Bool}{x:Box}{l:List Box}(h:atB p x=true)(k:wJ p l=true):wJ p (x::l)=true:=by simp only[wJ,h,k,Bool.and_self]
theorem ah.lay{s t:St}(is:List (Option Nat))(hb:okO (inO is) s.bs is=true)(h:(⟨rnE (gZ is) s.env,iK (gZ is) s.bs is,s.lo⟩:St).fo true λs'=>ah s' t)(h1:oA is=true:=by rfl)(h2:AA s.lo 0 is=true:=by rfl)(h3:ltO s.bs.length is=true:=by rfl)(h4:Nat.ble s.lo is.length=true:=by rfl)(he:atE (inO is) s.env=true:=by rfl):ah s t:=by
 rw[St.c9] at h;exact⟨(aB.lay s is h1 h2 h3 h4 he hb).trans h.out⟩
theorem af.lay{s:St}{rs:List cm}{Q:AV->List Box->Prop}(is:List (Option Nat))(hb:okO (inO is) s.bs is=true)(h:(⟨rnE (gZ is) s.env,iK (gZ is) s.bs is,s.lo⟩:St).fo true λs'=>af s' rs Q)(h1:oA is=true:=by rfl)(h2:AA s.lo 0 is=true:=by rfl)(h3:ltO s.bs.length is=true:=by rfl)(h4:Nat.ble s.lo is.length=true:=by rfl)(he:atE (inO is) s.env=true:=by rfl):af s rs Q:=by
 rw[St.c9] at h;obtain⟨s',q1,q2⟩:=h.out;exact⟨s',(aB.lay s is h1 h2 h3 h4 he hb).trans q1,q2⟩
theorem af.wk{s s':St}{rs:List cm}{Q:AV->List Box->Prop}(hw:aB s s')(h:af s' rs Q):af s rs Q:=by
 obtain⟨s2,q1,q2⟩:=h.out;exact⟨s2,hw.trans q1,q2⟩
theorem ab.at{P:Program}{f:FuncId}{vals raw vals0:List AV}{bs bs0:List Box}{Q:AV->List Box->Prop}{K:AV->List Box->Prop}(is:List Nat)(h:Sem P f vals0 bs0 Q)(hv0:raw.map (AV.rn (rho is))=vals0)(hb0:cut is bs is=bs0)
  (hQ:∀r bs',Q r bs'->Nat.ble is.length bs'.length=true/\r.atp (λb=>decide (b<bs'.length))=true/\wJ (λb=>decide (b<bs'.length)) bs'=true)
  (hb:okO (sT is) bs (is.map some)=true) (hK:∀r bs',Q r bs'->K (r.rn (pie is bs.length)) (back is bs bs'))
  (hnd:oA (is.map some)=true:=by rfl) (hin:ltO bs.length (is.map some)=true:=by rfl) (hv:raw.all (AV.atp (sT is))=true:=by rfl):ab P f vals raw bs K:=by
 subst hv0 hb0;have hget:∀{k i:Nat},is[k]? =some i->(is.map some)[k]? =some (some i):=λ{k i} h=>by rw[YD,h];rfl
 refine .raw (Sem.ren is ?_ (λi hi=>?_) (by simpa using hv) (λi hi=>?_) (h.mono λr bs' hq=>⟨?_,hq⟩)) ?_
 .refine List.pairwise_iff_getElem.2 λi j hi hj hij e=>?_;have:=lM hnd (hget (ZA hi)) (hget (k:=j) (i:=is[i]) (by rw[ZA hj,e]))
  omega
 .obtain ⟨k,hk⟩:=YQ hi;exact qc hin (hget hk)
 .obtain ⟨k,hk⟩:=YQ hi;exact pZ hb (hget hk)
 .obtain ⟨q1,q2,q3⟩:=hQ r bs' hq;exact⟨Zr q1,q2,q3⟩
 .rintro r bs' ⟨r0,bs2,hq,rfl,rfl⟩;exact hK r0 bs2 hq
section
variable{α:Type}{f:α->AV}{z:Nat}
theorem oS(hp:Plain f z){bs:List Box}{b k i:Nat}{l:List α}{x:α}(hb:bs[b]? =some (aL f z k l))(hx:l[i]? =some x):aa bs b=some (cellsOf (l.map f)++List.replicate ((k-l.length)*z) AV.top):=by
 refine cr (eT hb) λe=>?_;have:=congrArg List.length e;rw[ZC,hp.len,YO] at this;have hi:=(ZB.1 hx).1;have:=hp.pos;have h2:0<l.length*z:=Nat.mul_pos (by omega) hp.pos
 omega
theorem mP(hp:Plain f z){k i off:Nat}{l:List α}{x:α}(hx:l[i]? =some x)(ho:off<z):(cellsOf (l.map f)++List.replicate ((k-l.length)*z) AV.top)[i*z+off]? =(f x).cells[off]?:=by
 obtain⟨hi,rfl⟩:=ZB.1 hx
 have hlt:i*z+off<(cellsOf (l.map f)).length:=by
  rw[hp.len];have:(i+1)*z<=l.length*z:=YB _ hi;rw[YK,XX] at this;omega
 rw[ZK hlt,jb (z:=z) (λy hy=>by obtain⟨x,_,rfl⟩:=Zk.1 hy;exact hp.sz x) i (by simpa using hi) off ho]
 simp
theorem ElN.cell(hp:Plain f z){e:List (Nat×AV)}{bs:List Box}{lo b k i off:Nat}{l:List α}{x:α}{c:AV}{K:AV->Prop}(hb:bs[b]? =some (aL f z k l))(hx:l[i]? =some x)(hc:(f x).cells[off]? =some c)(h:K c):ElN false 1 ⟨e,bs,lo⟩ (.elp b i z off) K:=by
 refine⟨?_⟩;have ho:off<z:=by rw[<-hp.sz x];exact(ZB.1 hc).1
 have hg:=(mP (k:=k) hp hx ho).trans hc;obtain⟨hlt,he⟩:=ZB.1 hg;simp only[St.rd,oS hp hb hx];rw[ZH hlt,he];simp only[ZP,bM,hp.de x c (ZE hc)];cases c<;>first|exact h|skip
theorem ElN.elem(hp:Plain f z){e:List (Nat×AV)}{bs:List Box}{lo b k i:Nat}{l:List α}{x:α}{K:AV->Prop}(hb:bs[b]? =some (aL f z k l))(hx:l[i]? =some x)(h:K (.agg (f x).cells)):ElN true z ⟨e,bs,lo⟩ (.elp b i z 0) K:=by
 refine⟨?_⟩;simp only[St.rd,oS hp hb hx,Yi];have hi:=(ZB.1 hx).1
 have hlen:i*z+z<=(cellsOf (l.map f)++List.replicate ((k-l.length)*z) AV.top).length:=by
  rw[ZC,hp.len];have:(i+1)*z<=l.length*z:=YB _ hi;rw[YK,XX] at this;omega
 simp only[bM];refine ae.2 ⟨by rw[Nat.ble_eq];simp only[ZF,Yf];omega,?_⟩
 have e2:(((cellsOf (l.map f)++List.replicate ((k-l.length)*z) AV.top).drop (i*z)).map AV.aF).take z=(f x).cells:=by
  apply Yt;intro j
  by_cases hj:j<z
  .rw [List.getElem?_take_of_lt hj,YD,List.getElem?_drop,mP hp hx hj]
   cases hc:(f x).cells[j]? with
   |none=>rfl
   |some c=>simp only[ZM];rw[hp.de x c (ZE hc)]
  .rw [ZR (by simp;omega),ZR (by rw[hp.sz];omega)]
 rw[e2];exact h
theorem EsN.elem(hp:Plain f z)(hk:∀x,aV (f x)=true){e:List (Nat×AV)}{bs:List Box}{lo b k i:Nat}{l:List α}{x y:α}{v:AV}{K:St->Prop}(hb:bs[b]? =some (aL f z k l))(hx:l[i]? =some x)(hv:v=f y)(h:K ⟨e,bs.set b (aL f z k (l.set i y)),lo⟩):EsN z ⟨e,bs,lo⟩ b i z 0 v K:=by
 subst hv;refine⟨?_⟩;simp only[lp,oS hp hb hx,Yi];have hi:=(ZB.1 hx).1;have hmul:(i+1)*z<=l.length*z:=YB _ hi;rw[YK,XX] at hmul;refine⟨⟨hk y,hp.sz y,hp.pos,by rw[ZC,hp.len];omega⟩,?_⟩
 have he:setAt (cellsOf (l.map f)++List.replicate ((k-l.length)*z) AV.top) (i*z) (f y).cells=cellsOf ((l.set i y).map f)++List.replicate ((k-(l.set i y).length)*z) AV.top:=by
  apply Yt;intro j;rw[nV];have hl1:(cellsOf (l.map f)++List.replicate ((k-l.length)*z) AV.top).length=l.length*z+(k-l.length)*z:=by rw[ZC,hp.len,Zf]
  have hl2:(cellsOf ((l.set i y).map f)).length=l.length*z:=by rw[hp.len,Zm]
  have hl3:(cellsOf (l.map f)).length=l.length*z:=hp.len l;have hset:(l.set i y)[i]? =some y:=by simp[hi]
  by_cases hj:j<l.length*z
  .have hq:j/z<l.length:=(Yy hp.pos).2 hj;have hr:j %z<z:=Xf _ hp.pos;have hjj:j/z*z+j %z=j:=by have:=XR j z;rw[Xa] at this;exact this
   by_cases hij:j/z=i
   .have hc1:i*z<=j/\j<i*z+(f y).cells.length/\j<(cellsOf (l.map f)++List.replicate ((k-l.length)*z) AV.top).length:=by
     rw[hp.sz,hl1];rw[hij] at hjj;omega
    rw[if_pos hc1];have:=mP (k:=k) (off:=j %z) hp hset hr;rw[<-hij,hjj] at this;rw[hij] at this;rw[this];congr 1;rw[hij] at hjj;omega
   .have hc1:¬(i*z<=j/\j<i*z+(f y).cells.length/\j<(cellsOf (l.map f)++List.replicate ((k-l.length)*z) AV.top).length):=by
     rintro⟨q1,q2,_⟩;rw[hp.sz] at q2;apply hij;refine Nat.div_eq_of_lt_le q1 ?_;rw[YK,XX];exact q2
    rw[if_neg hc1];have hx2:l[j/z]? =some l[j/z]:=ZA hq;have hx3:(l.set i y)[j/z]? =some l[j/z]:=by rw[Yg (λe=>hij e.symm)];exact hx2
    have q1:=mP (k:=k) hp hx2 hr;have q2:=mP (k:=k) hp hx3 hr;rw[hjj] at q1 q2;rw[q1,q2]
  .have hc1:¬(i*z<=j/\j<i*z+(f y).cells.length/\j<(cellsOf (l.map f)++List.replicate ((k-l.length)*z) AV.top).length):=by
    rintro⟨q1,q2,_⟩;rw[hp.sz] at q2;omega
   rw[if_neg hc1,ZZ (by omega),ZZ (by omega),hl2,hl3,Zm]
 rw[he];exact h
theorem Js.one(hp:Plain f z)(hk:∀x,aV (f x)=true/\(f x).flat=true){e:List (Nat×AV)}{bs:List Box}{lo:Nat}{x:α}{v:AV}{K:AV->St->Prop}(hv:v=f x)(h:K (.bsl bs.length 1 1) ⟨e,bs++[aL f z 1 [x]],lo⟩):Js z [v] ⟨e,bs,lo⟩ K:=by
 subst hv;refine⟨⟨hp.pos,λv hv=>?_⟩,?_⟩
 .rw [Zp] at hv;subst hv;exact⟨hk x,hp.sz x⟩
 .simpa [aL] using h
end
theorem JX{α:Type}{f:α->AV}{z:Nat}(hp:Plain f z){l:List α}{q j:Nat}{hj:j<(cellsOf (l.map f)++List.replicate q AV.top).length}:((cellsOf (l.map f)++List.replicate q AV.top)[j]).aF=(cellsOf (l.map f)++List.replicate q AV.top)[j]:=by
 rcases ZY.1 (Zc hj) with h|h
 .exact (hp.mem h).1
 .rw [(Ya.1 h).2];rfl
theorem sB:∀(a b:List AV),cellsOf (a++b)=cellsOf a++cellsOf b
 |[],b=>rfl
 |x::a,b=>by simp only[Ze,cellsOf,sB a b,Zg]
theorem aB.oT{α:Type}{f:α->AV}{z:Nat}(hp:Plain f z)(s:St)(b n:Nat){k:Nat}{l:List α}(hb:s.bs[b]? =some (aL f z k l))(hn:n<=l.length)(hk:0<k):aB s ⟨s.env,s.bs.set b (aL f z k (l.take n)),s.lo⟩:=λE G a w hs=>by
 have hz:=hp.pos;have hl1:(cellsOf (l.map f)).length=l.length*z:=hp.len l;have hl2:(cellsOf ((l.take n).map f)).length=n*z:=by rw[hp.len,Zn,XS hn]
 have hne:cellsOf (l.map f)++List.replicate ((k-l.length)*z) .top≠[]:=λe=>by
  have:=congrArg List.length e;rw[ZC,hl1,Zf,<-YK,YO] at this;have h2:0<(l.length+(k-l.length))*z:=Nat.mul_pos (by omega) hz
  omega
 have hbc:aa s.bs b=some (cellsOf (l.map f)++List.replicate ((k-l.length)*z) .top):=cr (eT hb) hne;obtain⟨vs,T,hc,hvl⟩:=hs.box b _ hbc;have hlen':(n+(k-n))*z<=(l.length+(k-l.length))*z:=YB _ (by omega)
 rw[YK,YK] at hlen';have hlt:(l.take n).length=n:=by rw[Zn,XS hn]
 refine⟨G,hs.Is (w':=w) (vs':=vs) (T:=T) hbc hc ?_ ?_ rfl rfl rfl (ZG _) (λ_ _ _=>rfl) λj hj v hv=>?_⟩
 .rw [ZC,hl2,Zf,hlt];rw[ZC,hl1,Zf] at hvl;omega
 .intro e;have:=congrArg List.length e;rw[ZC,hl2,Zf,hlt,<-YK,YO] at this;have h2:0<(n+(k-n))*z:=Nat.mul_pos (by omega) hz
  omega
 .rw [ZC,hl2,Zf,hlt] at hj;have hj2:j<(cellsOf (l.map f)++List.replicate ((k-l.length)*z) AV.top).length:=by rw[ZC,hl1,Zf];omega
  have hat:s.at (.bx b j)=some ((cellsOf (l.map f)++List.replicate ((k-l.length)*z) AV.top)[j]):=by
   simp only[St.at,hbc,YE];exact ZA hj2
  have hvv:al G.σ a w (.bx b j)=v:=by
   have hjs:j<vs.size:=by omega
   simp only[al,World.cell?,hc];rw[Zi hjs] at hv;cases hv;simp[hjs]
  have h1:=hs.one _ _ _ hat;have h2:=hs.val _ _ hat;rw[hvv] at h1 h2;refine⟨h1,?_⟩
  by_cases hjn:j<n*z
  .have e:(cellsOf ((l.take n).map f)++List.replicate ((k-(l.take n).length)*z) AV.top)[j]'(by rw[ZC,hl2,Zf,hlt];exact hj)=(cellsOf (l.map f)++List.replicate ((k-l.length)*z) AV.top)[j]:=by
    rw[YF (by omega),YF (by have:=YB z hn;omega)]
    have:cellsOf (l.map f)=cellsOf ((l.take n).map f)++cellsOf ((l.drop n).map f):=by rw[<-sB,<-Zt,List.take_append_drop]
    simp only[this];rw[YF (by omega)]
   rw[e];rw[JX hp] at h2;exact h2
  .have e:(cellsOf ((l.take n).map f)++List.replicate ((k-(l.take n).length)*z) AV.top)[j]'(by rw[ZC,hl2,Zf,hlt];exact hj)=.top:=by
    rw[YX (by omega),XC]
   rw[e];exact .flat (.top v)
theorem ah.oT{α:Type}{f:α->AV}{z:Nat}(hp:Plain f z){s t:St}(b n:Nat){k:Nat}{l:List α}(hb:s.bs[b]? =some (aL f z k l))(hn:n<=l.length)(hk:0<k)(h:ah ⟨s.env,s.bs.set b (aL f z k (l.take n)),s.lo⟩ t):ah s t:=⟨(aB.oT hp s b n hb hn hk).trans h.out⟩
theorem ah.bY{α:Type}{f:α->AV}{z:Nat}(hp:Plain f z){s t:St}(c i:Nat){cs:List AV}{b m k k0:Nat}{l:List α}(h0:s.bs[c]? =some (.cells cs))(hi:cs[i]? =some (.bsl b m k))(hb:s.bs[b]? =some (aL f z k0 l))(hm:m<=l.length)(h:ah ⟨s.env,(s.bs.set b .dead).set c (.cells (cs.set i (.sl .no ((l.take m).map f)))),s.lo⟩ t):ah s t:=⟨(aB.bY hp s c i h0 hi hb hm).trans h.out⟩
theorem fE.done{b:Nat}{n:Int}{s:St}{rs:List cm}{Q:AV->List Box->Prop}{l:List (Int×AV×Nat)}{c:Nat}(hb:s.bs[b]? =some (.mq l c))(h:oU ⟨s.env,s.bs.set b (.mq (qS l n) c),s.lo⟩ rs λr b=>fv (o5 r) λx=>Q x b):fE b n s rs Q:=⟨⟨s,aB.refl s,l,c,hb,qD (λr b q=>.inr (by rwa [xK] at q)) h⟩⟩
theorem fE.wk{b:Nat}{n:Int}{s s':St}{rs:List cm}{Q:AV->List Box->Prop}(hw:aB s s')(h:fE b n s' rs Q):fE b n s rs Q:=by
 obtain⟨⟨s2,q1,q2⟩⟩:=h;exact⟨⟨s2,hw.trans q1,q2⟩⟩
theorem fE.lay{b:Nat}{n:Int}{s:St}{rs:List cm}{Q:AV->List Box->Prop}(is:List (Option Nat))(hb:okO (inO is) s.bs is=true)(h:(⟨rnE (gZ is) s.env,iK (gZ is) s.bs is,s.lo⟩:St).fo true λs'=>fE b n s' rs Q)(h1:oA is=true:=by rfl)(h2:AA s.lo 0 is=true:=by rfl)(h3:ltO s.bs.length is=true:=by rfl)(h4:Nat.ble s.lo is.length=true:=by rfl)(he:atE (inO is) s.env=true:=by rfl):fE b n s rs Q:=by
 rw[St.c9] at h;exact fE.wk (aB.lay s is h1 h2 h3 h4 he hb) h
def qB(l:List (Int×Nat)):List (Int×AV×Nat):=l.map λe=>(e.1,.bool true,e.2)
theorem yH:∀(l:List (Int×Nat)) (n:Int),Cg (qB l) n=if n∈l.map (·.1) then some (.bool true) else none
 |[],n=>rfl
 |(k,c)::l,n=>by
  have:=yH l n;simp only[qB] at this;simp only[qB,ZP,Cg,ZI]
  by_cases h:n=k
  .rw [if_pos h,if_pos (.inl h)]
  .rw [if_neg h,this]
   by_cases h2:n∈l.map (·.1)
   .rw [if_pos h2,if_pos (.inr h2)]
   .rw [if_neg h2,if_neg (λe=>e.elim h h2)]
theorem pR:∀(l:List (Int×Nat)) (n:Int) (c:Nat),n∉l.map (·.1)->oY (qB l) n (.bool true) c=qB (l++[(n,c)])
 |[],n,c,_=>rfl
 |(k,b)::l,n,c,h=>by
  simp only[ZP,ZI,not_or] at h;have:=pR l n c h.2;simp only[qB] at this;simp only[qB,ZP,Ze,oY,if_neg h.1,this]
theorem sZ:∀(l:List (Int×Nat)) (n:Int) (c:Nat),n∉l.map (·.1)->qS (qB (l++[(n,c)])) n=qB l
 |[],n,c,_=>by simp[qB,qS]
 |(k,b)::l,n,c,h=>by
  simp only[ZP,ZI,not_or] at h;have:=sZ l n c h.2;simp only[qB] at this;simp only[qB,ZP,Ze,qS,if_neg h.1,this]
theorem MqN.yes{l:List (Int×Nat)}{n:Int}{ok:Bool}{z:AV}{K:AV->Prop}(hn:n∈l.map (·.1))(h:K (okR ok (.bool true) true)):MqN (qB l) n ok z K:=⟨by rw[yH,if_pos hn];exact⟨rfl,h⟩⟩
theorem MqN.no{l:List (Int×Nat)}{n:Int}{ok:Bool}{z:AV}{K:AV->Prop}(hn:n∉l.map (·.1))(h:K (okR ok z false)):MqN (qB l) n ok z K:=⟨by rw[yH,if_neg hn];exact h⟩
theorem aB.JO(s:St)(b:Nat)(hb:s.bs[b]? =some (.mp [])):aB s ⟨s.env,s.bs.set b (.mq [] 0),s.lo⟩:=λE G a w h=>by
 have hlt:=(ZB.1 hb).1;refine⟨G,h.qC (λc=>?_) (λc=>?_) (by simp)⟩
 .simp only[aa,Zq]
  by_cases e:b=c
  .subst e;simp only[if_true,hlt,hb];rfl
  .rw [if_neg e]
 .simp only[ag,Zq]
  by_cases e:b=c
  .subst e;simp only[if_true,hlt,hb];rfl
  .rw [if_neg e]
theorem ah.JO{s t:St}(b:Nat)(hb:s.bs[b]? =some (.mp []))(h:ah ⟨s.env,s.bs.set b (.mq [] 0),s.lo⟩ t):ah s t:=⟨(aB.JO s b hb).trans h.out⟩
theorem iS{b:ByteArray}{n:Int}{K:Int->Prop}{y:UInt8}(k:K y.toNat)(h:b[n.toNat]? =some y:=by assumption)(h0:0<=n:=by omega):Ei b n K:=⟨y,⟨h0,h⟩,k⟩
theorem gIs{b:ByteArray}{n:Int}{K:Int->Prop}(h:Ei b n K):Ei b n K:=h
theorem oko{p:Prop}(h:p:=by repeat' (first|exact rfl|exact ta mW _ _|exact ta ff _ _|exact ta bp _ _|exact ta ef _ _|refine GJ ?_ ?_|refine okO_none ?_|refine Fz ?_ ?_)):p:=h
theorem ab.ate{P:Program}{f:FuncId}{vals raw vals0:List AV}{bs bs0:List Box}{v:AV}{b:List Box}{K:AV->List Box->Prop}(is:List Nat)(h:Sem P f vals0 bs0 λr bs'=>r=v/\bs'=b)(hv0:raw.map (AV.rn (rho is))=vals0)(hb0:cut is bs is=bs0)(hK:K (v.rn (pie is bs.length)) (back is bs b))
  (hQ1:Nat.ble is.length b.length=true:=by rfl) (hQ2:v.atp (λk=>decide (k<b.length))=true:=by rfl) (hQ3:wJ (λk=>decide (k<b.length)) b=true:=by exact oko) (hb:okO (sT is) bs (is.map some)=true:=by exact oko)
  (hnd:oA (is.map some)=true:=by rfl) (hin:ltO bs.length (is.map some)=true:=by rfl) (hv:raw.all (AV.atp (sT is))=true:=by rfl):ab P f vals raw bs K:=by
 refine ab.at is h hv0 hb0 ?_ hb ?_ hnd hin hv
 .rintro r bs' ⟨rfl,rfl⟩;exact⟨hQ1,hQ2,hQ3⟩
 .rintro r bs' ⟨rfl,rfl⟩;exact hK
end Go.AM
namespace Go.AM
open Go.CK Go.RowKit
section
variable{P:Program}
theorem Od{s:St}{o:Oper}{t:TypeId}{m k v:Operand}(ho:o.op=.insert t m k v)(hdn:o.dst=none){rm rk rv:Opd}(hm:opd m=some rm)(hk:opd k=some rk)(hv:opd v=some rv){kt et:TypeId}{ks:List FK}(ht:P.underlying t=some (.map kt et))(hkt:xQ P kt=some ks){K:St->Prop}
  (h:Oh ks s (s.ev rm) (s.ev rk) (s.ev rv) K):OpS P o s K:=by
 have hd:∀c,o.op≠.defer c:=λc e=>by rw[ho] at e;cases e
 obtain⟨b,cs,l,x,hme,hke,hb,hx,hxc,hok,hl,hf,hvo,hK⟩:=h;refine OpS.skip _ hd hdn hK λE G a w hs=>?_;have hmv:=hs.ev hm;rw[hme] at hmv;have hkv:=hs.ev hk;rw[hke] at hkv;have hkv:=nZ hok.1 hkv;have hvv:=nZ hvo (hs.ev hv);obtain⟨h1,_,_⟩:=hs.ui hb hx;refine⟨G,_,?_,hs.yu hb hx hxc rfl rfl⟩;have e1:=hmv.gh.1;obtain⟨q,h2,h3⟩:=Mi (P:=P) hkt hok w hl hf
 cases q with
 |some q=>cases h3
 |none=>
  have he:(skE 0 l).toArray.push {key:=.agg (cs.map KR).toArray,val:=vOf (s.ev rv),born:=l.length}=(skE 0 (l++[(cs,s.ev rv)])).toArray:=by
   rw[Nl,YG];simp
  simp only[vOf] at hkv;unfold execOp;simp only[ho,Instr.mapUpdate,e1,hkv,hvv,Xi,run_underlying ht,Xh,bl h1 rfl,L8 hkt hok,h2,cn h1,he];rfl
end
section
variable{P:Program}{nt:Nat}{fl:Bool}{ops:Array Oper}{E:Entry}{rd:Option Nat}{n:Nat}
def OpI(P:Program)(nt:Nat)(ops:Array Oper)(i:Nat)(s:St)(K:St->Prop):Prop:=
 ∀(E:Entry) (G:Gh) (a:Act) (w:World) (rd:Option Nat) (n:Nat) (next:Act->World->Prop) (Q:Exit->Act->World->Prop),RS E G s a w->E.nt=nt->
  (∀s' G' a' w',K s'->RS E G' s' a' w'->a'.defers=a.defers->next a' w')->wpOpIn (F0 rd) n P ops Q i next a w
theorem OpI.run{o:Oper}{r:ROp}(hc:OpC P nt ops o r){i:Nat}(hi:ops[i]? =some o){dr:Bool}{s:St}{K:St->Prop}(h:r.run P dr s K):OpI P nt ops i s K:=λE G a w rd n next Q hs he hn=>ft hc hi h hs he hn
theorem OpI.sem{o:Oper}{i:Nat}(hi:ops[i]? =some o)(hw:∀y,Region.wanted o y=true){s:St}{K:St->Prop}(hd:∀d,o.dst=some d->d<nt)(h:OpS P o s K):OpI P nt ops i s K:=λE G a w rd n next Q hs he hn=>by
 unfold wpOpIn;rw[hi];simp only;rw[if_pos (hw _)];exact h E G a w rd n next Q hs (λd e=>by rw[he];exact hd d e) hn
theorem OP{I:(Nat->Bool)->St->Prop}{K:St->Prop}(hedge:i7 ops.toList 0=true)
  (step:∀(L:Nat->Bool) (s:St) (i:Nat) (o:Oper),ops[i]? =some o->L i=false->(∀e∈o.after,Region.binds .any e=true->L e.on=true)->I L s->OpI P nt ops i s (I λj=>if j=i then true else L j))
  (fin:∀(L:Nat->Bool) (s:St),(∀i,i<ops.size->L i=true)->I L s->K s) {Q:Exit->Act->World->Prop} (hnt:E.nt=nt):
  ∀(fuel:Nat) (listed:Array Bool) (s:St) (G:Gh) (a:Act) (w:World),listed.size=ops.size->(ao ops listed).length<=fuel->I (λi=>listed.getD i false) s->RS E G s a w->
   (∀s' G' a' w',K s'->RS E G' s' a' w'->Q .normal a' w')->wpAnyIn (F0 rd) n P .any ops Q fuel listed a w:=by
 have hready:∀(listed:Array Bool) i,listed.size=ops.size->i∈Region.ready .any ops listed->i<ops.size/\listed.getD i true=false/\∃o,ops[i]? =some o/\∀e∈o.after,Region.binds .any e=true->listed.getD e.on false=true:=λlisted i hl h=>by
  simp only[Region.ready,Zo,Zd,ZD,Zb] at h;obtain⟨h1,h2,h3⟩:=h;refine⟨h1,h2,ops[i],Zi h1,λe he hb=>?_⟩;rw[Zi h1] at h3;simp only[ZM,YR,YN,YL,Zb] at h3;rcases h3 e he with h4|h4
  .rw [hb] at h4;cases h4
  .exact h4
 have hall:∀(listed:Array Bool),listed.size=ops.size->ao ops listed=[]->∀i,i<ops.size->listed.getD i false=true:=λlisted hl hn i hi=>by
  cases hq:listed.getD i false with
  |true=>rfl
  |false=>
   exfalso
   have:i∈ao ops listed:=by
    simp only[ao,Zo,Zd,Zb];refine⟨hi,?_⟩;have hsz:i<listed.size:=by omega
    simpa[hsz] using hq
   rw[hn] at this;cases this
 intro fuel
 induction fuel with
 |zero=>
  intro listed s G a w hl hlen hI hs hQ;have hnil:ao ops listed=[]:=YW.1 (by omega)
  refine⟨?_,hQ s G a w (fin _ s (hall listed hl hnil) hI) hs⟩;rcases hq:Region.ready .any ops listed with _|⟨i,_⟩
  .rfl
  .obtain ⟨h1,h2,_⟩:=hready listed i hl (by rw[hq];simp)
   have:i∈ao ops listed:=by simp only[ao,Zo,Zd];exact⟨h1,by simp[h2]⟩
   rw[hnil] at this;cases this
 |succ fuel ih=>
  intro listed s G a w hl hlen hI hs hQ;refine⟨λhr=>?_,λi hi'=>?_⟩
  .have hnil:ao ops listed=[]:=by
    rcases hq:ao ops listed with _|⟨i,l⟩
    .rfl
    .exfalso;have hsort:(ao ops listed).Pairwise (·<·):=List.pairwise_lt_range.filter _;rw[hq] at hsort;have hfirst:=(Zx.1 hsort).1;have hmem:i∈ao ops listed:=by rw[hq];simp
     simp only[ao,Zo,Zd,Zb] at hmem
     have hin:i∈Region.ready .any ops listed:=by
      simp only[Region.ready,Zo,Zd,ZD,Zb];refine⟨hmem.1,hmem.2,?_⟩;rw[Zi hmem.1];simp only[ZM,YR,YN,YL,Zb];intro e he
      cases hb:Region.binds .any e with
      |false=>exact .inl rfl
      |true=>
       have hlt:=eD hedge i ops[i] (by simp[hmem.1]) e he hb
       rw[YG] at hlt;refine .inr ?_
       cases hlk:listed.getD e.on false with
       |true=>rfl
       |false=>
        exfalso
        have hlk2:listed.getD e.on true=false:=by
         have hsz:e.on<listed.size:=by rw[hl];omega
         simpa[hsz] using hlk
        have hin2:e.on∈ao ops listed:=by
         simp only[ao,Zo,Zd,Zb];exact⟨by omega,hlk2⟩
        rw[hq] at hin2;rcases ZI.1 hin2 with h5|h5
        .omega
        .have:=hfirst _ h5;omega
     rw[hr] at hin;cases hin
   exact hQ s G a w (fin _ s (hall listed hl hnil) hI) hs
  .obtain ⟨h1,h2,o,ho,hpre⟩:=hready listed i hl hi';have hsz:i<listed.size:=by omega
   have h2f:listed.getD i false=false:=by simpa[hsz] using h2
   refine step _ s i o ho h2f hpre hI E G a w rd n _ _ hs hnt λs' G' a' w' hs1 hs' _=>?_
   have hget:(λj=>if j=i then true else listed.getD j false)=λj=>(listed.setIfInBounds i true).getD j false:=funext λj=>by
    by_cases hji:j=i
    .subst hji;simp[hsz]
    .rw [if_neg hji];simp only[ZT];rw[ZW (Ne.symm hji)]
   rw[hget] at hs1;refine ih _ _ G' a' w' (by simpa using hl) ?_ hs1 hs' hQ
   have hmem:i∈List.range ops.size:=by simpa using h1
   obtain⟨pre,post,e1,e2,e3⟩:=eB (λk=>!listed.getD k true) i (List.range ops.size) hmem (by simp[h2]) XZ
   have hset:ao ops (listed.setIfInBounds i true)=pre++post:=by
    rw[<-e3];unfold ao;refine Yr λk hk=>?_
    by_cases hki:k=i
    .subst hki;simp[hsz]
    .have hne:(k==i)=false:=by simpa using hki
     simp[ZW (Ne.symm hki),hne]
   rw[hset];have:(ao ops listed).length=(pre++i::post).length:=by rw[<-e1];rfl
   simp at this|-;omega
theorem WP.Oa(hm:P.follows .mixedOrders=true){id:Nat}(I:(Nat->Bool)->St->Prop)(hedge:i7 ops.toList 0=true)
  (step:∀(L:Nat->Bool) (s:St) (i:Nat) (o:Oper),ops[i]? =some o->L i=false->(∀e∈o.after,Region.binds .any e=true->L e.on=true)->I L s->OpI P nt ops i s (I λj=>if j=i then true else L j))
  {s:St} (h0:I (λ_=>false) s) {Q:AX->St->Prop} (fin:∀(L:Nat->Bool) (s:St),(∀i,i<ops.size->L i=true)->I L s->Q .normal s):WP P nt fl (.region id ops true) s Q:=λE G a w rd n hs he=>by
 refine wpIn_region_any hm ?_;refine OP (K:=Q .normal) hedge step fin he.1 ops.size _ s G a _ (by simp) (YM (XH _ _) (by simp)) ?_ hs.drew λs' G' a' w' h4 h5=>⟨.normal,s',G',rfl,h4,h5⟩
 have:(λi=>(Array.replicate ops.size false).getD i false)=λ_=>false:=funext λi=>by
  simp only[ZT,XP];split<;>rfl
 rw[this];exact h0
end
theorem Sem.ofW{P:Program}{f:FuncId}{fn:Func}{c:Code}{rs:List cm}(hf:P.funcs[f]? =some fn)(hb:fn.body=some c)(hr:lX P fn.results.toList=some rs)
  {vals:List AV} {bs:List Box} {Q:AV->List Box->Prop} (hn:vals.length<=fn.ntmps) (h:WP P fn.ntmps true c ⟨params 0 vals,bs,bs.length⟩ λx s=>∃s',aB s s'/\Ir rs Q x s'):Sem P f vals bs Q:=by
 intro E G a0 w args lo hpre hl hv;refine(callsIn_wide (n:=0)).1 (callsIn_of_wp_marks (F:=F0 none) hf hb trivial ?_);have h1:=hpre.enter hl hv hn;refine wpIn_mono (WP.rX h (cC G bs w fn.ntmps) _ _ w none 0 h1 ⟨rfl,λ_=>rfl⟩) ?_;rintro e a' w' ⟨x,s',G',rfl,q,hs'⟩
 have fin:oU s' rs Q->LeavesInM (F0 none) 0 P fn a'.tmps (λe w'=>∃v r bs' G',e=.returned v/\Q r bs'/\RS (cC G bs w 1) G' ⟨[(0,r)],bs',bs.length⟩ ⟨#[v],[]⟩ w') a'.defers .returning w':=λq=>by
  refine hs'.leaves rfl _ rfl λw2 h2=>?_;obtain⟨v,r,bs',G2,h3,h4,h5⟩:=h2.leave h2.lo.symm hr q;have hlo:s'.lo=bs.length:=hs'.lo;rw[hlo] at h5;exact⟨v,h3,v,r,bs',G2,rfl,h4,h5⟩
 cases x with
 |normal=>exact fin q
 |ret=>exact fin q
 |exit id=>exact q.elim
end Go.AM
namespace Go.CK
theorem IK{α:Type}{p:α->Bool}{l:List α}{j:Nat}{x:α}(h1:∀i x,i<j->l[i]? =some x->p x=false)(hx:l[j]? =some x)(h:p x=false):∀i x,i<j+1->l[i]? =some x->p x=false:=λi y hi hy=>by
 by_cases e:i=j
 .subst e;rw[hx] at hy;cases hy;exact h
 .exact h1 i y (by omega) hy
theorem IJ{α:Type}{p:α->Bool}{l:List α}:∀i x,i<0->l[i]? =some x->p x=false:=λi _ hi=>by omega
theorem KL{α:Type}{p:α->Bool}{l:List α}(h1:∀i x,i<l.length->l[i]? =some x->p x=false):l.any p=false:=by
 rw[List.any_eq_false];intro x hx;obtain⟨i,hi,rfl⟩:=Yx hx;rw[h1 i _ hi (ZA hi)];decide
theorem KM{α:Type}{p:α->Bool}{l:List α}{j:Nat}{x:α}(hx:l[j]? =some x)(h:p x=true):l.any p=true:=List.any_eq_true.2 ⟨x,ZE hx,h⟩
def e8(x y:Int):Int:=if x<y then-1 else if y<x then 1 else 0
def qq(x y:ByteArray):Int:=if Op.bytesLess x.toList y.toList=true then-1 else if x=y then 0 else 1
def orI(a b:Int):Int:=if a=0 then b else a
theorem JA(b:Int):orI 0 b=b:=rfl
theorem GB{a:Int}(h:¬a=0)(b:Int):orI a b=a:=if_neg h
theorem xW(x:Int):e8 x x=0:=by simp[e8]
theorem fz:∀l:List UInt8,Op.bytesLess l l=false
 |[]=>rfl
 |x::l=>by simp[Op.bytesLess,fz l]
theorem Fi(x:ByteArray):qq x x=0:=by simp[qq,fz]
theorem KB{x y:Int}:e8 x y=0↔x=y:=by unfold e8;split<;>rename_i h<;>first|(split<;>omega)|omega
theorem PY{x y:ByteArray}:qq x y=0↔x=y:=by
 unfold qq;split
 .rename_i h;refine⟨λh=>absurd h (by decide),λe=>?_⟩
  subst e;rw[fz] at h;cases h
 .split
  .simp [*]
  .simp [*]
def iP(k:Int):Int:=if k=1 then 0 else if k=0 then 1 else if k=2 then 2 else 3
mutual
def Tm.cmp:Tm->Tm->Int
 |.mk k n s l,b=>
  orI (e8 (iP k) (iP b.kind)) (if iP k=0\/iP k=1 then e8 n b.num else if iP k=2 then orI (e8 l.length b.args.length) (orI (qq s b.name) (Tm.nD l b.args)) else orI (e8 k b.kind) (orI (e8 n b.num) (qq s b.name)))
def Tm.nD:List Tm->List Tm->Int
 |[],m=>e8 0 m.length
 |x::l,m=>match m with
  |[]=>1
  |y::m=>orI (Tm.cmp x y) (Tm.nD l m)
end
theorem Tm.cmp_eq(a b:Tm):a.cmp b=orI (e8 (iP a.kind) (iP b.kind)) (if iP a.kind=0\/iP a.kind=1 then e8 a.num b.num else if iP a.kind=2 then orI (e8 a.args.length b.args.length) (orI (qq a.name b.name) (Tm.nD a.args b.args)) else orI (e8 a.kind b.kind) (orI (e8 a.num b.num) (qq a.name b.name))):=by
 obtain⟨k,n,s,l⟩:=a;rw[Tm.cmp];rfl
theorem oi{l m:List Tm}{j:Nat}{x y:Tm}(hx:l[j]? =some x)(hy:m[j]? =some y):Tm.nD (l.drop j) (m.drop j)=orI (x.cmp y) (Tm.nD (l.drop (j+1)) (m.drop (j+1))):=by
 obtain⟨h1,rfl⟩:=ZB.1 hx;obtain⟨h2,rfl⟩:=ZB.1 hy;rw[ZH h1,ZH h2,Tm.nD]
theorem vc{l m:List Tm}{j:Nat}(h1:j<=l.length)(h2:j<=m.length)(h:j=l.length\/j=m.length):Tm.nD (l.drop j) (m.drop j)=e8 l.length m.length:=by
 rcases Zs j l.length with h3|h3
 .have:j=m.length:=by omega
  subst this;rw[ZH h3,Zj,Tm.nD,e8,if_neg (by omega),if_pos (by omega)]
 .have:j=l.length:=by omega
  subst this;rw[Zj,Tm.nD,Yf];unfold e8;split<;>split<;>first|rfl|omega|(split<;>first|rfl|omega)
theorem Tm.HD(t:Tm):t.cmp t=0:=by
 induction t using Tm.bD with
 |h k n s l ih=>
  have hl:∀r:List Tm,(∀t∈r,t.cmp t=0)->Tm.nD r r=0:=λr=>by
   induction r with
   |nil=>intro _;rfl
   |cons t r ihr=>intro h;rw[Tm.nD,h t (by simp),JA];exact ihr λx hx=>h x (by simp[hx])
  rw[Tm.cmp];simp only[Tm.kind,Tm.num,Tm.name,Tm.args,xW,Fi,JA,hl l ih];split<;>first|rfl|(split<;>rfl)
mutual
def Tm.wgh:Tm->Int->Int->Int
 |.mk _ _ s l,left,deep=>if deep-1=0\/left-1-(s.size:Int).tdiv 8<l.length then-1 else Tm.Mh l (left-1-(s.size:Int).tdiv 8) (deep-1)
def Tm.Mh:List Tm->Int->Int->Int
 |[],left,_=>left
 |t::r,left,deep=>if left<0 then left else Tm.Mh r (Tm.wgh t left deep) deep
end
def LR(l:List Tm)(left deep:Int):Int:=if deep=0\/left<l.length then-1 else Tm.Mh l left deep
theorem Tm.N6(t:Tm)(left deep:Int):t.wgh left deep=LR t.args (left-1-(t.name.size:Int).tdiv 8) (deep-1):=by
 obtain⟨k,n,s,l⟩:=t;rw[Tm.wgh];rfl
theorem NG(n:Nat):(n:Int).tdiv 8=((n/8:Nat):Int):=by rw[Int.tdiv_eq_ediv_of_nonneg (by omega)];rfl
theorem On{l:List Tm}{j:Nat}{x:Tm}(hx:l[j]? =some x){left:Int}(h:0<=left)(deep:Int):Tm.Mh (l.drop j) left deep=Tm.Mh (l.drop (j+1)) (x.wgh left deep) deep:=by
 obtain⟨h1,rfl⟩:=ZB.1 hx;rw[ZH h1,Tm.Mh,if_neg (by omega)]
theorem Nj(l:List Tm){left:Int}(h:left<0)(deep:Int):Tm.Mh l left deep=left:=by
 cases l with
 |nil=>rfl
 |cons t r=>rw[Tm.Mh,if_pos h]
theorem NU(t:Tm):∀left deep:Int,-1<=LR t.args left deep/\LR t.args left deep<=max left (-1):=by
 induction t using Tm.bD with
 |h k n s l ih=>
  have hl:∀r:List Tm,(∀t∈r,t∈l)->∀left deep:Int,-1<=left->-1<=Tm.Mh r left deep/\Tm.Mh r left deep<=left:=λr=>by
   induction r with
   |nil=>intro _ left deep h;simp only[Tm.Mh];omega
   |cons t r ihr=>
    intro hm left deep h;have h1:=ih t (hm t (by simp)) (left-1-(t.name.size:Int).tdiv 8) (deep-1)
    rw[<-Tm.N6,NG] at h1;simp only[Tm.Mh];split
    .omega
    .have h2:=ihr (λx hx=>hm x (by simp[hx])) (t.wgh left deep) deep h1.1
     omega
  intro left deep;show-1<=LR l left deep/\LR l left deep<=max left (-1)
  by_cases hc:deep=0\/left<l.length
  .rw [LR,if_pos hc];omega
  .rw [LR,if_neg hc];have:=hl l (λ_ h=>h) left deep (by omega)
   omega
theorem OT(t:Tm)(left deep:Int)(h:-1<=left):-1<=t.wgh left deep/\t.wgh left deep<=left:=by
 have:=NU t (left-1-(t.name.size:Int).tdiv 8) (deep-1);rw[<-Tm.N6,NG] at this;omega
end Go.CK
