/-
  Texts of this aX joined (wip/gen/bundle.py),those declarations only that are needed:AmLy AmSk Cmp. By an AI agent.
-/
import Derived.Test.YtpihbplamelcnaaGreatBas
set_option linter.unusedSimpArgs false
set_option linter.unusedVariables false
namespace Go.AM
open Go.CK Go.RowKit
def ixO:List (Option Nat)->Nat->Nat->Option Nat
 |[],_,_=>none
 |none::l,b,k=>ixO l b (k+1)
 |some i::l,b,k=>match Nat.beq i b with
  |true=>some k
  |false=>ixO l b (k+1)
theorem yy:∀{l:List (Option Nat)} {b k q:Nat},ixO l b k=some q->k<=q/\l[q-k]? =some (some b)
 |none::l,b,k,q,h=>by
  obtain⟨h1,h2⟩:=yy (l:=l) (k:=k+1) h;refine⟨by omega,?_⟩
  rw[show q-k=(q-(k+1))+1 by omega]
  simpa using h2
 |some i::l,b,k,q,h=>by
  simp only[ixO] at h;split at h
  .rename_i hb;cases h;have:=zO hb;subst this;simp
  .obtain ⟨h1,h2⟩:=yy h;refine⟨by omega,?_⟩
   rw[show q-k=(q-(k+1))+1 by omega]
   simpa using h2
def inO(l:List (Option Nat))(b:Nat):Bool:=match ixO l b 0 with
 |some _=>true
 |none=>false
def jW(l:List (Option Nat))(b:Nat):Nat:=match ixO l b 0 with
 |some k=>k
 |none=>0
def kJ(f:Nat->Nat)(bs:List Box):List (Option Nat)->List Box
 |[]=>[]
 |none::l=>.dead::kJ f bs l
 |some i::l=>rnB f (kY bs i)::kJ f bs l
theorem AA(f:Nat->Nat)(bs:List Box):∀(l:List (Option Nat)) (k:Nat),(kJ f bs l)[k]? =(l[k]?).map λo=>match o with|some i=>rnB f (kY bs i)|none=>.dead
 |[],k=>by simp[kJ]
 |none::l,0=>by simp[kJ]
 |some i::l,0=>by simp[kJ]
 |none::l,k+1=>by simp[kJ,AA f bs l k]
 |some i::l,k+1=>by simp[kJ,AA f bs l k]
theorem pF(f:Nat->Nat)(bs:List Box):∀l:List (Option Nat),(kJ f bs l).length=l.length
 |[]=>rfl
 |none::l=>by simp[kJ,pF f bs l]
 |some i::l=>by simp[kJ,pF f bs l]
def rnE(f:Nat->Nat):List (Nat×AV)->List (Nat×AV)
 |[]=>[]
 |(t,x)::e=>(t,x.rn f)::rnE f e
theorem IM(f:Nat->Nat):∀(e:List (Nat×AV)) (t:Nat),au (rnE f e) t=(au e t).map (AV.rn f)
 |[],t=>rfl
 |(k,x)::e,t=>by
  simp only[rnE,au]
  cases Nat.beq k t with
  |true=>rfl
  |false=>exact IM f e t
def atE(p:Nat->Bool):List (Nat×AV)->Bool
 |[]=>true
 |(_,x)::e=>x.atp p&&atE p e
theorem Jv{p:Nat->Bool}:∀{e:List (Nat×AV)} {t:Nat} {x:AV},atE p e=true->au e t=some x->x.atp p=true
 |(k,y)::e,t,x,h,hg=>by
  simp only[atE,zD] at h;simp only[au] at hg;split at hg
  .cases hg;exact h.1
  .exact Jv h.2 hg
 |[],_,_,_,hg=>by cases hg
def qE:List (Option Nat)->Bool
 |[]=>true
 |none::l=>qE l
 |some i::l=>(match ixO l i 0 with|some _=>false|none=>true)&&qE l
def FF(n:Nat):Nat->List (Option Nat)->Bool
 |_,[]=>true
 |b,none::l=>FF n (b+1) l
 |b,some i::l=>(Nat.ble n b||Nat.beq i b)&&FF n (b+1) l
def ltO(N:Nat):List (Option Nat)->Bool
 |[]=>true
 |none::l=>ltO N l
 |some i::l=>Nat.blt i N&&ltO N l
theorem yz:∀{l:List (Option Nat)} {b k:Nat},ixO l b k=none->some b∉l
 |none::l,b,k,h,hm=>by
  rcases zI.1 hm with hm|hm
  .cases hm
  .exact yz (l:=l) h hm
 |some i::l,b,k,h,hm=>by
  simp only[ixO] at h;split at h
  .cases h
  .rename_i hb;rcases zI.1 hm with hm|hm
   .cases hm;simp at hb
   .exact yz h hm
 |[],_,_,_,hm=>by cases hm
theorem nL:∀{l:List (Option Nat)},qE l=true->∀{k k' i:Nat},l[k]? =some (some i)->l[k']? =some (some i)->k=k'
 |none::l,h,0,k',i,h1,h2=>by simp at h1
 |none::l,h,k+1,0,i,h1,h2=>by simp at h2
 |none::l,h,k+1,k'+1,i,h1,h2=>by
  have:=nL (l:=l) h (k:=k) (k':=k') (i:=i) (by simpa using h1) (by simpa using h2)
  rw[this]
 |some j::l,h,k,k',i,h1,h2=>by
  simp only[qE,zD] at h
  have hno:some j∉l:=by
   have:=h.1;split at this
   .cases this
   .rename_i hn;exact yz hn
  cases k with
  |zero=>
   simp at h1;subst h1
   cases k' with
   |zero=>rfl
   |succ k'=>exact absurd (zE (by simpa using h2)) hno
  |succ k=>
   cases k' with
   |zero=>simp at h2;subst h2;exact absurd (zE (by simpa using h1)) hno
   |succ k'=>
    have:=nL h.2 (k:=k) (k':=k') (i:=i) (by simpa using h1) (by simpa using h2)
    rw[this]
 |[],_,k,k',i,h1,_=>by simp at h1
theorem uD{n:Nat}:∀{l:List (Option Nat)} {c k i:Nat},FF n c l=true->l[k]? =some (some i)->c+k<n->i=c+k
 |none::l,c,0,i,h,h1,hlt=>by simp at h1
 |none::l,c,k+1,i,h,h1,hlt=>by
  have:=uD (l:=l) (c:=c+1) (k:=k) (i:=i) h (by simpa using h1) (by omega)
  omega
 |some j::l,c,k,i,h,h1,hlt=>by
  simp only[FF,zD,ZN] at h
  cases k with
  |zero=>
   simp at h1;subst h1;rcases h.1 with h|h
   .have:=zr h;omega
   .exact zO h
  |succ k=>
   have:=uD (c:=c+1) (k:=k) (i:=i) h.2 (by simpa using h1) (by omega)
   omega
 |[],c,k,i,_,h1,_=>by simp at h1
theorem td{N:Nat}:∀{l:List (Option Nat)} {k i:Nat},ltO N l=true->l[k]? =some (some i)->i<N
 |none::l,0,i,h,h1=>by simp at h1
 |none::l,k+1,i,h,h1=>td (l:=l) (k:=k) h (by simpa using h1)
 |some j::l,k,i,h,h1=>by
  simp only[ltO,zD] at h
  cases k with
  |zero=>simp at h1;subst h1;simpa[Nat.blt_eq] using h.1
  |succ k=>exact td h.2 (by simpa using h1)
 |[],k,i,_,h1=>by simp at h1
def okO(p:Nat->Bool)(bs:List Box):List (Option Nat)->Bool
 |[]=>true
 |none::l=>okO p bs l
 |some i::l=>atB p (kY bs i)&&okO p bs l
theorem sY{p:Nat->Bool}{bs:List Box}:∀{l:List (Option Nat)} {k i:Nat},okO p bs l=true->l[k]? =some (some i)->atB p (kY bs i)=true
 |none::l,0,i,h,h1=>by simp at h1
 |none::l,k+1,i,h,h1=>sY (l:=l) (k:=k) h (by simpa using h1)
 |some j::l,k,i,h,h1=>by
  simp only[okO,zD] at h
  cases k with
  |zero=>simp at h1;subst h1;exact h.1
  |succ k=>exact sY h.2 (by simpa using h1)
 |[],k,i,_,h1=>by simp at h1
theorem aF.lay(s:St)(is:List (Option Nat))(h1:qE is=true)(h2:FF s.lo 0 is=true)(h3:ltO s.bs.length is=true)(h4:Nat.ble s.lo is.length=true)(he:atE (inO is) s.env=true)(hb:okO (inO is) s.bs is=true):
  aF s ⟨rnE (jW is) s.env,kJ (jW is) s.bs is,s.lo⟩:=λE G a w hs=>by
 obtain⟨env,bs,lo⟩:=s;simp only at h2 h3 h4 he hb|-;have h4:=zr h4;have hlo:lo=E.nb:=hs.lo;have hcl:(kJ (jW is) bs is).length=is.length:=pF _ _ _
 have hcb:∀{k:Nat} {y:Box},(kJ (jW is) bs is)[k]? =some y->(is[k]? =some none/\y=.dead)\/∃i x,is[k]? =some (some i)/\bs[i]? =some x/\y=rnB (jW is) x/\atB (inO is) x=true:=λ{k y} hy=>by
  rw[AA] at hy
  cases hk:is[k]? with
  |none=>rw[hk] at hy;cases hy
  |some o=>
   rw[hk] at hy
   cases o with
   |none=>simp at hy;exact .inl ⟨rfl,hy.symm⟩
   |some i=>
    have hlt:=td h3 hk;have hx:bs[i]? =some bs[i]:=zA hlt;have hat:=sY hb hk;rw[mU hx] at hat;simp only[zM,zN,mU hx] at hy;exact .inr ⟨i,_,rfl,hx,hy.symm,hat⟩
 obtain⟨G2,hG2⟩:∃G2:Gh,G2=⟨G.M,λb=>match is[b]? with|some (some i)=>G.σ i|_=>G.σ b,λp=>match p with|.sl t=>G.cl (.sl t)|.bx b j=>match is[b]? with|some (some i)=>G.cl (.bx i j)|_=>none⟩:=⟨_,rfl⟩;have hM:G2.M=G.M:=by rw[hG2]
 have hσ:∀{k i:Nat},is[k]? =some (some i)->G2.σ k=G.σ i:=λ{k i} hk=>by rw[hG2];simp only[hk]
 have hclS:∀t,G2.cl (.sl t)=G.cl (.sl t):=λt=>by rw[hG2]
 have hclB:∀{k i:Nat} (j:Nat),is[k]? =some (some i)->G2.cl (.bx k j)=G.cl (.bx i j):=λ{k i} j hk=>by rw[hG2];simp only[hk]
 have hcl2:∀{p:Pl} {B:Nat},G2.cl p=some B->(∃t,p=.sl t/\G.cl (.sl t)=some B)\/∃k i j,p=.bx k j/\is[k]? =some (some i)/\G.cl (.bx i j)=some B:=λ{p B} hp=>by
  cases p with
  |sl t=>exact .inl ⟨t,rfl,by rw[<-hclS];exact hp⟩
  |bx k j=>
   rw[hG2] at hp;simp only at hp;split at hp
   .rename_i i hk;exact .inr ⟨k,i,j,rfl,hk,hp⟩
   .cases hp
 have hcells:∀{k:Nat} {cs:List AV},ab (kJ (jW is) bs is) k=some cs->∃i ds,is[k]? =some (some i)/\ab bs i=some ds/\cs=ds.map (AV.rn (jW is))/\∀c∈ds,c.atp (inO is)=true:=λ{k cs} hc=>by
  unfold ab at hc;split at hc
  .rename_i y hy;rcases hcb hy with ⟨_,rfl⟩|⟨i,x,q1,q2,rfl,q4⟩
   .cases hc
   .rw [Hf _ q4] at hc
    cases hx:x.cs? with
    |none=>rw[hx] at hc;cases hc
    |some ds=>
     rw[hx] at hc;simp only[zM,zN] at hc;exact⟨i,ds,q1,by simp only[ab,q2,hx],hc.symm,uY q4 hx⟩
  .cases hc
 have hloops:∀{k:Nat} {x:LB},ag (kJ (jW is) bs is) k=some x->∃i,is[k]? =some (some i)/\ag bs i=some x/\x.n=0/\∀M:Hp,x.M.le M:=λ{k x} hc=>by
  unfold ag at hc;split at hc
  .rename_i y hy;rcases hcb hy with ⟨_,rfl⟩|⟨i,z,q1,q2,rfl,q4⟩
   .cases hc
   .rw [He] at hc;exact⟨i,q1,by simp only[ag,q2,hc],Ii q4 hc⟩
  .cases hc
 have hone:=λ{k k' i:Nat}=>nL h1 (k:=k) (k':=k') (i:=i)
 have toR:∀{x:AV} {v:Value},RV G.M G.σ bs.length x v->x.atp (inO is)=true->RV G2.M G2.σ (kJ (jW is) bs is).length (x.rn (jW is)) v:=λ{x v} hx hp=>by
  rw[hM];refine hx.rn (λb hb _=>?_) hp;unfold inO at hb
  cases hq:ixO is b 0 with
  |none=>rw[hq] at hb;cases hb
  |some k=>
   obtain⟨_,q1⟩:=yy hq;rw[yK] at q1;have hr:jW is b=k:=by unfold jW;rw[hq]
   rw[hr,hσ q1,hcl];exact⟨rfl,(zB.1 q1).1⟩
 have hat:∀{p:Pl} {x:AV},(⟨rnE (jW is) env,kJ (jW is) bs is,lo⟩:St).at p=some x->(∃t y,p=.sl t/\(⟨env,bs,lo⟩:St).at (.sl t)=some y/\x=y.rn (jW is)/\y.atp (inO is)=true)\/(∃k i j y,p=.bx k j/\is[k]? =some (some i)/\(⟨env,bs,lo⟩:St).at (.bx i j)=some y/\x=y.rn (jW is)/\y.atp (inO is)=true):=λ{p x} hp=>by
  cases p with
  |sl t=>
   simp only[St.at,IM] at hp
   cases hq:au env t with
   |none=>rw[hq] at hp;cases hp
   |some y=>
    rw[hq] at hp;simp only[zM,zN] at hp
    exact .inl ⟨t,y,rfl,hq,hp.symm,Jv he hq⟩
  |bx k j=>
   simp only[St.at] at hp
   cases hbk:ab (kJ (jW is) bs is) k with
   |none=>rw[hbk] at hp;cases hp
   |some cs=>
    obtain⟨i,ds,q1,q2,q3,q4⟩:=hcells hbk;rw[hbk,q3] at hp;simp only[ZG,ZF] at hp
    cases hj:ds[j]? with
    |none=>rw[hj] at hp;cases hp
    |some y=>
     rw[hj] at hp;simp only[zM,zN] at hp;exact .inr ⟨k,i,j,y,rfl,q1,by simp only[St.at,q2,ZG,hj],hp.symm,q4 y (zE hj)⟩
 have hval:∀{k i:Nat} (j:Nat),is[k]? =some (some i)->aw G2.σ a w (.bx k j)=aw G.σ a w (.bx i j):=λ{k i} j hk=>by simp only[aw,hσ hk]
 refine⟨G2,by rw[hM];exact hs.fr,by rw[hM];exact hs.ok,hs.nt,λp x hp=>?_,λk j x hp=>?_,λk cs hk=>?_,λk cs hk=>?_,λk k' cs cs' hk hk' e=>?_,λp z l hp=>?_,λp q B hp hq=>?_,λp B hp k cs hk=>?_,λp B hp=>?_,hs.lo,by show E.nb<=_;rw[hcl];omega,λb hb=>?_,?_⟩
 .rcases hat hp with ⟨t,y,rfl,q1,rfl,q2⟩|⟨k,i,j,y,rfl,q0,q1,rfl,q2⟩
  .show RV G2.M G2.σ _ _ (aw G2.σ a w (.sl t));rw[oV];exact toR (hs.val _ _ q1) (by rw[mW];exact q2)
  .show RV G2.M G2.σ _ _ (aw G2.σ a w (.bx k j));rw[oV,hval j q0];exact toR (hs.val _ _ q1) (by rw[mW];exact q2)
 .rcases hat hp with ⟨t,y,e,_⟩|⟨k',i,j',y,e,q0,q1,rfl,q2⟩
  .cases e
  .cases e;rw[hval _ q0];exact hs.one _ _ _ q1
 .obtain ⟨i,ds,q1,q2,rfl,_⟩:=hcells hk;rw[hσ q1,zF];exact hs.box i ds q2
 .obtain ⟨i,ds,q1,q2,rfl,_⟩:=hcells hk;rw[hσ q1,hM];exact hs.bmem i ds q2
 .obtain ⟨i,ds,q1,q2,_,_⟩:=hcells hk;obtain⟨i',ds',q1',q2',_,_⟩:=hcells hk';rw[hσ q1,hσ q1'] at e;have:=hs.inj i i' ds ds' q2 q2' e;subst this;exact hone q1 q1'
 .rcases hat hp with ⟨t,y,rfl,q1,e,q2⟩|⟨k,i,j,y,rfl,q0,q1,e,q2⟩
  .have hy:=xo e.symm;subst hy;obtain⟨ad,kk,r1,r2,r3⟩:=hs.own _ _ _ q1;refine⟨ad,kk,r1,r2,?_⟩;rcases r3 with r3|⟨B,hB,r4,r5⟩
   .exact .inl r3
   .exact .inr ⟨B,by rw[hclS];exact hB,r4,r5.lt,r5.cells,by rw[hM];exact r5.free,r5.mine⟩
  .have hy:=xo e.symm;subst hy;obtain⟨ad,kk,r1,r2,r3⟩:=hs.own _ _ _ q1;refine⟨ad,kk,by rw[hval j q0];exact r1,r2,?_⟩
   rcases r3 with r3|⟨B,hB,r4,r5⟩
   .exact .inl r3
   .exact .inr ⟨B,by rw[hclB j q0];exact hB,r4,r5.lt,r5.cells,by rw[hM];exact r5.free,r5.mine⟩
 .rcases hcl2 hp with ⟨t,rfl,q1⟩|⟨k,i,j,rfl,q0,q1⟩<;>rcases hcl2 hq with ⟨t',rfl,q1'⟩|⟨k',i',j',rfl,q0',q1'⟩
  .exact hs.clinj _ _ B q1 q1'
  .have:=hs.clinj _ _ B q1 q1';cases this
  .have:=hs.clinj _ _ B q1 q1';cases this
  .have:=hs.clinj _ _ B q1 q1';cases this;have:=hone q0 q0';subst this;rfl
 .obtain ⟨i,ds,q1,q2,_,_⟩:=hcells hk;rw[hσ q1];rcases hcl2 hp with ⟨t,rfl,q⟩|⟨k',i',j,rfl,q0,q⟩
  .exact hs.clbox _ B q i ds q2
  .exact hs.clbox _ B q i ds q2
 .rcases hcl2 hp with ⟨t,rfl,q⟩|⟨k',i',j,rfl,q0,q⟩
  .exact hs.cllt _ B q
  .exact hs.cllt _ B q
 .have hlt:b<is.length:=by omega
  have hsg:=hs.sig b hb;rw[hG2];simp only
  cases hk:is[b]? with
  |none=>exact hsg
  |some o=>
   cases o with
   |none=>exact hsg
   |some i=>
    have:=uD h2 hk (by omega)
    rw[ZI] at this;subst this;exact hsg
 .refine ⟨λB o hsp=>?_,λk x hk=>?_,λk k' x x' hk hk' e=>?_,hs.sp.ds⟩
  .rcases hsp with ⟨k,x,hk,e,ho⟩|hm
   .obtain ⟨i,q1,q2,_,_⟩:=hloops hk;rw[hσ q1] at e;obtain⟨r1,r2,r3⟩:=hs.sp.ob B o (.inl ⟨i,x,q2,e,ho⟩);refine⟨r1,λp hp=>?_,r3⟩;rcases hcl2 hp with ⟨t,rfl,q⟩|⟨k',i',j,rfl,q0,q⟩<;>exact r2 _ q
   .obtain ⟨r1,r2,r3⟩:=hs.sp.ob B o (.inr hm);refine⟨r1,λp hp=>?_,r3⟩;rcases hcl2 hp with ⟨t,rfl,q⟩|⟨k',i',j,rfl,q0,q⟩<;>exact r2 _ q
  .obtain ⟨i,q1,q2,q3,q4⟩:=hloops hk;exact⟨q4 _,by omega,λc hc=>by omega⟩
  .obtain ⟨i,q1,q2,_,_⟩:=hloops hk;obtain⟨i',q1',q2',_,_⟩:=hloops hk';rw[hσ q1,hσ q1'] at e;have:=hs.sp.inj i i' x x' q2 q2' e;subst this;exact hone q1 q1'
theorem L2{p:Nat->Bool}{bs:List Box}{i:Nat}{l:List (Option Nat)}(h:atB p (kY bs i)=true)(k:okO p bs l=true):okO p bs (some i::l)=true:=by simp only[okO,h,k,Bool.and_self]
theorem wJ{α:Type}{f:α->AV}{z:Nat}(hp:Plain f z){p:Nat->Bool}(k:Nat)(l:List α):atB p (aZ f z k l)=true:=by
 simp only[aZ,atB,zS];intro c hc;rcases zY.1 hc with hc|hc
 .exact (hp.mem hc).2
 .rw [(Zc.1 hc).2];rfl
theorem KY{p:Nat->Bool}{x:Box}{l:List Box}(h:atB p x=true)(k:BM p l=true):BM p (x::l)=true:=by simp only[BM,h,k,Bool.and_self]
theorem ah.lay{s t:St}(is:List (Option Nat))(hb:okO (inO is) s.bs is=true)(h:(⟨rnE (jW is) s.env,kJ (jW is) s.bs is,s.lo⟩:St).fo true λs'=>ah s' t)(h1:qE is=true:=by rfl)(h2:FF s.lo 0 is=true:=by rfl)(h3:ltO s.bs.length is=true:=by rfl)(h4:Nat.ble s.lo is.length=true:=by rfl)(he:atE (inO is) s.env=true:=by rfl):ah s t:=by
 rw[St.dy] at h;exact⟨(aF.lay s is h1 h2 h3 h4 he hb).trans h.out⟩
theorem ae.lay{s:St}{rs:List dc}{Q:AV->List Box->Prop}(is:List (Option Nat))(hb:okO (inO is) s.bs is=true)(h:(⟨rnE (jW is) s.env,kJ (jW is) s.bs is,s.lo⟩:St).fo true λs'=>ae s' rs Q)(h1:qE is=true:=by rfl)(h2:FF s.lo 0 is=true:=by rfl)(h3:ltO s.bs.length is=true:=by rfl)(h4:Nat.ble s.lo is.length=true:=by rfl)(he:atE (inO is) s.env=true:=by rfl):ae s rs Q:=by
 rw[St.dy] at h;obtain⟨s',q1,q2⟩:=h.out;exact⟨s',(aF.lay s is h1 h2 h3 h4 he hb).trans q1,q2⟩
theorem aa.at{P:Program}{f:FuncId}{vals raw vals0:List AV}{bs bs0:List Box}{Q:AV->List Box->Prop}{K:AV->List Box->Prop}(is:List Nat)(h:Sem P f vals0 bs0 Q)(hv0:raw.map (AV.rn (rho is))=vals0)(hb0:cut is bs is=bs0)
  (hQ:∀r bs',Q r bs'->Nat.ble is.length bs'.length=true/\r.atp (λb=>decide (b<bs'.length))=true/\BM (λb=>decide (b<bs'.length)) bs'=true)
  (hb:okO (v8 is) bs (is.map some)=true) (hK:∀r bs',Q r bs'->K (r.rn (pie is bs.length)) (back is bs bs'))
  (hnd:qE (is.map some)=true:=by rfl) (hin:ltO bs.length (is.map some)=true:=by rfl) (hv:raw.all (AV.atp (v8 is))=true:=by rfl):aa P f vals raw bs K:=by
 subst hv0 hb0;have hget:∀{k i:Nat},is[k]? =some i->(is.map some)[k]? =some (some i):=λ{k i} h=>by rw[ZF,h];rfl
 refine .raw (Sem.ren is ?_ (λi hi=>?_) (by simpa using hv) (λi hi=>?_) (h.mono λr bs' hq=>⟨?_,hq⟩)) ?_
 .refine List.pairwise_iff_getElem.2 λi j hi hj hij e=>?_;have:=nL hnd (hget (zA hi)) (hget (k:=j) (i:=is[i]) (by rw[zA hj,e]))
  omega
 .obtain ⟨k,hk⟩:=ZS hi;exact td hin (hget hk)
 .obtain ⟨k,hk⟩:=ZS hi;exact sY hb (hget hk)
 .obtain ⟨q1,q2,q3⟩:=hQ r bs' hq;exact⟨zr q1,q2,q3⟩
 .rintro r bs' ⟨r0,bs2,hq,rfl,rfl⟩;exact hK r0 bs2 hq
section
variable{α:Type}{f:α->AV}{z:Nat}
theorem re(hp:Plain f z){bs:List Box}{b k i:Nat}{l:List α}{x:α}(hb:bs[b]? =some (aZ f z k l))(hx:l[i]? =some x):ab bs b=some (cellsOf (l.map f)++List.replicate ((k-l.length)*z) AV.top):=by
 refine df (fV hb) λe=>?_;have:=congrArg List.length e;rw[zC,hp.len,ZQ] at this;have hi:=(zB.1 hx).1;have:=hp.pos;have h2:0<l.length*z:=Nat.mul_pos (by omega) hp.pos
 omega
theorem oU(hp:Plain f z){k i off:Nat}{l:List α}{x:α}(hx:l[i]? =some x)(ho:off<z):(cellsOf (l.map f)++List.replicate ((k-l.length)*z) AV.top)[i*z+off]? =(f x).cells[off]?:=by
 obtain⟨hi,rfl⟩:=zB.1 hx
 have hlt:i*z+off<(cellsOf (l.map f)).length:=by
  rw[hp.len];have:(i+1)*z<=l.length*z:=ZE _ hi;rw[ZM,yV] at this;omega
 rw[zK hlt,kV (z:=z) (λy hy=>by obtain⟨x,_,rfl⟩:=zk.1 hy;exact hp.sz x) i (by simpa using hi) off ho]
 simp
theorem ElN.cell(hp:Plain f z){e:List (Nat×AV)}{bs:List Box}{lo b k i off:Nat}{l:List α}{x:α}{c:AV}{K:AV->Prop}(hb:bs[b]? =some (aZ f z k l))(hx:l[i]? =some x)(hc:(f x).cells[off]? =some c)(h:K c):ElN false 1 ⟨e,bs,lo⟩ (.elp b i z off) K:=by
 refine⟨?_⟩;have ho:off<z:=by rw[<-hp.sz x];exact(zB.1 hc).1
 have hg:=(oU (k:=k) hp hx ho).trans hc;obtain⟨hlt,he⟩:=zB.1 hg;simp only[St.rd,re hp hb hx];rw[zH hlt,he];simp only[zP,cB,hp.de x c (zE hc)];cases c<;>first|exact h|skip
theorem ElN.elem(hp:Plain f z){e:List (Nat×AV)}{bs:List Box}{lo b k i:Nat}{l:List α}{x:α}{K:AV->Prop}(hb:bs[b]? =some (aZ f z k l))(hx:l[i]? =some x)(h:K (.agg (f x).cells)):ElN true z ⟨e,bs,lo⟩ (.elp b i z 0) K:=by
 refine⟨?_⟩;simp only[St.rd,re hp hb hx,Zk];have hi:=(zB.1 hx).1
 have hlen:i*z+z<=(cellsOf (l.map f)++List.replicate ((k-l.length)*z) AV.top).length:=by
  rw[zC,hp.len];have:(i+1)*z<=l.length*z:=ZE _ hi;rw[ZM,yV] at this;omega
 simp only[cB];refine af.2 ⟨by rw[Nat.ble_eq];simp only[zF,Zh];omega,?_⟩
 have e2:(((cellsOf (l.map f)++List.replicate ((k-l.length)*z) AV.top).drop (i*z)).map AV.az).take z=(f x).cells:=by
  apply Zu;intro j
  by_cases hj:j<z
  .rw [List.getElem?_take_of_lt hj,ZF,List.getElem?_drop,oU hp hx hj]
   cases hc:(f x).cells[j]? with
   |none=>rfl
   |some c=>simp only[zM];rw[hp.de x c (zE hc)]
  .rw [zR (by simp;omega),zR (by rw[hp.sz];omega)]
 rw[e2];exact h
theorem EsN.elem(hp:Plain f z)(hk:∀x,bj (f x)=true){e:List (Nat×AV)}{bs:List Box}{lo b k i:Nat}{l:List α}{x y:α}{v:AV}{K:St->Prop}(hb:bs[b]? =some (aZ f z k l))(hx:l[i]? =some x)(hv:v=f y)(h:K ⟨e,bs.set b (aZ f z k (l.set i y)),lo⟩):EsN z ⟨e,bs,lo⟩ b i z 0 v K:=by
 subst hv;refine⟨?_⟩;simp only[nk,re hp hb hx,Zk];have hi:=(zB.1 hx).1;have hmul:(i+1)*z<=l.length*z:=ZE _ hi;rw[ZM,yV] at hmul;refine⟨⟨hk y,hp.sz y,hp.pos,by rw[zC,hp.len];omega⟩,?_⟩
 have he:setAt (cellsOf (l.map f)++List.replicate ((k-l.length)*z) AV.top) (i*z) (f y).cells=cellsOf ((l.set i y).map f)++List.replicate ((k-(l.set i y).length)*z) AV.top:=by
  apply Zu;intro j;rw[p6];have hl1:(cellsOf (l.map f)++List.replicate ((k-l.length)*z) AV.top).length=l.length*z+(k-l.length)*z:=by rw[zC,hp.len,zf]
  have hl2:(cellsOf ((l.set i y).map f)).length=l.length*z:=by rw[hp.len,zm]
  have hl3:(cellsOf (l.map f)).length=l.length*z:=hp.len l;have hset:(l.set i y)[i]? =some y:=by simp[hi]
  by_cases hj:j<l.length*z
  .have hq:j/z<l.length:=(Zy hp.pos).2 hj;have hr:j %z<z:=yd _ hp.pos;have hjj:j/z*z+j %z=j:=by have:=yQ j z;rw[yY] at this;exact this
   by_cases hij:j/z=i
   .have hc1:i*z<=j/\j<i*z+(f y).cells.length/\j<(cellsOf (l.map f)++List.replicate ((k-l.length)*z) AV.top).length:=by
     rw[hp.sz,hl1];rw[hij] at hjj;omega
    rw[if_pos hc1];have:=oU (k:=k) (off:=j %z) hp hset hr;rw[<-hij,hjj] at this;rw[hij] at this;rw[this];congr 1;rw[hij] at hjj;omega
   .have hc1:¬(i*z<=j/\j<i*z+(f y).cells.length/\j<(cellsOf (l.map f)++List.replicate ((k-l.length)*z) AV.top).length):=by
     rintro⟨q1,q2,_⟩;rw[hp.sz] at q2;apply hij;refine Nat.div_eq_of_lt_le q1 ?_;rw[ZM,yV];exact q2
    rw[if_neg hc1];have hx2:l[j/z]? =some l[j/z]:=zA hq;have hx3:(l.set i y)[j/z]? =some l[j/z]:=by rw[Zi (λe=>hij e.symm)];exact hx2
    have q1:=oU (k:=k) hp hx2 hr;have q2:=oU (k:=k) hp hx3 hr;rw[hjj] at q1 q2;rw[q1,q2]
  .have hc1:¬(i*z<=j/\j<i*z+(f y).cells.length/\j<(cellsOf (l.map f)++List.replicate ((k-l.length)*z) AV.top).length):=by
    rintro⟨q1,q2,_⟩;rw[hp.sz] at q2;omega
   rw[if_neg hc1,zZ (by omega),zZ (by omega),hl2,hl3,zm]
 rw[he];exact h
theorem OH.one(hp:Plain f z)(hk:∀x,bj (f x)=true/\(f x).flat=true){e:List (Nat×AV)}{bs:List Box}{lo:Nat}{x:α}{v:AV}{K:AV->St->Prop}(hv:v=f x)(h:K (.bsl bs.length 1 1) ⟨e,bs++[aZ f z 1 [x]],lo⟩):OH z [v] ⟨e,bs,lo⟩ K:=by
 subst hv;refine⟨⟨hp.pos,λv hv=>?_⟩,?_⟩
 .rw [zp] at hv;subst hv;exact⟨hk x,hp.sz x⟩
 .simpa [aZ] using h
end
theorem Pe{α:Type}{f:α->AV}{z:Nat}(hp:Plain f z){l:List α}{q j:Nat}{hj:j<(cellsOf (l.map f)++List.replicate q AV.top).length}:((cellsOf (l.map f)++List.replicate q AV.top)[j]).az=(cellsOf (l.map f)++List.replicate q AV.top)[j]:=by
 rcases zY.1 (zc hj) with h|h
 .exact (hp.mem h).1
 .rw [(Zc.1 h).2];rfl
theorem vG:∀(a b:List AV),cellsOf (a++b)=cellsOf a++cellsOf b
 |[],b=>rfl
 |x::a,b=>by simp only[ze,cellsOf,vG a b,zg]
theorem aF.rq{α:Type}{f:α->AV}{z:Nat}(hp:Plain f z)(s:St)(b n:Nat){k:Nat}{l:List α}(hb:s.bs[b]? =some (aZ f z k l))(hn:n<=l.length)(hk:0<k):aF s ⟨s.env,s.bs.set b (aZ f z k (l.take n)),s.lo⟩:=λE G a w hs=>by
 have hz:=hp.pos;have hl1:(cellsOf (l.map f)).length=l.length*z:=hp.len l;have hl2:(cellsOf ((l.take n).map f)).length=n*z:=by rw[hp.len,zn,yR hn]
 have hne:cellsOf (l.map f)++List.replicate ((k-l.length)*z) .top≠[]:=λe=>by
  have:=congrArg List.length e;rw[zC,hl1,zf,<-ZM,ZQ] at this;have h2:0<(l.length+(k-l.length))*z:=Nat.mul_pos (by omega) hz
  omega
 have hbc:ab s.bs b=some (cellsOf (l.map f)++List.replicate ((k-l.length)*z) .top):=df (fV hb) hne;obtain⟨vs,T,hc,hvl⟩:=hs.box b _ hbc;have hlen':(n+(k-n))*z<=(l.length+(k-l.length))*z:=ZE _ (by omega)
 rw[ZM,ZM] at hlen';have hlt:(l.take n).length=n:=by rw[zn,yR hn]
 refine⟨G,hs.NH (w':=w) (vs':=vs) (T:=T) hbc hc ?_ ?_ rfl rfl rfl (zG _) (λ_ _ _=>rfl) λj hj v hv=>?_⟩
 .rw [zC,hl2,zf,hlt];rw[zC,hl1,zf] at hvl;omega
 .intro e;have:=congrArg List.length e;rw[zC,hl2,zf,hlt,<-ZM,ZQ] at this;have h2:0<(n+(k-n))*z:=Nat.mul_pos (by omega) hz
  omega
 .rw [zC,hl2,zf,hlt] at hj;have hj2:j<(cellsOf (l.map f)++List.replicate ((k-l.length)*z) AV.top).length:=by rw[zC,hl1,zf];omega
  have hat:s.at (.bx b j)=some ((cellsOf (l.map f)++List.replicate ((k-l.length)*z) AV.top)[j]):=by
   simp only[St.at,hbc,ZG];exact zA hj2
  have hvv:aw G.σ a w (.bx b j)=v:=by
   have hjs:j<vs.size:=by omega
   simp only[aw,World.cell?,hc];rw[zi hjs] at hv;cases hv;simp[hjs]
  have h1:=hs.one _ _ _ hat;have h2:=hs.val _ _ hat;rw[hvv] at h1 h2;refine⟨h1,?_⟩
  by_cases hjn:j<n*z
  .have e:(cellsOf ((l.take n).map f)++List.replicate ((k-(l.take n).length)*z) AV.top)[j]'(by rw[zC,hl2,zf,hlt];exact hj)=(cellsOf (l.map f)++List.replicate ((k-l.length)*z) AV.top)[j]:=by
    rw[ZH (by omega),ZH (by have:=ZE z hn;omega)]
    have:cellsOf (l.map f)=cellsOf ((l.take n).map f)++cellsOf ((l.drop n).map f):=by rw[<-vG,<-zu,List.take_append_drop]
    simp only[this];rw[ZH (by omega)]
   rw[e];rw[Pe hp] at h2;exact h2
  .have e:(cellsOf ((l.take n).map f)++List.replicate ((k-(l.take n).length)*z) AV.top)[j]'(by rw[zC,hl2,zf,hlt];exact hj)=.top:=by
    rw[ZZ (by omega),yC]
   rw[e];exact .flat (.top v)
theorem ah.rq{α:Type}{f:α->AV}{z:Nat}(hp:Plain f z){s t:St}(b n:Nat){k:Nat}{l:List α}(hb:s.bs[b]? =some (aZ f z k l))(hn:n<=l.length)(hk:0<k)(h:ah ⟨s.env,s.bs.set b (aZ f z k (l.take n)),s.lo⟩ t):ah s t:=⟨(aF.rq hp s b n hb hn hk).trans h.out⟩
theorem ah.nV{α:Type}{f:α->AV}{z:Nat}(hp:Plain f z){s t:St}(c i:Nat){cs:List AV}{b m k k0:Nat}{l:List α}(h0:s.bs[c]? =some (.cells cs))(hi:cs[i]? =some (.bsl b m k))(hb:s.bs[b]? =some (aZ f z k0 l))(hm:m<=l.length)(h:ah ⟨s.env,(s.bs.set b .dead).set c (.cells (cs.set i (.sl .no ((l.take m).map f)))),s.lo⟩ t):ah s t:=⟨(aF.nV hp s c i h0 hi hb hm).trans h.out⟩
theorem iI.done{b:Nat}{n:Int}{s:St}{rs:List dc}{Q:AV->List Box->Prop}{l:List (Int×AV×Nat)}{c:Nat}(hb:s.bs[b]? =some (.mq l c))(h:qp ⟨s.env,s.bs.set b (.mq (uh l n) c),s.lo⟩ rs λr b=>fv (rL r) λx=>Q x b):iI b n s rs Q:=⟨⟨s,aF.refl s,l,c,hb,tS (λr b q=>.inr (by rwa [CE] at q)) h⟩⟩
theorem iI.wk{b:Nat}{n:Int}{s s':St}{rs:List dc}{Q:AV->List Box->Prop}(hw:aF s s')(h:iI b n s' rs Q):iI b n s rs Q:=by
 obtain⟨⟨s2,q1,q2⟩⟩:=h;exact⟨⟨s2,hw.trans q1,q2⟩⟩
theorem iI.lay{b:Nat}{n:Int}{s:St}{rs:List dc}{Q:AV->List Box->Prop}(is:List (Option Nat))(hb:okO (inO is) s.bs is=true)(h:(⟨rnE (jW is) s.env,kJ (jW is) s.bs is,s.lo⟩:St).fo true λs'=>iI b n s' rs Q)(h1:qE is=true:=by rfl)(h2:FF s.lo 0 is=true:=by rfl)(h3:ltO s.bs.length is=true:=by rfl)(h4:Nat.ble s.lo is.length=true:=by rfl)(he:atE (inO is) s.env=true:=by rfl):iI b n s rs Q:=by
 rw[St.dy] at h;exact iI.wk (aF.lay s is h1 h2 h3 h4 he hb) h
def qB(l:List (Int×Nat)):List (Int×AV×Nat):=l.map λe=>(e.1,.bool true,e.2)
theorem DD:∀(l:List (Int×Nat)) (n:Int),Hk (qB l) n=if n∈l.map (·.1) then some (.bool true) else none
 |[],n=>rfl
 |(k,c)::l,n=>by
  have:=DD l n;simp only[qB] at this;simp only[qB,zP,Hk,zI]
  by_cases h:n=k
  .rw [if_pos h,if_pos (.inl h)]
  .rw [if_neg h,this]
   by_cases h2:n∈l.map (·.1)
   .rw [if_pos h2,if_pos (.inr h2)]
   .rw [if_neg h2,if_neg (λe=>e.elim h h2)]
theorem sM:∀(l:List (Int×Nat)) (n:Int) (c:Nat),n∉l.map (·.1)->rH (qB l) n (.bool true) c=qB (l++[(n,c)])
 |[],n,c,_=>rfl
 |(k,b)::l,n,c,h=>by
  simp only[zP,zI,not_or] at h;have:=sM l n c h.2;simp only[qB] at this;simp only[qB,zP,ze,rH,if_neg h.1,this]
theorem wz:∀(l:List (Int×Nat)) (n:Int) (c:Nat),n∉l.map (·.1)->uh (qB (l++[(n,c)])) n=qB l
 |[],n,c,_=>by simp[qB,uh]
 |(k,b)::l,n,c,h=>by
  simp only[zP,zI,not_or] at h;have:=wz l n c h.2;simp only[qB] at this;simp only[qB,zP,ze,uh,if_neg h.1,this]
theorem MqN.yes{l:List (Int×Nat)}{n:Int}{ok:Bool}{z:AV}{K:AV->Prop}(hn:n∈l.map (·.1))(h:K (okR ok (.bool true) true)):MqN (qB l) n ok z K:=⟨by rw[DD,if_pos hn];exact⟨rfl,h⟩⟩
theorem MqN.no{l:List (Int×Nat)}{n:Int}{ok:Bool}{z:AV}{K:AV->Prop}(hn:n∉l.map (·.1))(h:K (okR ok z false)):MqN (qB l) n ok z K:=⟨by rw[DD,if_neg hn];exact h⟩
theorem aF.O4(s:St)(b:Nat)(hb:s.bs[b]? =some (.mp [])):aF s ⟨s.env,s.bs.set b (.mq [] 0),s.lo⟩:=λE G a w h=>by
 have hlt:=(zB.1 hb).1;refine⟨G,h.tR (λc=>?_) (λc=>?_) (by simp)⟩
 .simp only[ab,zq]
  by_cases e:b=c
  .subst e;simp only[if_true,hlt,hb];rfl
  .rw [if_neg e]
 .simp only[ag,zq]
  by_cases e:b=c
  .subst e;simp only[if_true,hlt,hb];rfl
  .rw [if_neg e]
theorem ah.O4{s t:St}(b:Nat)(hb:s.bs[b]? =some (.mp []))(h:ah ⟨s.env,s.bs.set b (.mq [] 0),s.lo⟩ t):ah s t:=⟨(aF.O4 s b hb).trans h.out⟩
theorem iS{b:ByteArray}{n:Int}{K:Int->Prop}{y:UInt8}(k:K y.toNat)(h:b[n.toNat]? =some y:=by assumption)(h0:0<=n:=by omega):JD b n K:=⟨y,⟨h0,h⟩,k⟩
theorem gIs{b:ByteArray}{n:Int}{K:Int->Prop}(h:JD b n K):JD b n K:=h
theorem oko{p:Prop}(h:p:=by repeat' (first|exact rfl|exact wJ DE _ _|exact wJ gR _ _|exact wJ iv _ _|exact wJ plainMsA _ _|refine L2 ?_ ?_|refine okO_none ?_|refine KY ?_ ?_)):p:=h
theorem aa.ate{P:Program}{f:FuncId}{vals raw vals0:List AV}{bs bs0:List Box}{v:AV}{b:List Box}{K:AV->List Box->Prop}(is:List Nat)(h:Sem P f vals0 bs0 λr bs'=>r=v/\bs'=b)(hv0:raw.map (AV.rn (rho is))=vals0)(hb0:cut is bs is=bs0)(hK:K (v.rn (pie is bs.length)) (back is bs b))
  (hQ1:Nat.ble is.length b.length=true:=by rfl) (hQ2:v.atp (λk=>decide (k<b.length))=true:=by rfl) (hQ3:BM (λk=>decide (k<b.length)) b=true:=by exact oko) (hb:okO (v8 is) bs (is.map some)=true:=by exact oko)
  (hnd:qE (is.map some)=true:=by rfl) (hin:ltO bs.length (is.map some)=true:=by rfl) (hv:raw.all (AV.atp (v8 is))=true:=by rfl):aa P f vals raw bs K:=by
 refine aa.at is h hv0 hb0 ?_ hb ?_ hnd hin hv
 .rintro r bs' ⟨rfl,rfl⟩;exact⟨hQ1,hQ2,hQ3⟩
 .rintro r bs' ⟨rfl,rfl⟩;exact hK
end Go.AM
namespace Go.AM
open Go.CK Go.RowKit
section
variable{P:Program}
theorem HO{s:St}{o:Oper}{t:TypeId}{m k v:Operand}(ho:o.op=.insert t m k v)(hdn:o.dst=none){rm rk rv:Opd}(hm:opd m=some rm)(hk:opd k=some rk)(hv:opd v=some rv){kt et:TypeId}{ks:List FK}(ht:P.underlying t=some (.map kt et))(hkt:ff P kt=some ks){K:St->Prop}
  (h:IF ks s (s.ev rm) (s.ev rk) (s.ev rv) K):OpS P o s K:=by
 have hd:∀c,o.op≠.defer c:=λc e=>by rw[ho] at e;cases e
 obtain⟨b,cs,l,x,hme,hke,hb,hx,hxc,hok,hl,hf,hvo,hK⟩:=h;refine OpS.skip _ hd hdn hK λE G a w hs=>?_;have hmv:=hs.ev hm;rw[hme] at hmv;have hkv:=hs.ev hk;rw[hke] at hkv;have hkv:=ej hok.1 hkv;have hvv:=ej hvo (hs.ev hv);obtain⟨h1,_,_⟩:=hs.ph hb hx;refine⟨G,_,?_,hs.sB hb hx hxc rfl rfl⟩;have e1:=hmv.eQ.1;obtain⟨q,h2,h3⟩:=jm (P:=P) hkt hok w hl hf
 cases q with
 |some q=>cases h3
 |none=>
  have he:(skE 0 l).toArray.push {key:=.agg (cs.map oL).toArray,val:=vOf (s.ev rv),born:=l.length}=(skE 0 (l++[(cs,s.ev rv)])).toArray:=by
   rw[wZ,ZI];simp
  simp only[vOf] at hkv;unfold execOp;simp only[ho,Instr.mapUpdate,e1,hkv,hvv,yg,run_underlying ht,yf,ba h1 rfl,gQ hkt hok,h2,cx h1,he];rfl
end
section
variable{P:Program}{nt:Nat}{fl:Bool}{ops:Array Oper}{E:Entry}{rd:Option Nat}{n:Nat}
def OpI(P:Program)(nt:Nat)(ops:Array Oper)(i:Nat)(s:St)(K:St->Prop):Prop:=
 ∀(E:Entry) (G:Gh) (a:Act) (w:World) (rd:Option Nat) (n:Nat) (next:Act->World->Prop) (Q:Exit->Act->World->Prop),RS E G s a w->E.nt=nt->
  (∀s' G' a' w',K s'->RS E G' s' a' w'->a'.defers=a.defers->next a' w')->wpOpIn (F0 rd) n P ops Q i next a w
theorem OpI.run{o:Oper}{r:ROp}(hc:OpC P nt ops o r){i:Nat}(hi:ops[i]? =some o){dr:Bool}{s:St}{K:St->Prop}(h:r.run P dr s K):OpI P nt ops i s K:=λE G a w rd n next Q hs he hn=>fB hc hi h hs he hn
theorem OpI.sem{o:Oper}{i:Nat}(hi:ops[i]? =some o)(hw:∀y,Region.wanted o y=true){s:St}{K:St->Prop}(hd:∀d,o.dst=some d->d<nt)(h:OpS P o s K):OpI P nt ops i s K:=λE G a w rd n next Q hs he hn=>by
 unfold wpOpIn;rw[hi];simp only;rw[if_pos (hw _)];exact h E G a w rd n next Q hs (λd e=>by rw[he];exact hd d e) hn
theorem Ox{I:(Nat->Bool)->St->Prop}{K:St->Prop}(hedge:gU ops.toList 0=true)
  (step:∀(L:Nat->Bool) (s:St) (i:Nat) (o:Oper),ops[i]? =some o->L i=false->(∀e∈o.after,Region.binds .any e=true->L e.on=true)->I L s->OpI P nt ops i s (I λj=>if j=i then true else L j))
  (fin:∀(L:Nat->Bool) (s:St),(∀i,i<ops.size->L i=true)->I L s->K s) {Q:Exit->Act->World->Prop} (hnt:E.nt=nt):
  ∀(fuel:Nat) (listed:Array Bool) (s:St) (G:Gh) (a:Act) (w:World),listed.size=ops.size->(aq ops listed).length<=fuel->I (λi=>listed.getD i false) s->RS E G s a w->
   (∀s' G' a' w',K s'->RS E G' s' a' w'->Q .normal a' w')->wpAnyIn (F0 rd) n P .any ops Q fuel listed a w:=by
 have hready:∀(listed:Array Bool) i,listed.size=ops.size->i∈Region.ready .any ops listed->i<ops.size/\listed.getD i true=false/\∃o,ops[i]? =some o/\∀e∈o.after,Region.binds .any e=true->listed.getD e.on false=true:=λlisted i hl h=>by
  simp only[Region.ready,zo,zd,zD,zb] at h;obtain⟨h1,h2,h3⟩:=h;refine⟨h1,h2,ops[i],zi h1,λe he hb=>?_⟩;rw[zi h1] at h3;simp only[zM,ZT,ZP,ZN,zb] at h3;rcases h3 e he with h4|h4
  .rw [hb] at h4;cases h4
  .exact h4
 have hall:∀(listed:Array Bool),listed.size=ops.size->aq ops listed=[]->∀i,i<ops.size->listed.getD i false=true:=λlisted hl hn i hi=>by
  cases hq:listed.getD i false with
  |true=>rfl
  |false=>
   exfalso
   have:i∈aq ops listed:=by
    simp only[aq,zo,zd,zb];refine⟨hi,?_⟩;have hsz:i<listed.size:=by omega
    simpa[hsz] using hq
   rw[hn] at this;cases this
 intro fuel
 induction fuel with
 |zero=>
  intro listed s G a w hl hlen hI hs hQ;have hnil:aq ops listed=[]:=ZY.1 (by omega)
  refine⟨?_,hQ s G a w (fin _ s (hall listed hl hnil) hI) hs⟩;rcases hq:Region.ready .any ops listed with _|⟨i,_⟩
  .rfl
  .obtain ⟨h1,h2,_⟩:=hready listed i hl (by rw[hq];simp)
   have:i∈aq ops listed:=by simp only[aq,zo,zd];exact⟨h1,by simp[h2]⟩
   rw[hnil] at this;cases this
 |succ fuel ih=>
  intro listed s G a w hl hlen hI hs hQ;refine⟨λhr=>?_,λi hi'=>?_⟩
  .have hnil:aq ops listed=[]:=by
    rcases hq:aq ops listed with _|⟨i,l⟩
    .rfl
    .exfalso;have hsort:(aq ops listed).Pairwise (·<·):=List.pairwise_lt_range.filter _;rw[hq] at hsort;have hfirst:=(ZA.1 hsort).1;have hmem:i∈aq ops listed:=by rw[hq];simp
     simp only[aq,zo,zd,zb] at hmem
     have hin:i∈Region.ready .any ops listed:=by
      simp only[Region.ready,zo,zd,zD,zb];refine⟨hmem.1,hmem.2,?_⟩;rw[zi hmem.1];simp only[zM,ZT,ZP,ZN,zb];intro e he
      cases hb:Region.binds .any e with
      |false=>exact .inl rfl
      |true=>
       have hlt:=ep hedge i ops[i] (by simp[hmem.1]) e he hb
       rw[ZI] at hlt;refine .inr ?_
       cases hlk:listed.getD e.on false with
       |true=>rfl
       |false=>
        exfalso
        have hlk2:listed.getD e.on true=false:=by
         have hsz:e.on<listed.size:=by rw[hl];omega
         simpa[hsz] using hlk
        have hin2:e.on∈aq ops listed:=by
         simp only[aq,zo,zd,zb];exact⟨by omega,hlk2⟩
        rw[hq] at hin2;rcases zI.1 hin2 with h5|h5
        .omega
        .have:=hfirst _ h5;omega
     rw[hr] at hin;cases hin
   exact hQ s G a w (fin _ s (hall listed hl hnil) hI) hs
  .obtain ⟨h1,h2,o,ho,hpre⟩:=hready listed i hl hi';have hsz:i<listed.size:=by omega
   have h2f:listed.getD i false=false:=by simpa[hsz] using h2
   refine step _ s i o ho h2f hpre hI E G a w rd n _ _ hs hnt λs' G' a' w' hs1 hs' _=>?_
   have hget:(λj=>if j=i then true else listed.getD j false)=λj=>(listed.setIfInBounds i true).getD j false:=funext λj=>by
    by_cases hji:j=i
    .subst hji;simp[hsz]
    .rw [if_neg hji];simp only[zT];rw[zW (Ne.symm hji)]
   rw[hget] at hs1;refine ih _ _ G' a' w' (by simpa using hl) ?_ hs1 hs' hQ
   have hmem:i∈List.range ops.size:=by simpa using h1
   obtain⟨pre,post,e1,e2,e3⟩:=en (λk=>!listed.getD k true) i (List.range ops.size) hmem (by simp[h2]) yX
   have hset:aq ops (listed.setIfInBounds i true)=pre++post:=by
    rw[<-e3];unfold aq;refine Zs λk hk=>?_
    by_cases hki:k=i
    .subst hki;simp[hsz]
    .have hne:(k==i)=false:=by simpa using hki
     simp[zW (Ne.symm hki),hne]
   rw[hset];have:(aq ops listed).length=(pre++i::post).length:=by rw[<-e1];rfl
   simp at this|-;omega
theorem WP.Hh(hm:P.follows .mixedOrders=true){id:Nat}(I:(Nat->Bool)->St->Prop)(hedge:gU ops.toList 0=true)
  (step:∀(L:Nat->Bool) (s:St) (i:Nat) (o:Oper),ops[i]? =some o->L i=false->(∀e∈o.after,Region.binds .any e=true->L e.on=true)->I L s->OpI P nt ops i s (I λj=>if j=i then true else L j))
  {s:St} (h0:I (λ_=>false) s) {Q:AX->St->Prop} (fin:∀(L:Nat->Bool) (s:St),(∀i,i<ops.size->L i=true)->I L s->Q .normal s):WP P nt fl (.region id ops true) s Q:=λE G a w rd n hs he=>by
 refine wpIn_region_any hm ?_;refine Ox (K:=Q .normal) hedge step fin he.1 ops.size _ s G a _ (by simp) (ZO (yH _ _) (by simp)) ?_ hs.drew λs' G' a' w' h4 h5=>⟨.normal,s',G',rfl,h4,h5⟩
 have:(λi=>(Array.replicate ops.size false).getD i false)=λ_=>false:=funext λi=>by
  simp only[zT,yO];split<;>rfl
 rw[this];exact h0
end
theorem Sem.ofW{P:Program}{f:FuncId}{fn:Func}{c:Code}{rs:List dc}(hf:P.funcs[f]? =some fn)(hb:fn.body=some c)(hr:mT P fn.results.toList=some rs)
  {vals:List AV} {bs:List Box} {Q:AV->List Box->Prop} (hn:vals.length<=fn.ntmps) (h:WP P fn.ntmps true c ⟨params 0 vals,bs,bs.length⟩ λx s=>∃s',aF s s'/\JY rs Q x s'):Sem P f vals bs Q:=by
 intro E G a0 w args lo hpre hl hv;refine(callsIn_wide (n:=0)).1 (callsIn_of_wp_marks (F:=F0 none) hf hb trivial ?_);have h1:=hpre.enter hl hv hn;refine wpIn_mono (WP.sd h (c9 G bs w fn.ntmps) _ _ w none 0 h1 ⟨rfl,λ_=>rfl⟩) ?_;rintro e a' w' ⟨x,s',G',rfl,q,hs'⟩
 have fin:qp s' rs Q->LeavesInM (F0 none) 0 P fn a'.tmps (λe w'=>∃v r bs' G',e=.returned v/\Q r bs'/\RS (c9 G bs w 1) G' ⟨[(0,r)],bs',bs.length⟩ ⟨#[v],[]⟩ w') a'.defers .returning w':=λq=>by
  refine hs'.leaves rfl _ rfl λw2 h2=>?_;obtain⟨v,r,bs',G2,h3,h4,h5⟩:=h2.leave h2.lo.symm hr q;have hlo:s'.lo=bs.length:=hs'.lo;rw[hlo] at h5;exact⟨v,h3,v,r,bs',G2,rfl,h4,h5⟩
 cases x with
 |normal=>exact fin q
 |ret=>exact fin q
 |exit id=>exact q.elim
end Go.AM
namespace Go.CK
def nY{α:Type}(p:α->Bool):List α->Nat
 |[]=>0
 |x::r=>if p x then 0 else nY p r+1
theorem uO{α:Type}{p:α->Bool}:∀{l:List α} {k:Nat},(∀i x,i<k->l[i]? =some x->p x=false)->k<=l.length->(∀x,l[k]? =some x->p x=true)->nY p l=k
 |[],k,_,h2,_=>by simp only[ZQ,Nat.le_zero] at h2;subst h2;rfl
 |x::r,0,_,_,h3=>by rw[nY,if_pos (h3 x rfl)]
 |x::r,k+1,h1,h2,h3=>by
  rw[nY,if_neg (by rw[h1 0 x (by omega) rfl];decide),uO (k:=k) (λi y hi hy=>h1 (i+1) y (by omega) (by simpa using hy)) (by simpa using h2) (λy hy=>h3 y (by simpa using hy))]
theorem CJ{α:Type}{p:α->Bool}:∀{l:List α},nY p l<l.length↔∃x∈l,p x=true
 |[]=>by simp[nY]
 |x::r=>by
  have:=CJ (p:=p) (l:=r);rw[nY];split
  .rename_i h;simp[h]
  .rename_i h;simp[this,h]
def Al{α:Type}(p:α->Bool)(l:List α):Int:=if nY p l<l.length then nY p l else-1
theorem Kw{α:Type}(p:α->Bool)(l:List α):decide (0<=Al p l)=l.any p:=by
 unfold Al;have h:=CJ (p:=p) (l:=l);rw[Bool.eq_iff_iff,List.any_eq_true,decide_eq_true_eq,<-h];split<;>rename_i h2
 .exact ⟨λ_=>h2,λ_=>by omega⟩
 .exact ⟨λh=>absurd h (by decide),λh=>absurd h h2⟩
theorem MF{α:Type}{p:α->Bool}{l:List α}{j:Nat}{x:α}(h1:∀i x,i<j->l[i]? =some x->p x=false)(hx:l[j]? =some x)(h:p x=true):Al p l=j:=by
 have hj:=(zB.1 hx).1;have:=uO h1 (Nat.le_of_lt hj) (λy hy=>by rw[hx] at hy;cases hy;exact h)
 rw[Al,this,if_pos hj]
theorem ME{α:Type}{p:α->Bool}{l:List α}(h1:∀i x,i<l.length->l[i]? =some x->p x=false):Al p l=-1:=by
 have:=uO h1 (zG _) (λy hy=>by rw[zR (zG _)] at hy;cases hy)
 rw[Al,this,if_neg (Nat.lt_irrefl _)]
theorem DQ{α:Type}{p:α->Bool}{l:List α}{j:Nat}{x:α}(h1:∀i x,i<j->l[i]? =some x->p x=false)(hx:l[j]? =some x)(h:p x=false):∀i x,i<j+1->l[i]? =some x->p x=false:=λi y hi hy=>by
 by_cases e:i=j
 .subst e;rw[hx] at hy;cases hy;exact h
 .exact h1 i y (by omega) hy
theorem DP{α:Type}{p:α->Bool}{l:List α}:∀i x,i<0->l[i]? =some x->p x=false:=λi _ hi=>by omega
theorem M0{α:Type}{p:α->Bool}{l:List α}(h1:∀i x,i<l.length->l[i]? =some x->p x=false):l.any p=false:=by
 rw[List.any_eq_false];intro x hx;obtain⟨i,hi,rfl⟩:=Zx hx;rw[h1 i _ hi (zA hi)];decide
theorem M4{α:Type}{p:α->Bool}{l:List α}{j:Nat}{x:α}(hx:l[j]? =some x)(h:p x=true):l.any p=true:=List.any_eq_true.2 ⟨x,zE hx,h⟩
theorem M5{α:Type}{p:α->Bool}{l:List α}{j:Nat}{x:α}(hx:l[j]? =some x)(h:p x=false):l.all p=false:=List.all_eq_false.2 ⟨x,zE hx,by rw[h];decide⟩
theorem Jz{α:Type}{p:α->Bool}{l:List α}(h1:∀i x,i<l.length->l[i]? =some x->p x=true):l.all p=true:=by
 rw[zS];intro x hx;obtain⟨i,hi,rfl⟩:=Zx hx;exact h1 i _ hi (zA hi)
theorem EE{α:Type}{p:α->Prop}{l:List α}{j:Nat}{x:α}(h1:∀i x,i<j->l[i]? =some x->p x)(hx:l[j]? =some x)(h:p x):∀i x,i<j+1->l[i]? =some x->p x:=λi y hi hy=>by
 by_cases e:i=j
 .subst e;rw[hx] at hy;cases hy;exact h
 .exact h1 i y (by omega) hy
def gq(x y:Int):Int:=if x<y then-1 else if y<x then 1 else 0
def qw(x y:ByteArray):Int:=if Op.bytesLess x.toList y.toList=true then-1 else if x=y then 0 else 1
def orI(a b:Int):Int:=if a=0 then b else a
theorem LV(b:Int):orI 0 b=b:=rfl
theorem LW{a:Int}(h:¬a=0)(b:Int):orI a b=a:=if_neg h
theorem CY(x:Int):gq x x=0:=by simp[gq]
theorem fG:∀l:List UInt8,Op.bytesLess l l=false
 |[]=>rfl
 |x::l=>by simp[Op.bytesLess,fG l]
theorem KI(x:ByteArray):qw x x=0:=by simp[qw,fG]
theorem jb{x y:Int}:gq x y=0↔x=y:=by unfold gq;split<;>rename_i h<;>first|(split<;>omega)|omega
theorem Ie{x y:ByteArray}:qw x y=0↔x=y:=by
 unfold qw;split
 .rename_i h;refine⟨λh=>absurd h (by decide),λe=>?_⟩
  subst e;rw[fG] at h;cases h
 .split
  .simp [*]
  .simp [*]
def ir(k:Int):Int:=if k=1 then 0 else if k=0 then 1 else if k=2 then 2 else 3
mutual
def Tm.cmp:Tm->Tm->Int
 |.mk k n s l,b=>
  orI (gq (ir k) (ir b.kind)) (if ir k=0\/ir k=1 then gq n b.num else if ir k=2 then orI (gq l.length b.args.length) (orI (qw s b.name) (Tm.eD l b.args)) else orI (gq k b.kind) (orI (gq n b.num) (qw s b.name)))
def Tm.eD:List Tm->List Tm->Int
 |[],m=>gq 0 m.length
 |x::l,m=>match m with
  |[]=>1
  |y::m=>orI (Tm.cmp x y) (Tm.eD l m)
end
theorem Tm.cmp_eq(a b:Tm):a.cmp b=orI (gq (ir a.kind) (ir b.kind)) (if ir a.kind=0\/ir a.kind=1 then gq a.num b.num else if ir a.kind=2 then orI (gq a.args.length b.args.length) (orI (qw a.name b.name) (Tm.eD a.args b.args)) else orI (gq a.kind b.kind) (orI (gq a.num b.num) (qw a.name b.name))):=by
 obtain⟨k,n,s,l⟩:=a;rw[Tm.cmp];rfl
theorem ql{l m:List Tm}{j:Nat}{x y:Tm}(hx:l[j]? =some x)(hy:m[j]? =some y):Tm.eD (l.drop j) (m.drop j)=orI (x.cmp y) (Tm.eD (l.drop (j+1)) (m.drop (j+1))):=by
 obtain⟨h1,rfl⟩:=zB.1 hx;obtain⟨h2,rfl⟩:=zB.1 hy;rw[zH h1,zH h2,Tm.eD]
theorem AF{l m:List Tm}{j:Nat}(h1:j<=l.length)(h2:j<=m.length)(h:j=l.length\/j=m.length):Tm.eD (l.drop j) (m.drop j)=gq l.length m.length:=by
 rcases zt j l.length with h3|h3
 .have:j=m.length:=by omega
  subst this;rw[zH h3,zj,Tm.eD,gq,if_neg (by omega),if_pos (by omega)]
 .have:j=l.length:=by omega
  subst this;rw[zj,Tm.eD,Zh];unfold gq;split<;>split<;>first|rfl|omega|(split<;>first|rfl|omega)
theorem Tm.tD(t:Tm):t.cmp t=0:=by
 induction t using Tm.bK with
 |h k n s l ih=>
  have hl:∀r:List Tm,(∀t∈r,t.cmp t=0)->Tm.eD r r=0:=λr=>by
   induction r with
   |nil=>intro _;rfl
   |cons t r ihr=>intro h;rw[Tm.eD,h t (by simp),LV];exact ihr λx hx=>h x (by simp[hx])
  rw[Tm.cmp];simp only[Tm.kind,Tm.num,Tm.name,Tm.args,CY,KI,LV,hl l ih];split<;>first|rfl|(split<;>rfl)
theorem Tm.CX:∀l:List Tm,Tm.eD l l=0
 |[]=>rfl
 |t::r=>by rw[Tm.eD,t.tD,LV];exact Tm.CX r
mutual
def Tm.wgh:Tm->Int->Int->Int
 |.mk _ _ s l,left,deep=>if deep-1=0\/left-1-(s.size:Int).tdiv 8<l.length then-1 else Tm.jj l (left-1-(s.size:Int).tdiv 8) (deep-1)
def Tm.jj:List Tm->Int->Int->Int
 |[],left,_=>left
 |t::r,left,deep=>if left<0 then left else Tm.jj r (Tm.wgh t left deep) deep
end
def bH(l:List Tm)(left deep:Int):Int:=if deep=0\/left<l.length then-1 else Tm.jj l left deep
theorem Tm.GX(t:Tm)(left deep:Int):t.wgh left deep=bH t.args (left-1-(t.name.size:Int).tdiv 8) (deep-1):=by
 obtain⟨k,n,s,l⟩:=t;rw[Tm.wgh];rfl
theorem jS(n:Nat):(n:Int).tdiv 8=((n/8:Nat):Int):=by rw[Int.tdiv_eq_ediv_of_nonneg (by omega)];rfl
theorem JH{l:List Tm}{j:Nat}{x:Tm}(hx:l[j]? =some x){left:Int}(h:0<=left)(deep:Int):Tm.jj (l.drop j) left deep=Tm.jj (l.drop (j+1)) (x.wgh left deep) deep:=by
 obtain⟨h1,rfl⟩:=zB.1 hx;rw[zH h1,Tm.jj,if_neg (by omega)]
theorem wL(l:List Tm){left:Int}(h:left<0)(deep:Int):Tm.jj l left deep=left:=by
 cases l with
 |nil=>rfl
 |cons t r=>rw[Tm.jj,if_pos h]
theorem wN(t:Tm):∀left deep:Int,-1<=bH t.args left deep/\bH t.args left deep<=max left (-1):=by
 induction t using Tm.bK with
 |h k n s l ih=>
  have hl:∀r:List Tm,(∀t∈r,t∈l)->∀left deep:Int,-1<=left->-1<=Tm.jj r left deep/\Tm.jj r left deep<=left:=λr=>by
   induction r with
   |nil=>intro _ left deep h;simp only[Tm.jj];omega
   |cons t r ihr=>
    intro hm left deep h;have h1:=ih t (hm t (by simp)) (left-1-(t.name.size:Int).tdiv 8) (deep-1)
    rw[<-Tm.GX,jS] at h1;simp only[Tm.jj];split
    .omega
    .have h2:=ihr (λx hx=>hm x (by simp[hx])) (t.wgh left deep) deep h1.1
     omega
  intro left deep;show-1<=bH l left deep/\bH l left deep<=max left (-1)
  by_cases hc:deep=0\/left<l.length
  .rw [bH,if_pos hc];omega
  .rw [bH,if_neg hc];have:=hl l (λ_ h=>h) left deep (by omega)
   omega
theorem O0(t:Tm)(left deep:Int)(h:-1<=left):-1<=t.wgh left deep/\t.wgh left deep<=left:=by
 have:=wN t (left-1-(t.name.size:Int).tdiv 8) (deep-1);rw[<-Tm.GX,jS] at this;omega
end Go.CK
