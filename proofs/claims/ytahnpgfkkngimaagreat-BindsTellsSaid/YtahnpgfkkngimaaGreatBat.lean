/-
  Texts of this aQ joined (wip/gen/bundle.py),those declarations only that are needed:AmLy Cmp Lay. By an AI agent.
-/
import Derived.Test.YtahnpgfkkngimaaGreatBas
import Derived.Test.YtahnpgfkkngimaaGreatBar
import Derived.Test.YtahnpgfkkngimaaGreatBaa
import Derived.Ground.NamesProg
import Derived.Ground.GgzProg
import Derived.Ground.GgwProg
import Derived.Shelf.Sort.Plain
import Derived.Shelf.Slices.In.SortNone
import Derived.Shelf.SlIterI.Sorted
import Derived.Shelf.SlIterI.Collect
import Derived.Shelf.SlIterI.Keys
import Derived.Shelf.GgClosure.StringsIndexFuncTop
import Derived.Shelf.Strings.Search3
import Derived.Test.YtahnpgfkkngimaaGreatProg
set_option linter.unusedSimpArgs false
set_option linter.unusedVariables false
namespace Go.AM
open Go.CK Go.RowKit
def ixO:List (Option Nat)->Nat->Nat->Option Nat
 |[],_,_=>none
 |none::l,b,k=>ixO l b (k+1)
 |some i::l,b,k=>match Nat.beq i b with
  |true=>some k
  |false=>ixO l b (k+1)
theorem uz:∀{l:List (Option Nat)} {b k q:Nat},ixO l b k=some q->k≤q∧l[q-k]?=some (some b)
 |none::l,b,k,q,h=>by
  obtain ⟨h1,h2⟩:=uz (l:=l) (k:=k+1) h;refine ⟨by omega,?_⟩
  rw [show q-k=(q-(k+1))+1 by omega]
  simpa using h2
 |some i::l,b,k,q,h=>by
  simp only [ixO] at h;split at h
  ·rename_i hb;cases h;have:=Nat.eq_of_beq_eq_true hb;subst this;simp
  ·obtain ⟨h1,h2⟩:=uz h;refine ⟨by omega,?_⟩
   rw [show q-k=(q-(k+1))+1 by omega]
   simpa using h2
def inO (l:List (Option Nat)) (b:Nat):Bool:=match ixO l b 0 with
 |some _=>true
 |none=>false
def gZ (l:List (Option Nat)) (b:Nat):Nat:=match ixO l b 0 with
 |some k=>k
 |none=>0
def iK (f:Nat->Nat) (bs:List Box):List (Option Nat)->List Box
 |[]=>[]
 |none::l=>.dead::iK f bs l
 |some i::l=>rnB f (je bs i)::iK f bs l
theorem u7 (f:Nat->Nat) (bs:List Box):∀(l:List (Option Nat)) (k:Nat),(iK f bs l)[k]?=(l[k]?).map fun o=>match o with|some i=>rnB f (je bs i)|none=>.dead
 |[],k=>by simp [iK]
 |none::l,0=>by simp [iK]
 |some i::l,0=>by simp [iK]
 |none::l,k+1=>by simp [iK,u7 f bs l k]
 |some i::l,k+1=>by simp [iK,u7 f bs l k]
theorem nC (f:Nat->Nat) (bs:List Box):∀l:List (Option Nat),(iK f bs l).length=l.length
 |[]=>rfl
 |none::l=>by simp [iK,nC f bs l]
 |some i::l=>by simp [iK,nC f bs l]
def rnE (f:Nat->Nat):List (Nat×AV)->List (Nat×AV)
 |[]=>[]
 |(t,x)::e=>(t,x.rn f)::rnE f e
theorem Dt (f:Nat->Nat):∀(e:List (Nat×AV)) (t:Nat),ak (rnE f e) t=(ak e t).map (AV.rn f)
 |[],t=>rfl
 |(k,x)::e,t=>by
  simp only [rnE,ak]
  cases Nat.beq k t with
  |true=>rfl
  |false=>exact Dt f e t
def atE (p:Nat->Bool):List (Nat×AV)->Bool
 |[]=>true
 |(_,x)::e=>x.atp p&&atE p e
theorem Ec {p:Nat->Bool}:∀{e:List (Nat×AV)} {t:Nat} {x:AV},atE p e=true->ak e t=some x->x.atp p=true
 |(k,y)::e,t,x,h,hg=>by
  simp only [atE,Bool.and_eq_true] at h;simp only [ak] at hg;split at hg
  ·cases hg;exact h.1
  ·exact Ec h.2 hg
 |[],_,_,_,hg=>by cases hg
def oA:List (Option Nat)->Bool
 |[]=>true
 |none::l=>oA l
 |some i::l=>(match ixO l i 0 with|some _=>false|none=>true)&&oA l
def AA (n:Nat):Nat->List (Option Nat)->Bool
 |_,[]=>true
 |b,none::l=>AA n (b+1) l
 |b,some i::l=>(Nat.ble n b||Nat.beq i b)&&AA n (b+1) l
def ltO (N:Nat):List (Option Nat)->Bool
 |[]=>true
 |none::l=>ltO N l
 |some i::l=>Nat.blt i N&&ltO N l
theorem uB:∀{l:List (Option Nat)} {b k:Nat},ixO l b k=none->some b∉l
 |none::l,b,k,h,hm=>by
  rcases List.mem_cons.1 hm with hm|hm
  ·cases hm
  ·exact uB (l:=l) h hm
 |some i::l,b,k,h,hm=>by
  simp only [ixO] at h;split at h
  ·cases h
  ·rename_i hb;rcases List.mem_cons.1 hm with hm|hm
   ·cases hm;simp at hb
   ·exact uB h hm
 |[],_,_,_,hm=>by cases hm
theorem lM:∀{l:List (Option Nat)},oA l=true->∀{k k' i:Nat},l[k]?=some (some i)->l[k']?=some (some i)->k=k'
 |none::l,h,0,k',i,h1,h2=>by simp at h1
 |none::l,h,k+1,0,i,h1,h2=>by simp at h2
 |none::l,h,k+1,k'+1,i,h1,h2=>by
  have:=lM (l:=l) h (k:=k) (k':=k') (i:=i) (by simpa using h1) (by simpa using h2)
  rw [this]
 |some j::l,h,k,k',i,h1,h2=>by
  simp only [oA,Bool.and_eq_true] at h
  have hno:some j∉l:=by
   have:=h.1;split at this
   ·cases this
   ·rename_i hn;exact uB hn
  cases k with
  |zero=>
   simp at h1;subst h1
   cases k' with
   |zero=>rfl
   |succ k'=>exact absurd (List.mem_of_getElem? (by simpa using h2)) hno
  |succ k=>
   cases k' with
   |zero=>simp at h2;subst h2;exact absurd (List.mem_of_getElem? (by simpa using h1)) hno
   |succ k'=>
    have:=lM h.2 (k:=k) (k':=k') (i:=i) (by simpa using h1) (by simpa using h2)
    rw [this]
 |[],_,k,k',i,h1,_=>by simp at h1
theorem rq {n:Nat}:∀{l:List (Option Nat)} {c k i:Nat},AA n c l=true->l[k]?=some (some i)->c+k<n->i=c+k
 |none::l,c,0,i,h,h1,hlt=>by simp at h1
 |none::l,c,k+1,i,h,h1,hlt=>by
  have:=rq (l:=l) (c:=c+1) (k:=k) (i:=i) h (by simpa using h1) (by omega)
  omega
 |some j::l,c,k,i,h,h1,hlt=>by
  simp only [AA,Bool.and_eq_true,Bool.or_eq_true] at h
  cases k with
  |zero=>
   simp at h1;subst h1;rcases h.1 with h|h
   ·have:=Nat.le_of_ble_eq_true h;omega
   ·exact Nat.eq_of_beq_eq_true h
  |succ k=>
   have:=rq (c:=c+1) (k:=k) (i:=i) h.2 (by simpa using h1) (by omega)
   omega
 |[],c,k,i,_,h1,_=>by simp at h1
theorem qc {N:Nat}:∀{l:List (Option Nat)} {k i:Nat},ltO N l=true->l[k]?=some (some i)->i<N
 |none::l,0,i,h,h1=>by simp at h1
 |none::l,k+1,i,h,h1=>qc (l:=l) (k:=k) h (by simpa using h1)
 |some j::l,k,i,h,h1=>by
  simp only [ltO,Bool.and_eq_true] at h
  cases k with
  |zero=>simp at h1;subst h1;simpa [Nat.blt_eq] using h.1
  |succ k=>exact qc h.2 (by simpa using h1)
 |[],k,i,_,h1=>by simp at h1
def okO (p:Nat->Bool) (bs:List Box):List (Option Nat)->Bool
 |[]=>true
 |none::l=>okO p bs l
 |some i::l=>atB p (je bs i)&&okO p bs l
theorem pZ {p:Nat->Bool} {bs:List Box}:∀{l:List (Option Nat)} {k i:Nat},okO p bs l=true->l[k]?=some (some i)->atB p (je bs i)=true
 |none::l,0,i,h,h1=>by simp at h1
 |none::l,k+1,i,h,h1=>pZ (l:=l) (k:=k) h (by simpa using h1)
 |some j::l,k,i,h,h1=>by
  simp only [okO,Bool.and_eq_true] at h
  cases k with
  |zero=>simp at h1;subst h1;exact h.1
  |succ k=>exact pZ h.2 (by simpa using h1)
 |[],k,i,_,h1=>by simp at h1
theorem aB.lay (s:St) (is:List (Option Nat)) (h1:oA is=true) (h2:AA s.lo 0 is=true) (h3:ltO s.bs.length is=true) (h4:Nat.ble s.lo is.length=true) (he:atE (inO is) s.env=true) (hb:okO (inO is) s.bs is=true):
  aB s ⟨rnE (gZ is) s.env,iK (gZ is) s.bs is,s.lo⟩:=fun E G a w hs=>by
 obtain ⟨env,bs,lo⟩:=s;simp only at h2 h3 h4 he hb⊢;have h4:=Nat.le_of_ble_eq_true h4;have hlo:lo=E.nb:=hs.lo;have hcl:(iK (gZ is) bs is).length=is.length:=nC _ _ _
 have hcb:∀{k:Nat} {y:Box},(iK (gZ is) bs is)[k]?=some y->(is[k]?=some none∧y=.dead)∨∃i x,is[k]?=some (some i)∧bs[i]?=some x∧y=rnB (gZ is) x∧atB (inO is) x=true:=fun {k y} hy=>by
  rw [u7] at hy
  cases hk:is[k]? with
  |none=>rw [hk] at hy;cases hy
  |some o=>
   rw [hk] at hy
   cases o with
   |none=>simp at hy;exact .inl ⟨rfl,hy.symm⟩
   |some i=>
    have hlt:=qc h3 hk;have hx:bs[i]?=some bs[i]:=List.getElem?_eq_getElem hlt;have hat:=pZ hb hk;rw [kY hx] at hat;simp only [Option.map_some,Option.some.injEq,kY hx] at hy;exact .inr ⟨i,_,rfl,hx,hy.symm,hat⟩
 obtain ⟨G2,hG2⟩:∃G2:Gh,G2=⟨G.M,fun b=>match is[b]? with|some (some i)=>G.σ i|_=>G.σ b,fun p=>match p with|.sl t=>G.cl (.sl t)|.bx b j=>match is[b]? with|some (some i)=>G.cl (.bx i j)|_=>none⟩:=⟨_,rfl⟩;have hM:G2.M=G.M:=by rw [hG2]
 have hσ:∀{k i:Nat},is[k]?=some (some i)->G2.σ k=G.σ i:=fun {k i} hk=>by rw [hG2];simp only [hk]
 have hclS:∀t,G2.cl (.sl t)=G.cl (.sl t):=fun t=>by rw [hG2]
 have hclB:∀{k i:Nat} (j:Nat),is[k]?=some (some i)->G2.cl (.bx k j)=G.cl (.bx i j):=fun {k i} j hk=>by rw [hG2];simp only [hk]
 have hcl2:∀{p:Pl} {B:Nat},G2.cl p=some B->(∃t,p=.sl t∧G.cl (.sl t)=some B)∨∃k i j,p=.bx k j∧is[k]?=some (some i)∧G.cl (.bx i j)=some B:=fun {p B} hp=>by
  cases p with
  |sl t=>exact .inl ⟨t,rfl,by rw [←hclS];exact hp⟩
  |bx k j=>
   rw [hG2] at hp;simp only at hp;split at hp
   ·rename_i i hk;exact .inr ⟨k,i,j,rfl,hk,hp⟩
   ·cases hp
 have hcells:∀{k:Nat} {cs:List AV},aa (iK (gZ is) bs is) k=some cs->∃i ds,is[k]?=some (some i)∧aa bs i=some ds∧cs=ds.map (AV.rn (gZ is))∧∀c∈ds,c.atp (inO is)=true:=fun {k cs} hc=>by
  unfold aa at hc;split at hc
  ·rename_i y hy;rcases hcb hy with ⟨_,rfl⟩|⟨i,x,q1,q2,rfl,q4⟩
   ·cases hc
   ·rw [Cd _ q4] at hc
    cases hx:x.cs? with
    |none=>rw [hx] at hc;cases hc
    |some ds=>
     rw [hx] at hc;simp only [Option.map_some,Option.some.injEq] at hc;exact ⟨i,ds,q1,by simp only [aa,q2,hx],hc.symm,rQ q4 hx⟩
  ·cases hc
 have hloops:∀{k:Nat} {x:LB},ag (iK (gZ is) bs is) k=some x->∃i,is[k]?=some (some i)∧ag bs i=some x∧x.n=0∧∀M:Hp,x.M.le M:=fun {k x} hc=>by
  unfold ag at hc;split at hc
  ·rename_i y hy;rcases hcb hy with ⟨_,rfl⟩|⟨i,z,q1,q2,rfl,q4⟩
   ·cases hc
   ·rw [Cc] at hc;exact ⟨i,q1,by simp only [ag,q2,hc],C6 q4 hc⟩
  ·cases hc
 have hone:=fun {k k' i:Nat}=>lM h1 (k:=k) (k':=k') (i:=i)
 have toR:∀{x:AV} {v:Value},RV G.M G.σ bs.length x v->x.atp (inO is)=true->RV G2.M G2.σ (iK (gZ is) bs is).length (x.rn (gZ is)) v:=fun {x v} hx hp=>by
  rw [hM];refine hx.rn (fun b hb _=>?_) hp;unfold inO at hb
  cases hq:ixO is b 0 with
  |none=>rw [hq] at hb;cases hb
  |some k=>
   obtain ⟨_,q1⟩:=uz hq;rw [Nat.sub_zero] at q1;have hr:gZ is b=k:=by unfold gZ;rw [hq]
   rw [hr,hσ q1,hcl];exact ⟨rfl,(List.getElem?_eq_some_iff.1 q1).1⟩
 have hat:∀{p:Pl} {x:AV},(⟨rnE (gZ is) env,iK (gZ is) bs is,lo⟩:St).at p=some x->(∃t y,p=.sl t∧(⟨env,bs,lo⟩:St).at (.sl t)=some y∧x=y.rn (gZ is)∧y.atp (inO is)=true)∨(∃k i j y,p=.bx k j∧is[k]?=some (some i)∧(⟨env,bs,lo⟩:St).at (.bx i j)=some y∧x=y.rn (gZ is)∧y.atp (inO is)=true):=fun {p x} hp=>by
  cases p with
  |sl t=>
   simp only [St.at,Dt] at hp
   cases hq:ak env t with
   |none=>rw [hq] at hp;cases hp
   |some y=>
    rw [hq] at hp;simp only [Option.map_some,Option.some.injEq] at hp
    exact .inl ⟨t,y,rfl,hq,hp.symm,Ec he hq⟩
  |bx k j=>
   simp only [St.at] at hp
   cases hbk:aa (iK (gZ is) bs is) k with
   |none=>rw [hbk] at hp;cases hp
   |some cs=>
    obtain ⟨i,ds,q1,q2,q3,q4⟩:=hcells hbk;rw [hbk,q3] at hp;simp only [Option.bind_some,List.getElem?_map] at hp
    cases hj:ds[j]? with
    |none=>rw [hj] at hp;cases hp
    |some y=>
     rw [hj] at hp;simp only [Option.map_some,Option.some.injEq] at hp;exact .inr ⟨k,i,j,y,rfl,q1,by simp only [St.at,q2,Option.bind_some,hj],hp.symm,q4 y (List.mem_of_getElem? hj)⟩
 have hval:∀{k i:Nat} (j:Nat),is[k]?=some (some i)->al G2.σ a w (.bx k j)=al G.σ a w (.bx i j):=fun {k i} j hk=>by simp only [al,hσ hk]
 refine ⟨G2,by rw [hM];exact hs.fr,by rw [hM];exact hs.ok,hs.nt,fun p x hp=>?_,fun k j x hp=>?_,fun k cs hk=>?_,fun k cs hk=>?_,fun k k' cs cs' hk hk' e=>?_,fun p z l hp=>?_,fun p q B hp hq=>?_,fun p B hp k cs hk=>?_,fun p B hp=>?_,hs.lo,by show E.nb≤_;rw [hcl];omega,fun b hb=>?_,?_⟩
 ·rcases hat hp with ⟨t,y,rfl,q1,rfl,q2⟩|⟨k,i,j,y,rfl,q0,q1,rfl,q2⟩
  ·show RV G2.M G2.σ _ _ (al G2.σ a w (.sl t));rw [mQ];exact toR (hs.val _ _ q1) (by rw [k7];exact q2)
  ·show RV G2.M G2.σ _ _ (al G2.σ a w (.bx k j));rw [mQ,hval j q0];exact toR (hs.val _ _ q1) (by rw [k7];exact q2)
 ·rcases hat hp with ⟨t,y,e,_⟩|⟨k',i,j',y,e,q0,q1,rfl,q2⟩
  ·cases e
  ·cases e;rw [hval _ q0];exact hs.one _ _ _ q1
 ·obtain ⟨i,ds,q1,q2,rfl,_⟩:=hcells hk;rw [hσ q1,List.length_map];exact hs.box i ds q2
 ·obtain ⟨i,ds,q1,q2,rfl,_⟩:=hcells hk;rw [hσ q1,hM];exact hs.bmem i ds q2
 ·obtain ⟨i,ds,q1,q2,_,_⟩:=hcells hk;obtain ⟨i',ds',q1',q2',_,_⟩:=hcells hk';rw [hσ q1,hσ q1'] at e;have:=hs.inj i i' ds ds' q2 q2' e;subst this;exact hone q1 q1'
 ·rcases hat hp with ⟨t,y,rfl,q1,e,q2⟩|⟨k,i,j,y,rfl,q0,q1,e,q2⟩
  ·have hy:=tw e.symm;subst hy;obtain ⟨ad,kk,r1,r2,r3⟩:=hs.own _ _ _ q1;refine ⟨ad,kk,r1,r2,?_⟩;rcases r3 with r3|⟨B,hB,r4,r5⟩
   ·exact .inl r3
   ·exact .inr ⟨B,by rw [hclS];exact hB,r4,r5.lt,r5.cells,by rw [hM];exact r5.free,r5.mine⟩
  ·have hy:=tw e.symm;subst hy;obtain ⟨ad,kk,r1,r2,r3⟩:=hs.own _ _ _ q1;refine ⟨ad,kk,by rw [hval j q0];exact r1,r2,?_⟩
   rcases r3 with r3|⟨B,hB,r4,r5⟩
   ·exact .inl r3
   ·exact .inr ⟨B,by rw [hclB j q0];exact hB,r4,r5.lt,r5.cells,by rw [hM];exact r5.free,r5.mine⟩
 ·rcases hcl2 hp with ⟨t,rfl,q1⟩|⟨k,i,j,rfl,q0,q1⟩<;>rcases hcl2 hq with ⟨t',rfl,q1'⟩|⟨k',i',j',rfl,q0',q1'⟩
  ·exact hs.clinj _ _ B q1 q1'
  ·have:=hs.clinj _ _ B q1 q1';cases this
  ·have:=hs.clinj _ _ B q1 q1';cases this
  ·have:=hs.clinj _ _ B q1 q1';cases this;have:=hone q0 q0';subst this;rfl
 ·obtain ⟨i,ds,q1,q2,_,_⟩:=hcells hk;rw [hσ q1];rcases hcl2 hp with ⟨t,rfl,q⟩|⟨k',i',j,rfl,q0,q⟩
  ·exact hs.clbox _ B q i ds q2
  ·exact hs.clbox _ B q i ds q2
 ·rcases hcl2 hp with ⟨t,rfl,q⟩|⟨k',i',j,rfl,q0,q⟩
  ·exact hs.cllt _ B q
  ·exact hs.cllt _ B q
 ·have hlt:b<is.length:=by omega
  have hsg:=hs.sig b hb;rw [hG2];simp only
  cases hk:is[b]? with
  |none=>exact hsg
  |some o=>
   cases o with
   |none=>exact hsg
   |some i=>
    have:=rq h2 hk (by omega)
    rw [Nat.zero_add] at this;subst this;exact hsg
 ·refine ⟨fun B o hsp=>?_,fun k x hk=>?_,fun k k' x x' hk hk' e=>?_,hs.sp.ds⟩
  ·rcases hsp with ⟨k,x,hk,e,ho⟩|hm
   ·obtain ⟨i,q1,q2,_,_⟩:=hloops hk;rw [hσ q1] at e;obtain ⟨r1,r2,r3⟩:=hs.sp.ob B o (.inl ⟨i,x,q2,e,ho⟩);refine ⟨r1,fun p hp=>?_,r3⟩;rcases hcl2 hp with ⟨t,rfl,q⟩|⟨k',i',j,rfl,q0,q⟩<;>exact r2 _ q
   ·obtain ⟨r1,r2,r3⟩:=hs.sp.ob B o (.inr hm);refine ⟨r1,fun p hp=>?_,r3⟩;rcases hcl2 hp with ⟨t,rfl,q⟩|⟨k',i',j,rfl,q0,q⟩<;>exact r2 _ q
  ·obtain ⟨i,q1,q2,q3,q4⟩:=hloops hk;exact ⟨q4 _,by omega,fun c hc=>by omega⟩
  ·obtain ⟨i,q1,q2,_,_⟩:=hloops hk;obtain ⟨i',q1',q2',_,_⟩:=hloops hk';rw [hσ q1,hσ q1'] at e;have:=hs.sp.inj i i' x x' q2 q2' e;subst this;exact hone q1 q1'
theorem GJ {p:Nat->Bool} {bs:List Box} {i:Nat} {l:List (Option Nat)} (h:atB p (je bs i)=true) (k:okO p bs l=true):okO p bs (some i::l)=true:=by simp only [okO,h,k,Bool.and_self]
theorem ta {α:Type} {f:α->AV} {z:Nat} (hp:Plain f z) {p:Nat->Bool} (k:Nat) (l:List α):atB p (aL f z k l)=true:=by
 simp only [aL,atB,List.all_eq_true];intro c hc;rcases List.mem_append.1 hc with hc|hc
 ·exact (hp.mem hc).2
 ·rw [(List.mem_replicate.1 hc).2];rfl
theorem Fz {p:Nat->Bool} {x:Box} {l:List Box} (h:atB p x=true) (k:wJ p l=true):wJ p (x::l)=true:=by simp only [wJ,h,k,Bool.and_self]
theorem ah.lay {s t:St} (is:List (Option Nat)) (hb:okO (inO is) s.bs is=true) (h:(⟨rnE (gZ is) s.env,iK (gZ is) s.bs is,s.lo⟩:St).fo true fun s'=>ah s' t) (h1:oA is=true:=by rfl) (h2:AA s.lo 0 is=true:=by rfl) (h3:ltO s.bs.length is=true:=by rfl) (h4:Nat.ble s.lo is.length=true:=by rfl) (he:atE (inO is) s.env=true:=by rfl):ah s t:=by
 rw [St.c9] at h;exact ⟨(aB.lay s is h1 h2 h3 h4 he hb).trans h.out⟩
theorem af.lay {s:St} {rs:List cm} {Q:AV->List Box->Prop} (is:List (Option Nat)) (hb:okO (inO is) s.bs is=true) (h:(⟨rnE (gZ is) s.env,iK (gZ is) s.bs is,s.lo⟩:St).fo true fun s'=>af s' rs Q) (h1:oA is=true:=by rfl) (h2:AA s.lo 0 is=true:=by rfl) (h3:ltO s.bs.length is=true:=by rfl) (h4:Nat.ble s.lo is.length=true:=by rfl) (he:atE (inO is) s.env=true:=by rfl):af s rs Q:=by
 rw [St.c9] at h;obtain ⟨s',q1,q2⟩:=h.out;exact ⟨s',(aB.lay s is h1 h2 h3 h4 he hb).trans q1,q2⟩
theorem af.wk {s s':St} {rs:List cm} {Q:AV->List Box->Prop} (hw:aB s s') (h:af s' rs Q):af s rs Q:=by
 obtain ⟨s2,q1,q2⟩:=h.out;exact ⟨s2,hw.trans q1,q2⟩
theorem ab.at {P:Program} {f:FuncId} {vals raw vals0:List AV} {bs bs0:List Box} {Q:AV->List Box->Prop} {K:AV->List Box->Prop} (is:List Nat) (h:Sem P f vals0 bs0 Q) (hv0:raw.map (AV.rn (rho is))=vals0) (hb0:cut is bs is=bs0)
  (hQ:∀r bs',Q r bs'->Nat.ble is.length bs'.length=true∧r.atp (fun b=>decide (b<bs'.length))=true∧wJ (fun b=>decide (b<bs'.length)) bs'=true)
  (hb:okO (sT is) bs (is.map some)=true) (hK:∀r bs',Q r bs'->K (r.rn (pie is bs.length)) (back is bs bs'))
  (hnd:oA (is.map some)=true:=by rfl) (hin:ltO bs.length (is.map some)=true:=by rfl) (hv:raw.all (AV.atp (sT is))=true:=by rfl):ab P f vals raw bs K:=by
 subst hv0 hb0;have hget:∀{k i:Nat},is[k]?=some i->(is.map some)[k]?=some (some i):=fun {k i} h=>by rw [List.getElem?_map,h];rfl
 refine .raw (Sem.ren is ?_ (fun i hi=>?_) (by simpa using hv) (fun i hi=>?_) (h.mono fun r bs' hq=>⟨?_,hq⟩)) ?_
 ·refine List.pairwise_iff_getElem.2 fun i j hi hj hij e=>?_;have:=lM hnd (hget (List.getElem?_eq_getElem hi)) (hget (k:=j) (i:=is[i]) (by rw [List.getElem?_eq_getElem hj,e]))
  omega
 ·obtain ⟨k,hk⟩:=List.getElem?_of_mem hi;exact qc hin (hget hk)
 ·obtain ⟨k,hk⟩:=List.getElem?_of_mem hi;exact pZ hb (hget hk)
 ·obtain ⟨q1,q2,q3⟩:=hQ r bs' hq;exact ⟨Nat.le_of_ble_eq_true q1,q2,q3⟩
 ·rintro r bs' ⟨r0,bs2,hq,rfl,rfl⟩;exact hK r0 bs2 hq
section
variable {α:Type} {f:α->AV} {z:Nat}
theorem oS (hp:Plain f z) {bs:List Box} {b k i:Nat} {l:List α} {x:α} (hb:bs[b]?=some (aL f z k l)) (hx:l[i]?=some x):aa bs b=some (cellsOf (l.map f)++List.replicate ((k-l.length)*z) AV.top):=by
 refine cr (eT hb) fun e=>?_;have:=congrArg List.length e;rw [List.length_append,hp.len,List.length_nil] at this;have hi:=(List.getElem?_eq_some_iff.1 hx).1;have:=hp.pos;have h2:0<l.length*z:=Nat.mul_pos (by omega) hp.pos
 omega
theorem mP (hp:Plain f z) {k i off:Nat} {l:List α} {x:α} (hx:l[i]?=some x) (ho:off<z):(cellsOf (l.map f)++List.replicate ((k-l.length)*z) AV.top)[i*z+off]?=(f x).cells[off]?:=by
 obtain ⟨hi,rfl⟩:=List.getElem?_eq_some_iff.1 hx
 have hlt:i*z+off<(cellsOf (l.map f)).length:=by
  rw [hp.len];have:(i+1)*z≤l.length*z:=Nat.mul_le_mul_right _ hi;rw [Nat.add_mul,Nat.one_mul] at this;omega
 rw [List.getElem?_append_left hlt,jb (z:=z) (fun y hy=>by obtain ⟨x,_,rfl⟩:=List.mem_map.1 hy;exact hp.sz x) i (by simpa using hi) off ho]
 simp
theorem ElN.cell (hp:Plain f z) {e:List (Nat×AV)} {bs:List Box} {lo b k i off:Nat} {l:List α} {x:α} {c:AV} {K:AV->Prop} (hb:bs[b]?=some (aL f z k l)) (hx:l[i]?=some x) (hc:(f x).cells[off]?=some c) (h:K c):ElN false 1 ⟨e,bs,lo⟩ (.elp b i z off) K:=by
 refine ⟨?_⟩;have ho:off<z:=by rw [←hp.sz x];exact (List.getElem?_eq_some_iff.1 hc).1
 have hg:=(mP (k:=k) hp hx ho).trans hc;obtain ⟨hlt,he⟩:=List.getElem?_eq_some_iff.1 hg;simp only [St.rd,oS hp hb hx];rw [List.drop_eq_getElem_cons hlt,he];simp only [List.map_cons,bM,hp.de x c (List.mem_of_getElem? hc)];cases c<;>first|exact h|skip
theorem ElN.elem (hp:Plain f z) {e:List (Nat×AV)} {bs:List Box} {lo b k i:Nat} {l:List α} {x:α} {K:AV->Prop} (hb:bs[b]?=some (aL f z k l)) (hx:l[i]?=some x) (h:K (.agg (f x).cells)):ElN true z ⟨e,bs,lo⟩ (.elp b i z 0) K:=by
 refine ⟨?_⟩;simp only [St.rd,oS hp hb hx,Nat.add_zero];have hi:=(List.getElem?_eq_some_iff.1 hx).1
 have hlen:i*z+z≤(cellsOf (l.map f)++List.replicate ((k-l.length)*z) AV.top).length:=by
  rw [List.length_append,hp.len];have:(i+1)*z≤l.length*z:=Nat.mul_le_mul_right _ hi;rw [Nat.add_mul,Nat.one_mul] at this;omega
 simp only [bM];refine ae.2 ⟨by rw [Nat.ble_eq];simp only [List.length_map,List.length_drop];omega,?_⟩
 have e2:(((cellsOf (l.map f)++List.replicate ((k-l.length)*z) AV.top).drop (i*z)).map AV.aF).take z=(f x).cells:=by
  apply List.ext_getElem?;intro j
  by_cases hj:j<z
  ·rw [List.getElem?_take_of_lt hj,List.getElem?_map,List.getElem?_drop,mP hp hx hj]
   cases hc:(f x).cells[j]? with
   |none=>rfl
   |some c=>simp only [Option.map_some];rw [hp.de x c (List.mem_of_getElem? hc)]
  ·rw [List.getElem?_eq_none (by simp;omega),List.getElem?_eq_none (by rw [hp.sz];omega)]
 rw [e2];exact h
theorem EsN.elem (hp:Plain f z) (hk:∀x,aV (f x)=true) {e:List (Nat×AV)} {bs:List Box} {lo b k i:Nat} {l:List α} {x y:α} {v:AV} {K:St->Prop} (hb:bs[b]?=some (aL f z k l)) (hx:l[i]?=some x) (hv:v=f y) (h:K ⟨e,bs.set b (aL f z k (l.set i y)),lo⟩):EsN z ⟨e,bs,lo⟩ b i z 0 v K:=by
 subst hv;refine ⟨?_⟩;simp only [lp,oS hp hb hx,Nat.add_zero];have hi:=(List.getElem?_eq_some_iff.1 hx).1;have hmul:(i+1)*z≤l.length*z:=Nat.mul_le_mul_right _ hi;rw [Nat.add_mul,Nat.one_mul] at hmul;refine ⟨⟨hk y,hp.sz y,hp.pos,by rw [List.length_append,hp.len];omega⟩,?_⟩
 have he:setAt (cellsOf (l.map f)++List.replicate ((k-l.length)*z) AV.top) (i*z) (f y).cells=cellsOf ((l.set i y).map f)++List.replicate ((k-(l.set i y).length)*z) AV.top:=by
  apply List.ext_getElem?;intro j;rw [nV];have hl1:(cellsOf (l.map f)++List.replicate ((k-l.length)*z) AV.top).length=l.length*z+(k-l.length)*z:=by rw [List.length_append,hp.len,List.length_replicate]
  have hl2:(cellsOf ((l.set i y).map f)).length=l.length*z:=by rw [hp.len,List.length_set]
  have hl3:(cellsOf (l.map f)).length=l.length*z:=hp.len l;have hset:(l.set i y)[i]?=some y:=by simp [hi]
  by_cases hj:j<l.length*z
  ·have hq:j/z<l.length:=(Nat.div_lt_iff_lt_mul hp.pos).2 hj;have hr:j %z<z:=Nat.mod_lt _ hp.pos;have hjj:j/z*z+j %z=j:=by have:=Nat.div_add_mod j z;rw [Nat.mul_comm] at this;exact this
   by_cases hij:j/z=i
   ·have hc1:i*z≤j∧j<i*z+(f y).cells.length∧j<(cellsOf (l.map f)++List.replicate ((k-l.length)*z) AV.top).length:=by
     rw [hp.sz,hl1];rw [hij] at hjj;omega
    rw [if_pos hc1];have:=mP (k:=k) (off:=j %z) hp hset hr;rw [←hij,hjj] at this;rw [hij] at this;rw [this];congr 1;rw [hij] at hjj;omega
   ·have hc1:¬(i*z≤j∧j<i*z+(f y).cells.length∧j<(cellsOf (l.map f)++List.replicate ((k-l.length)*z) AV.top).length):=by
     rintro ⟨q1,q2,_⟩;rw [hp.sz] at q2;apply hij;refine Nat.div_eq_of_lt_le q1 ?_;rw [Nat.add_mul,Nat.one_mul];exact q2
    rw [if_neg hc1];have hx2:l[j/z]?=some l[j/z]:=List.getElem?_eq_getElem hq;have hx3:(l.set i y)[j/z]?=some l[j/z]:=by rw [List.getElem?_set_ne (fun e=>hij e.symm)];exact hx2
    have q1:=mP (k:=k) hp hx2 hr;have q2:=mP (k:=k) hp hx3 hr;rw [hjj] at q1 q2;rw [q1,q2]
  ·have hc1:¬(i*z≤j∧j<i*z+(f y).cells.length∧j<(cellsOf (l.map f)++List.replicate ((k-l.length)*z) AV.top).length):=by
    rintro ⟨q1,q2,_⟩;rw [hp.sz] at q2;omega
   rw [if_neg hc1,List.getElem?_append_right (by omega),List.getElem?_append_right (by omega),hl2,hl3,List.length_set]
 rw [he];exact h
theorem Js.one (hp:Plain f z) (hk:∀x,aV (f x)=true∧(f x).flat=true) {e:List (Nat×AV)} {bs:List Box} {lo:Nat} {x:α} {v:AV} {K:AV->St->Prop} (hv:v=f x) (h:K (.bsl bs.length 1 1) ⟨e,bs++[aL f z 1 [x]],lo⟩):Js z [v] ⟨e,bs,lo⟩ K:=by
 subst hv;refine ⟨⟨hp.pos,fun v hv=>?_⟩,?_⟩
 ·rw [List.mem_singleton] at hv;subst hv;exact ⟨hk x,hp.sz x⟩
 ·simpa [aL] using h
end
theorem JX {α:Type} {f:α->AV} {z:Nat} (hp:Plain f z) {l:List α} {q j:Nat} {hj:j<(cellsOf (l.map f)++List.replicate q AV.top).length}:((cellsOf (l.map f)++List.replicate q AV.top)[j]).aF=(cellsOf (l.map f)++List.replicate q AV.top)[j]:=by
 rcases List.mem_append.1 (List.getElem_mem hj) with h|h
 ·exact (hp.mem h).1
 ·rw [(List.mem_replicate.1 h).2];rfl
theorem sB:∀(a b:List AV),cellsOf (a++b)=cellsOf a++cellsOf b
 |[],b=>rfl
 |x::a,b=>by simp only [List.cons_append,cellsOf,sB a b,List.append_assoc]
theorem aB.oT {α:Type} {f:α->AV} {z:Nat} (hp:Plain f z) (s:St) (b n:Nat) {k:Nat} {l:List α} (hb:s.bs[b]?=some (aL f z k l)) (hn:n≤l.length) (hk:0<k):aB s ⟨s.env,s.bs.set b (aL f z k (l.take n)),s.lo⟩:=fun E G a w hs=>by
 have hz:=hp.pos;have hl1:(cellsOf (l.map f)).length=l.length*z:=hp.len l;have hl2:(cellsOf ((l.take n).map f)).length=n*z:=by rw [hp.len,List.length_take,Nat.min_eq_left hn]
 have hne:cellsOf (l.map f)++List.replicate ((k-l.length)*z) .top≠[]:=fun e=>by
  have:=congrArg List.length e;rw [List.length_append,hl1,List.length_replicate,←Nat.add_mul,List.length_nil] at this;have h2:0<(l.length+(k-l.length))*z:=Nat.mul_pos (by omega) hz
  omega
 have hbc:aa s.bs b=some (cellsOf (l.map f)++List.replicate ((k-l.length)*z) .top):=cr (eT hb) hne;obtain ⟨vs,T,hc,hvl⟩:=hs.box b _ hbc;have hlen':(n+(k-n))*z≤(l.length+(k-l.length))*z:=Nat.mul_le_mul_right _ (by omega)
 rw [Nat.add_mul,Nat.add_mul] at hlen';have hlt:(l.take n).length=n:=by rw [List.length_take,Nat.min_eq_left hn]
 refine ⟨G,hs.Is (w':=w) (vs':=vs) (T:=T) hbc hc ?_ ?_ rfl rfl rfl (Nat.le_refl _) (fun _ _ _=>rfl) fun j hj v hv=>?_⟩
 ·rw [List.length_append,hl2,List.length_replicate,hlt];rw [List.length_append,hl1,List.length_replicate] at hvl;omega
 ·intro e;have:=congrArg List.length e;rw [List.length_append,hl2,List.length_replicate,hlt,←Nat.add_mul,List.length_nil] at this;have h2:0<(n+(k-n))*z:=Nat.mul_pos (by omega) hz
  omega
 ·rw [List.length_append,hl2,List.length_replicate,hlt] at hj;have hj2:j<(cellsOf (l.map f)++List.replicate ((k-l.length)*z) AV.top).length:=by rw [List.length_append,hl1,List.length_replicate];omega
  have hat:s.at (.bx b j)=some ((cellsOf (l.map f)++List.replicate ((k-l.length)*z) AV.top)[j]):=by
   simp only [St.at,hbc,Option.bind_some];exact List.getElem?_eq_getElem hj2
  have hvv:al G.σ a w (.bx b j)=v:=by
   have hjs:j<vs.size:=by omega
   simp only [al,World.cell?,hc];rw [Array.getElem?_eq_getElem hjs] at hv;cases hv;simp [hjs]
  have h1:=hs.one _ _ _ hat;have h2:=hs.val _ _ hat;rw [hvv] at h1 h2;refine ⟨h1,?_⟩
  by_cases hjn:j<n*z
  ·have e:(cellsOf ((l.take n).map f)++List.replicate ((k-(l.take n).length)*z) AV.top)[j]'(by rw [List.length_append,hl2,List.length_replicate,hlt];exact hj)=(cellsOf (l.map f)++List.replicate ((k-l.length)*z) AV.top)[j]:=by
    rw [List.getElem_append_left (by omega),List.getElem_append_left (by have:=Nat.mul_le_mul_right z hn;omega)]
    have:cellsOf (l.map f)=cellsOf ((l.take n).map f)++cellsOf ((l.drop n).map f):=by rw [←sB,←List.map_append,List.take_append_drop]
    simp only [this];rw [List.getElem_append_left (by omega)]
   rw [e];rw [JX hp] at h2;exact h2
  ·have e:(cellsOf ((l.take n).map f)++List.replicate ((k-(l.take n).length)*z) AV.top)[j]'(by rw [List.length_append,hl2,List.length_replicate,hlt];exact hj)=.top:=by
    rw [List.getElem_append_right (by omega),List.getElem_replicate]
   rw [e];exact .flat (.top v)
theorem ah.oT {α:Type} {f:α->AV} {z:Nat} (hp:Plain f z) {s t:St} (b n:Nat) {k:Nat} {l:List α} (hb:s.bs[b]?=some (aL f z k l)) (hn:n≤l.length) (hk:0<k) (h:ah ⟨s.env,s.bs.set b (aL f z k (l.take n)),s.lo⟩ t):ah s t:=⟨(aB.oT hp s b n hb hn hk).trans h.out⟩
theorem ah.bY {α:Type} {f:α->AV} {z:Nat} (hp:Plain f z) {s t:St} (c i:Nat) {cs:List AV} {b m k k0:Nat} {l:List α} (h0:s.bs[c]?=some (.cells cs)) (hi:cs[i]?=some (.bsl b m k)) (hb:s.bs[b]?=some (aL f z k0 l)) (hm:m≤l.length) (h:ah ⟨s.env,(s.bs.set b .dead).set c (.cells (cs.set i (.sl .no ((l.take m).map f)))),s.lo⟩ t):ah s t:=⟨(aB.bY hp s c i h0 hi hb hm).trans h.out⟩
theorem fE.done {b:Nat} {n:Int} {s:St} {rs:List cm} {Q:AV->List Box->Prop} {l:List (Int×AV×Nat)} {c:Nat} (hb:s.bs[b]?=some (.mq l c)) (h:oU ⟨s.env,s.bs.set b (.mq (qS l n) c),s.lo⟩ rs fun r b=>fv (o5 r) fun x=>Q x b):fE b n s rs Q:=⟨⟨s,aB.refl s,l,c,hb,qD (fun r b q=>.inr (by rwa [xK] at q)) h⟩⟩
theorem fE.wk {b:Nat} {n:Int} {s s':St} {rs:List cm} {Q:AV->List Box->Prop} (hw:aB s s') (h:fE b n s' rs Q):fE b n s rs Q:=by
 obtain ⟨⟨s2,q1,q2⟩⟩:=h;exact ⟨⟨s2,hw.trans q1,q2⟩⟩
theorem fE.lay {b:Nat} {n:Int} {s:St} {rs:List cm} {Q:AV->List Box->Prop} (is:List (Option Nat)) (hb:okO (inO is) s.bs is=true) (h:(⟨rnE (gZ is) s.env,iK (gZ is) s.bs is,s.lo⟩:St).fo true fun s'=>fE b n s' rs Q) (h1:oA is=true:=by rfl) (h2:AA s.lo 0 is=true:=by rfl) (h3:ltO s.bs.length is=true:=by rfl) (h4:Nat.ble s.lo is.length=true:=by rfl) (he:atE (inO is) s.env=true:=by rfl):fE b n s rs Q:=by
 rw [St.c9] at h;exact fE.wk (aB.lay s is h1 h2 h3 h4 he hb) h
def qB (l:List (Int×Nat)):List (Int×AV×Nat):=l.map fun e=>(e.1,.bool true,e.2)
theorem yH:∀(l:List (Int×Nat)) (n:Int),Cg (qB l) n=if n∈l.map (·.1) then some (.bool true) else none
 |[],n=>rfl
 |(k,c)::l,n=>by
  have:=yH l n;simp only [qB] at this;simp only [qB,List.map_cons,Cg,List.mem_cons]
  by_cases h:n=k
  ·rw [if_pos h,if_pos (.inl h)]
  ·rw [if_neg h,this]
   by_cases h2:n∈l.map (·.1)
   ·rw [if_pos h2,if_pos (.inr h2)]
   ·rw [if_neg h2,if_neg (fun e=>e.elim h h2)]
theorem pR:∀(l:List (Int×Nat)) (n:Int) (c:Nat),n∉l.map (·.1)->oY (qB l) n (.bool true) c=qB (l++[(n,c)])
 |[],n,c,_=>rfl
 |(k,b)::l,n,c,h=>by
  simp only [List.map_cons,List.mem_cons,not_or] at h;have:=pR l n c h.2;simp only [qB] at this;simp only [qB,List.map_cons,List.cons_append,oY,if_neg h.1,this]
theorem sZ:∀(l:List (Int×Nat)) (n:Int) (c:Nat),n∉l.map (·.1)->qS (qB (l++[(n,c)])) n=qB l
 |[],n,c,_=>by simp [qB,qS]
 |(k,b)::l,n,c,h=>by
  simp only [List.map_cons,List.mem_cons,not_or] at h;have:=sZ l n c h.2;simp only [qB] at this;simp only [qB,List.map_cons,List.cons_append,qS,if_neg h.1,this]
theorem MqN.yes {l:List (Int×Nat)} {n:Int} {ok:Bool} {z:AV} {K:AV->Prop} (hn:n∈l.map (·.1)) (h:K (okR ok (.bool true) true)):MqN (qB l) n ok z K:=⟨by rw [yH,if_pos hn];exact ⟨rfl,h⟩⟩
theorem MqN.no {l:List (Int×Nat)} {n:Int} {ok:Bool} {z:AV} {K:AV->Prop} (hn:n∉l.map (·.1)) (h:K (okR ok z false)):MqN (qB l) n ok z K:=⟨by rw [yH,if_neg hn];exact h⟩
theorem aB.JO (s:St) (b:Nat) (hb:s.bs[b]?=some (.mp [])):aB s ⟨s.env,s.bs.set b (.mq [] 0),s.lo⟩:=fun E G a w h=>by
 have hlt:=(List.getElem?_eq_some_iff.1 hb).1;refine ⟨G,h.qC (fun c=>?_) (fun c=>?_) (by simp)⟩
 ·simp only [aa,List.getElem?_set]
  by_cases e:b=c
  ·subst e;simp only [if_true,hlt,hb];rfl
  ·rw [if_neg e]
 ·simp only [ag,List.getElem?_set]
  by_cases e:b=c
  ·subst e;simp only [if_true,hlt,hb];rfl
  ·rw [if_neg e]
theorem ah.JO {s t:St} (b:Nat) (hb:s.bs[b]?=some (.mp [])) (h:ah ⟨s.env,s.bs.set b (.mq [] 0),s.lo⟩ t):ah s t:=⟨(aB.JO s b hb).trans h.out⟩
theorem iS {b:ByteArray} {n:Int} {K:Int->Prop} {y:UInt8} (k:K y.toNat) (h:b[n.toNat]?=some y:=by assumption) (h0:0≤n:=by omega):Ei b n K:=⟨y,⟨h0,h⟩,k⟩
theorem gIs {b:ByteArray} {n:Int} {K:Int->Prop} (h:Ei b n K):Ei b n K:=h
theorem oko {p:Prop} (h:p:=by repeat' (first|exact rfl|exact ta mW _ _|exact ta ff _ _|exact ta bp _ _|exact ta ef _ _|refine GJ ?_ ?_|refine okO_none ?_|refine Fz ?_ ?_)):p:=h
theorem ab.ate {P:Program} {f:FuncId} {vals raw vals0:List AV} {bs bs0:List Box} {v:AV} {b:List Box} {K:AV->List Box->Prop} (is:List Nat) (h:Sem P f vals0 bs0 fun r bs'=>r=v∧bs'=b) (hv0:raw.map (AV.rn (rho is))=vals0) (hb0:cut is bs is=bs0) (hK:K (v.rn (pie is bs.length)) (back is bs b))
  (hQ1:Nat.ble is.length b.length=true:=by rfl) (hQ2:v.atp (fun k=>decide (k<b.length))=true:=by rfl) (hQ3:wJ (fun k=>decide (k<b.length)) b=true:=by exact oko) (hb:okO (sT is) bs (is.map some)=true:=by exact oko)
  (hnd:oA (is.map some)=true:=by rfl) (hin:ltO bs.length (is.map some)=true:=by rfl) (hv:raw.all (AV.atp (sT is))=true:=by rfl):ab P f vals raw bs K:=by
 refine ab.at is h hv0 hb0 ?_ hb ?_ hnd hin hv
 ·rintro r bs' ⟨rfl,rfl⟩;exact ⟨hQ1,hQ2,hQ3⟩
 ·rintro r bs' ⟨rfl,rfl⟩;exact hK
end Go.AM
namespace Go.CK
theorem IK {α:Type} {p:α->Bool} {l:List α} {j:Nat} {x:α} (h1:∀i x,i<j->l[i]?=some x->p x=false) (hx:l[j]?=some x) (h:p x=false):∀i x,i<j+1->l[i]?=some x->p x=false:=fun i y hi hy=>by
 by_cases e:i=j
 ·subst e;rw [hx] at hy;cases hy;exact h
 ·exact h1 i y (by omega) hy
theorem IJ {α:Type} {p:α->Bool} {l:List α}:∀i x,i<0->l[i]?=some x->p x=false:=fun i _ hi=>by omega
theorem KL {α:Type} {p:α->Bool} {l:List α} (h1:∀i x,i<l.length->l[i]?=some x->p x=false):l.any p=false:=by
 rw [List.any_eq_false];intro x hx;obtain ⟨i,hi,rfl⟩:=List.getElem_of_mem hx;rw [h1 i _ hi (List.getElem?_eq_getElem hi)];decide
theorem KM {α:Type} {p:α->Bool} {l:List α} {j:Nat} {x:α} (hx:l[j]?=some x) (h:p x=true):l.any p=true:=List.any_eq_true.2 ⟨x,List.mem_of_getElem? hx,h⟩
def e8 (x y:Int):Int:=if x<y then-1 else if y<x then 1 else 0
def qq (x y:ByteArray):Int:=if Op.bytesLess x.toList y.toList=true then-1 else if x=y then 0 else 1
def orI (a b:Int):Int:=if a=0 then b else a
theorem JA (b:Int):orI 0 b=b:=rfl
theorem GB {a:Int} (h:¬a=0) (b:Int):orI a b=a:=if_neg h
theorem xW (x:Int):e8 x x=0:=by simp [e8]
theorem fz:∀l:List UInt8,Op.bytesLess l l=false
 |[]=>rfl
 |x::l=>by simp [Op.bytesLess,fz l]
theorem Fi (x:ByteArray):qq x x=0:=by simp [qq,fz]
theorem KB {x y:Int}:e8 x y=0↔x=y:=by unfold e8;split<;>rename_i h<;>first|(split<;>omega)|omega
def iP (k:Int):Int:=if k=1 then 0 else if k=0 then 1 else if k=2 then 2 else 3
mutual
def Tm.cmp:Tm->Tm->Int
 |.mk k n s l,b=>
  orI (e8 (iP k) (iP b.kind)) (if iP k=0∨iP k=1 then e8 n b.num else if iP k=2 then orI (e8 l.length b.args.length) (orI (qq s b.name) (Tm.nD l b.args)) else orI (e8 k b.kind) (orI (e8 n b.num) (qq s b.name)))
def Tm.nD:List Tm->List Tm->Int
 |[],m=>e8 0 m.length
 |x::l,m=>match m with
  |[]=>1
  |y::m=>orI (Tm.cmp x y) (Tm.nD l m)
end
theorem Tm.cmp_eq (a b:Tm):a.cmp b=orI (e8 (iP a.kind) (iP b.kind)) (if iP a.kind=0∨iP a.kind=1 then e8 a.num b.num else if iP a.kind=2 then orI (e8 a.args.length b.args.length) (orI (qq a.name b.name) (Tm.nD a.args b.args)) else orI (e8 a.kind b.kind) (orI (e8 a.num b.num) (qq a.name b.name))):=by
 obtain ⟨k,n,s,l⟩:=a;rw [Tm.cmp];rfl
theorem oi {l m:List Tm} {j:Nat} {x y:Tm} (hx:l[j]?=some x) (hy:m[j]?=some y):Tm.nD (l.drop j) (m.drop j)=orI (x.cmp y) (Tm.nD (l.drop (j+1)) (m.drop (j+1))):=by
 obtain ⟨h1,rfl⟩:=List.getElem?_eq_some_iff.1 hx;obtain ⟨h2,rfl⟩:=List.getElem?_eq_some_iff.1 hy;rw [List.drop_eq_getElem_cons h1,List.drop_eq_getElem_cons h2,Tm.nD]
theorem vc {l m:List Tm} {j:Nat} (h1:j≤l.length) (h2:j≤m.length) (h:j=l.length∨j=m.length):Tm.nD (l.drop j) (m.drop j)=e8 l.length m.length:=by
 rcases Nat.lt_or_ge j l.length with h3|h3
 ·have:j=m.length:=by omega
  subst this;rw [List.drop_eq_getElem_cons h3,List.drop_length,Tm.nD,e8,if_neg (by omega),if_pos (by omega)]
 ·have:j=l.length:=by omega
  subst this;rw [List.drop_length,Tm.nD,List.length_drop];unfold e8;split<;>split<;>first|rfl|omega|(split<;>first|rfl|omega)
theorem Tm.HD (t:Tm):t.cmp t=0:=by
 induction t using Tm.bD with
 |h k n s l ih=>
  have hl:∀r:List Tm,(∀t∈r,t.cmp t=0)->Tm.nD r r=0:=fun r=>by
   induction r with
   |nil=>intro _;rfl
   |cons t r ihr=>intro h;rw [Tm.nD,h t (by simp),JA];exact ihr fun x hx=>h x (by simp [hx])
  rw [Tm.cmp];simp only [Tm.kind,Tm.num,Tm.name,Tm.args,xW,Fi,JA,hl l ih];split<;>first|rfl|(split<;>rfl)
end Go.CK
namespace Go.Proofs
open Go.Shelf
def Tryz.laysSort_ren:Go.Shelf.Ren:=⟨fun|189=>173|125=>182|257=>181|128=>194|129=>195|294=>185|295=>186|296=>187|297=>188|298=>189|299=>190|216=>191|300=>192|301=>193|328=>200|329=>201|330=>202|331=>203|332=>204|215=>157|343=>207|n=>n,fun|28=>30|3=>3|46=>172|0=>0|51=>182|53=>184|4=>4|183=>176|182=>175|131=>137|5=>5|9=>9|218=>186|222=>190|228=>194|229=>195|n=>n,fun|n=>n⟩
theorem Tryz.AH:Go.Proofs.Lays.n189 Tryz.prog Tryz.laysSort_ren:={
 mixed:=by kernel_rfl,
 f125:=Tryz.func182.trans (congrArg some (by kernel_rfl)),
 f128:=Tryz.func194.trans (congrArg some (by kernel_rfl)),
 f129:=Tryz.func195.trans (congrArg some (by kernel_rfl)),
 f189:=Tryz.func173.trans (congrArg some (by kernel_rfl)),
 f215:=Tryz.func157.trans (congrArg some (by kernel_rfl)),
 f216:=Tryz.func191.trans (congrArg some (by kernel_rfl)),
 f257:=Tryz.func181.trans (congrArg some (by kernel_rfl)),
 f294:=Tryz.func185.trans (congrArg some (by kernel_rfl)),
 f295:=Tryz.func186.trans (congrArg some (by kernel_rfl)),
 f296:=Tryz.func187.trans (congrArg some (by kernel_rfl)),
 f297:=Tryz.func188.trans (congrArg some (by kernel_rfl)),
 f298:=Tryz.func189.trans (congrArg some (by kernel_rfl)),
 f299:=Tryz.func190.trans (congrArg some (by kernel_rfl)),
 f300:=Tryz.func192.trans (congrArg some (by kernel_rfl)),
 f301:=Tryz.func193.trans (congrArg some (by kernel_rfl)),
 f328:=Tryz.func200.trans (congrArg some (by kernel_rfl)),
 f329:=Tryz.func201.trans (congrArg some (by kernel_rfl)),
 f330:=Tryz.func202.trans (congrArg some (by kernel_rfl)),
 f331:=Tryz.func203.trans (congrArg some (by kernel_rfl)),
 f332:=Tryz.func204.trans (congrArg some (by kernel_rfl)),
 f343:=Tryz.func207.trans (congrArg some (by kernel_rfl)),
 t0:=Tryz.underlying0,
 a0:=Tryz.isAgg0,
 z0:=Tryz.sizeOf0,
 v0:=Tryz.zeroValue0,
 t3:=Tryz.underlying3,
 a3:=Tryz.isAgg3,
 z3:=Tryz.sizeOf3,
 v3:=Tryz.zeroValue3,
 t4:=Tryz.underlying4,
 a4:=Tryz.isAgg4,
 z4:=Tryz.sizeOf4,
 v4:=Tryz.zeroValue4,
 t5:=Tryz.underlying5,
 a5:=Tryz.isAgg5,
 z5:=Tryz.sizeOf5,
 v5:=Tryz.zeroValue5,
 t9:=Tryz.underlying9,
 a9:=Tryz.isAgg9,
 z9:=Tryz.sizeOf9,
 v9:=Tryz.zeroValue9,
 t28:=Tryz.underlying30,
 a28:=Tryz.isAgg30,
 z28:=Tryz.sizeOf30,
 v28:=Tryz.zeroValue30,
 t46:=Tryz.underlying172,
 a46:=Tryz.isAgg172,
 z46:=Tryz.sizeOf172,
 v46:=Tryz.zeroValue172,
 t51:=Tryz.underlying182,
 a51:=Tryz.isAgg182,
 z51:=Tryz.sizeOf182,
 v51:=Tryz.zeroValue182,
 t53:=Tryz.underlying184,
 a53:=Tryz.isAgg184,
 z53:=Tryz.sizeOf184,
 v53:=Tryz.zeroValue184,
 t131:=Tryz.underlying137,
 a131:=Tryz.isAgg137,
 z131:=Tryz.sizeOf137,
 v131:=Tryz.zeroValue137,
 t182:=Tryz.underlying175,
 a182:=Tryz.isAgg175,
 z182:=Tryz.sizeOf175,
 v182:=Tryz.zeroValue175,
 t183:=Tryz.underlying176,
 a183:=Tryz.isAgg176,
 z183:=Tryz.sizeOf176,
 v183:=Tryz.zeroValue176,
 t218:=Tryz.underlying186,
 a218:=Tryz.isAgg186,
 z218:=Tryz.sizeOf186,
 v218:=Tryz.zeroValue186,
 t222:=Tryz.underlying190,
 a222:=Tryz.isAgg190,
 z222:=Tryz.sizeOf190,
 v222:=Tryz.zeroValue190,
 t228:=Tryz.underlying194,
 a228:=Tryz.isAgg194,
 z228:=Tryz.sizeOf194,
 v228:=Tryz.zeroValue194,
 t229:=Tryz.underlying195,
 a229:=Tryz.isAgg195,
 z229:=Tryz.sizeOf195,
 v229:=Tryz.zeroValue195}
def Tryz.laysContains_ren:Go.Shelf.Ren:=⟨fun|144=>170|143=>179|219=>184|217=>196|225=>197|224=>198|267=>199|266=>205|314=>206|n=>n,fun|9=>9|4=>4|3=>3|5=>5|46=>172|146=>192|51=>182|n=>n,fun|1=>0|n=>n⟩
theorem Tryz.yY:Go.Proofs.Lays.n144 Tryz.prog Tryz.laysContains_ren:={
 mixed:=by kernel_rfl,
 f143:=Tryz.func179.trans (congrArg some (by kernel_rfl)),
 f144:=Tryz.func170.trans (congrArg some (by kernel_rfl)),
 f217:=Tryz.func196.trans (congrArg some (by kernel_rfl)),
 f219:=Tryz.func184.trans (congrArg some (by kernel_rfl)),
 f224:=Tryz.func198.trans (congrArg some (by kernel_rfl)),
 f225:=Tryz.func197.trans (congrArg some (by kernel_rfl)),
 f266:=Tryz.func205.trans (congrArg some (by kernel_rfl)),
 f267:=Tryz.func199.trans (congrArg some (by kernel_rfl)),
 f314:=Tryz.func206.trans (congrArg some (by kernel_rfl)),
 t3:=Tryz.underlying3,
 a3:=Tryz.isAgg3,
 z3:=Tryz.sizeOf3,
 v3:=Tryz.zeroValue3,
 t4:=Tryz.underlying4,
 a4:=Tryz.isAgg4,
 z4:=Tryz.sizeOf4,
 v4:=Tryz.zeroValue4,
 t5:=Tryz.underlying5,
 a5:=Tryz.isAgg5,
 z5:=Tryz.sizeOf5,
 v5:=Tryz.zeroValue5,
 t9:=Tryz.underlying9,
 a9:=Tryz.isAgg9,
 z9:=Tryz.sizeOf9,
 v9:=Tryz.zeroValue9,
 t46:=Tryz.underlying172,
 a46:=Tryz.isAgg172,
 z46:=Tryz.sizeOf172,
 v46:=Tryz.zeroValue172,
 t51:=Tryz.underlying182,
 a51:=Tryz.isAgg182,
 z51:=Tryz.sizeOf182,
 v51:=Tryz.zeroValue182,
 t146:=Tryz.underlying192,
 a146:=Tryz.isAgg192,
 z146:=Tryz.sizeOf192,
 v146:=Tryz.zeroValue192,
 g1:=by kernel_rfl}
def Tryz.laysIndexFunc_ren:Go.Shelf.Ren:=⟨fun|15=>177|20=>183|n=>n,fun|9=>9|23=>168|3=>3|4=>4|0=>0|21=>21|n=>n,fun|n=>n⟩
theorem Tryz.wB:Go.Proofs.LaysGw.n15 Tryz.prog Tryz.laysIndexFunc_ren:={
 mixed:=by kernel_rfl,
 f15:=Tryz.func177.trans (congrArg some (by kernel_rfl)),
 f20:=Tryz.func183.trans (congrArg some (by kernel_rfl)),
 t0:=Tryz.underlying0,
 a0:=Tryz.isAgg0,
 z0:=Tryz.sizeOf0,
 v0:=Tryz.zeroValue0,
 i0:=by kernel_rfl,
 t3:=Tryz.underlying3,
 a3:=Tryz.isAgg3,
 z3:=Tryz.sizeOf3,
 v3:=Tryz.zeroValue3,
 i3:=by kernel_rfl,
 t4:=Tryz.underlying4,
 a4:=Tryz.isAgg4,
 z4:=Tryz.sizeOf4,
 v4:=Tryz.zeroValue4,
 i4:=by kernel_rfl,
 t9:=Tryz.underlying9,
 a9:=Tryz.isAgg9,
 z9:=Tryz.sizeOf9,
 v9:=Tryz.zeroValue9,
 i9:=by kernel_rfl,
 t21:=Tryz.underlying21,
 a21:=Tryz.isAgg21,
 z21:=Tryz.sizeOf21,
 v21:=Tryz.zeroValue21,
 i21:=by kernel_rfl,
 t23:=Tryz.underlying168,
 a23:=Tryz.isAgg168,
 z23:=Tryz.sizeOf168,
 v23:=Tryz.zeroValue168,
 i23:=by kernel_rfl}
def Tryz.laysSorted_ren:Go.Shelf.Ren:=⟨fun|6=>148|8=>172|9=>173|11=>180|13=>182|12=>181|23=>194|24=>195|14=>185|15=>186|16=>187|17=>188|18=>189|19=>190|20=>191|21=>192|22=>193|25=>200|26=>201|27=>202|28=>203|29=>204|30=>157|31=>207|n=>n,fun|26=>3|28=>97|24=>30|0=>0|3=>3|37=>172|48=>182|50=>184|4=>4|40=>176|39=>175|45=>137|5=>5|9=>9|51=>186|55=>190|57=>194|58=>195|33=>91|n=>n,fun|n=>n⟩
theorem Tryz.CI:Go.Proofs.SlLaysZI.n6 Tryz.prog Tryz.laysSorted_ren:={
 mixed:=by kernel_rfl,
 f6 := ⟨ "slices.Sorted[int]", by decide, Tryz.func148.trans (congrArg some (by kernel_rfl))⟩,
 f8 := ⟨ "slices.Collect[int]", by decide, Tryz.func172.trans (congrArg some (by kernel_rfl))⟩,
 f11 := ⟨ "slices.AppendSeq[[]int,int]", by decide, Tryz.func180.trans (congrArg some (by kernel_rfl))⟩,
 t0:=Tryz.underlying0,
 a0:=Tryz.isAgg0,
 z0:=Tryz.sizeOf0,
 v0:=Tryz.zeroValue0,
 t24:=Tryz.underlying30,
 a24:=Tryz.isAgg30,
 z24:=Tryz.sizeOf30,
 v24:=Tryz.zeroValue30,
 t26:=Tryz.underlying3,
 a26:=Tryz.isAgg3,
 z26:=Tryz.sizeOf3,
 v26:=Tryz.zeroValue3,
 t28:=Tryz.underlying97,
 a28:=Tryz.isAgg97,
 z28:=Tryz.sizeOf97,
 v28:=Tryz.zeroValue97,
 i26:=by kernel_rfl}
def Tryz.laysKeys_ren:Go.Shelf.Ren:=⟨fun|7=>149|10=>174|n=>n,fun|23=>131|26=>3|3=>3|28=>97|0=>0|27=>96|33=>91|4=>4|n=>n,fun|n=>n⟩
theorem Tryz.G9:Go.Proofs.SlLaysZI.n7 Tryz.prog Tryz.laysKeys_ren:={
 mixed:=by kernel_rfl,
 f7 := ⟨ "maps.Keys[map[int]int,int,int]", by decide, Tryz.func149.trans (congrArg some (by kernel_rfl))⟩,
 f10 := ⟨ "maps.Keys[map[int]int,int,int]$1", by decide, Tryz.func174.trans (congrArg some (by kernel_rfl))⟩,
 t0:=Tryz.underlying0,
 a0:=Tryz.isAgg0,
 z0:=Tryz.sizeOf0,
 v0:=Tryz.zeroValue0,
 t4:=Tryz.underlying4,
 a4:=Tryz.isAgg4,
 z4:=Tryz.sizeOf4,
 v4:=Tryz.zeroValue4,
 t23:=Tryz.underlying131,
 a23:=Tryz.isAgg131,
 z23:=Tryz.sizeOf131,
 v23:=Tryz.zeroValue131,
 t26:=Tryz.underlying3,
 a26:=Tryz.isAgg3,
 z26:=Tryz.sizeOf3,
 v26:=Tryz.zeroValue3,
 t27:=Tryz.underlying96,
 a27:=Tryz.isAgg96,
 z27:=Tryz.sizeOf96,
 v27:=Tryz.zeroValue96,
 t28:=Tryz.underlying97,
 a28:=Tryz.isAgg97,
 z28:=Tryz.sizeOf97,
 v28:=Tryz.zeroValue97,
 t33:=Tryz.underlying91,
 a33:=Tryz.isAgg91,
 z33:=Tryz.sizeOf91,
 v33:=Tryz.zeroValue91}
end Go.Proofs
