/-
  Texts of this aV joined (wip/gen/bundle.py),those declarations only that are needed:AmY AmZ. By an AI agent.
-/
import Derived.Test.YtcjfkbdbcgmomaaGreatDoorBaj
set_option linter.unusedSimpArgs false
set_option linter.unusedVariables false
namespace Go.AM
open Go.CK Go.RowKit
section
variable{P:Program}
theorem ROp.mono{dr:Bool}{r:ROp}{s:St}{K K':St->Prop}(hk:∀x,K x->K' x)(h:r.run P dr s K):r.run P dr s K':=by
 unfold ROp.run at h|-;split at h
 .exact xK hk h
 .split at h
  .exact ⟨λe=>xK hk (h.1 e),λe=>hk _ (h.2 e)⟩
  .exact h
theorem ig{dr:Bool}{K K':St->Prop}(hk:∀x,K x->K' x):∀{rs:List ROp} {s:St},x4 P dr rs s K->x4 P dr rs s K'
 |[],_,h=>hk _ h
 |_::_,_,h=>ROp.mono (λ_ hx=>ig hk hx) h
theorem ROp.ex{r:ROp}{s:St}{K:St->Prop}(h:r.run P true s K):∃s1,r.run P true s (λx=>x=s1)/\K s1:=by
 unfold ROp.run at h|-;split at h
 .exact JK h
 .rename_i g want hg;split at h
  .rename_i b hb
   by_cases hbw:b=want
   .obtain ⟨s1,h1,h2⟩:=JK (h.1 hbw);exact⟨s1,⟨λ_=>h1,λe=>absurd hbw e⟩,h2⟩
   .exact ⟨_,⟨λe=>absurd e hbw,λ_=>rfl⟩,h.2 hbw⟩
  .exact h.elim
theorem pO{r:ROp}{k:Nat}(h:r.rx.nw k=true):k∈r.writes:=by
 unfold RX.nw at h;simp only[ROp.writes,zZ];refine .inr ?_;split at h
 .simp [zP h]
 .simp [zP h]
 .cases h
theorem sG{r:ROp}{k:Nat}(h:k∉r.writes):r.dst≠some k/\r.rx.nw k=false:=by
 constructor
 .intro e;exact h (by simp[ROp.writes,e])
 .cases hs:r.rx.nw k with
  |false=>rfl
  |true=>exact absurd (pO hs) h
theorem GS{r:ROp}{k:Nat}(h:k∉r.reads):k∉slotsOf r.rx.bd/\∀g w,r.guard=some (g,w)->g≠k:=by
 constructor
 .intro e;exact h (by simp[ROp.reads,e])
 .intro g w e e2;exact h (by simp[ROp.reads,e,e2])
theorem ROp.frame{r:ROp}{k:Nat}(v:AV)(h1:k∉r.reads)(h2:k∉r.writes){s:St}{K:St->Prop}:r.run P true (s.put (some k) v) K↔r.run P true s (λs'=>K (s'.put (some k) v)):=by
 obtain⟨a1,a2⟩:=sG h2;obtain⟨b1,b2⟩:=GS h1;unfold ROp.run;split
 .exact AA v b1 a1
 .rename_i g want hg;have hgk:=b2 g want hg;rw[show (s.put (some k) v).ev (.t g)=s.ev (.t g) from St.yr s k v (by simp[Opd.ck];exact Ne.symm hgk)]
  split
  .have hput:∀y,(s.put (some k) v).put r.dst y=(s.put r.dst y).put (some k) v:=λy=>by
    cases hd:r.dst with
    |none=>rfl
    |some j=>exact St.put_comm s v y (λe=>a1 (by rw[hd,e]))
   rw[hput,AA v b1 a1]
  .exact Iff.rfl
theorem ROp.mod{r:ROp}{s s1:St}(h:r.run P true s (λx=>x=s1)){k:Nat}(h2:k∉r.writes):s1.get k=s.get k:=by
 obtain⟨a1,a2⟩:=sG h2;unfold ROp.run at h;split at h
 .exact GN h a1 a2
 .rename_i g want hg;split at h
  .rename_i b hb
   by_cases hbw:b=want
   .exact GN (h.1 hbw) a1 a2
   .have:=h.2 hbw;subst this
    cases hd:r.dst with
    |none=>rfl
    |some j=>exact St.fG s j _ (λe=>a1 (by rw[hd,e]))
  .exact h.elim
theorem Lj{s s':St}(h:s'.bs=s.bs):s'.rd=s.rd:=by
 funext x
 cases x<;>simp only[St.rd,h]
theorem ROp.ck{r:ROp}(hp:r.rx.ky=true){s s1:St}(h:r.run P true s (λx=>x=s1)):
  ∃ps,s1=s.oa ps/\(∀p∈ps,p.1∈r.writes)/\∀s',(∀k∈r.reads,s'.get k=s.get k)->(r.rx.looks=true->∀o∈r.rx.bd,r.rx.tO (s.ev o)->∀cs,s.rd (s.ev o)=some cs->s'.rd (s.ev o)=some cs)->r.run P true s' (λx=>x=s'.oa ps):=by
 have hw:∀k,(r.dst=some k\/r.rx.nw k=true)->k∈r.writes:=λk hk=>by
  rcases hk with hk|hk
  .simp [ROp.writes,hk]
  .exact pO hk
 have main:∀{s1},r.rx.run P true s r.dst (λx=>x=s1)->∃ps,s1=s.oa ps/\(∀p∈ps,p.1∈r.writes)/\∀s',(∀k∈r.reads,s'.get k=s.get k)->(r.rx.looks=true->∀o∈r.rx.bd,r.rx.tO (s.ev o)->∀cs,s.rd (s.ev o)=some cs->s'.rd (s.ev o)=some cs)->r.rx.run P true s' r.dst (λx=>x=s'.oa ps):=λ{s1} h=>by
  obtain⟨ps,h1,h2,h3⟩:=GM hp h;refine⟨ps,h1,λp hp=>hw _ (h2 p hp),λs' hr hl=>h3 s' (λk hk=>hr k ?_) hl⟩;simp only[ROp.reads,zZ];exact .inr hk
 unfold ROp.run at h|-;split at h
 .exact main h
 .rename_i g want hg;split at h
  .rename_i b hb
   have hev:∀s':St,(∀k∈r.reads,s'.get k=s.get k)->gv want (s'.ev (.t g))=some b:=λs' hr=>by
    rw[<-hb];congr 1;exact yt λk hk=>hr k (by simp[Opd.ck] at hk;simp[ROp.reads,hg,hk])
   by_cases hbw:b=want
   .obtain ⟨ps,h1,h2,h3⟩:=main (h.1 hbw);refine⟨ps,h1,h2,λs' hr hl=>?_⟩;simp only[hev s' hr];exact⟨λ_=>h3 s' hr hl,λe=>absurd hbw e⟩
   .have htop:∃ps,(∀s:St,s.put r.dst (.tup [])=s.oa ps)/\∀p∈ps,r.dst=some p.1:=by
     cases r.dst with
     |none=>exact⟨[],λs=>rfl,λp hp=>by cases hp⟩
     |some k=>exact⟨[(k,.tup [])],λs=>rfl,λp hp=>by simp at hp;rw[hp]⟩
    obtain⟨ps,q1,q2⟩:=htop;refine⟨ps,by rw[<-h.2 hbw,q1],λp hp=>hw _ (.inl (q2 p hp)),λs' hr hl=>?_⟩
    simp only[hev s' hr];exact⟨λe=>absurd e hbw,λ_=>by rw[q1]⟩
  .exact h.elim
theorem ROp.Dz{r:ROp}:∀(ps:List (Nat×AV)),(∀p∈ps,p.1∉r.reads/\p.1∉r.writes)->∀{s:St} {K:St->Prop},r.run P true (s.oa ps) K↔r.run P true s (λs'=>K (s'.oa ps))
 |[],_,s,K=>Iff.rfl
 |(k,v)::ps,h,s,K=>by
  simp only[St.oa];rw[ROp.Dz ps (λp hp=>h p (by simp[hp]))]
  obtain⟨h1,h2⟩:=h (k,v) (by simp)
  rw[ROp.frame v h1 h2]
theorem St.IV(s:St)(ps:List (Nat×AV)):(s.oa ps).rd=s.rd:=Lj (St.IX s ps)
theorem Fl(s:St)(ds:List AV)(x:AV)(cs:List AV)(h:s.rd x=some cs):(s.gj ds).rd x=some cs:=by
 cases x<;>first|(cases h;done)|exact h|skip
 all_goals
  simp only[St.rd] at h|-;split at h
  .rename_i es hb
   have:∀b es,aa s.bs b=some es->aa (s.gj ds).bs b=some es:=λb es hb=>by
    simp only[St.gj];rw[al,if_neg (by have:=aB hb;omega)];exact hb
   rw[this _ _ hb];exact h
  .cases h
theorem ROp.KT{r:ROp}(hb:r.rx.Hs=true){s s1:St}(h:r.run P true s (λx=>x=s1)):∀x cs,s.rd x=some cs->s1.rd x=some cs:=by
 have main:∀{s1},r.rx.run P true s r.dst (λx=>x=s1)->∀x cs,s.rd x=some cs->s1.rd x=some cs:=λ{s1} h=>by
  cases hr:r.rx<;>rw[hr] at hb<;>simp[RX.Hs] at hb;rename_i o;rw[hr] at h;have:=(af.1 h).2;subst this;rw[St.qo];exact Fl s _
 unfold ROp.run at h;split at h
 .exact main h
 .rename_i g want hg;split at h
  .rename_i b hbv
   by_cases hbw:b=want
   .exact main (h.1 hbw)
   .have:=h.2 hbw;subst this;rw[St.qo];exact λ_ _ e=>e
  .exact h.elim
theorem Ki{s:St}{b bnd:Nat}{cs:List AV}{x:AV}(h:Hf bnd x=true)(hb:bnd<=b):(s.aF b cs).rd x=s.rd x:=by
 cases x<;>first|rfl|skip
 case ptr c off=>
  simp only[Hf,Nat.blt_eq] at h;have hne:¬b=c:=by omega
  simp only[St.rd,St.aF,aa,zr,if_neg hne]
 case elp=>simp[Hf] at h
theorem ROp.J7{r:ROp}{rx:RX}(hb:Da rx r.rx=true){s s1:St}(h:r.run P true s (λx=>x=s1)):∀o,rx.tO (s.ev o)->∀cs,s.rd (s.ev o)=some cs->s1.rd (s.ev o)=some cs:=by
 have main:∀{s1},r.rx.run P true s r.dst (λx=>x=s1)->∀o,rx.tO (s.ev o)->∀cs,s.rd (s.ev o)=some cs->s1.rd (s.ev o)=some cs:=λ{s1} h=>by
  unfold Da at hb;split at hb
  .rename_i b _ _ _ c n p x hr;rw[hr] at h;have h:ve c n s (s.ev p) (s.ev x) (λx=>x=s1):=h;unfold ve at h;split at h
   .obtain ⟨h1,h2⟩:=af.1 h;simp only[bQ] at h2;split at h2
    .have:=(af.1 h2).2;subst this;intro o ho cs hcs;rw[Ki ho (by have:=zt h1;have:=zt hb;omega)];exact hcs
    .exact h2.elim
   .exact h.elim
  .cases hb
 unfold ROp.run at h;split at h
 .exact main h
 .rename_i g want hg;split at h
  .rename_i b hbv
   by_cases hbw:b=want
   .exact main (h.1 hbw)
   .have:=h.2 hbw;subst this;rw[St.qo];exact λ_ _ _ e=>e
  .exact h.elim
theorem Jr{x y:ROp}(hi:indep x y=true){s s1 s2:St}(hx:x.run P true s (λq=>q=s1))(hy:y.run P true s1 (λq=>q=s2)):∃s1',y.run P true s (λq=>q=s1')/\x.run P true s1' (λq=>q=s2):=by
 simp only[indep,zD,ZO,zc] at hi;obtain⟨⟨w1,w2⟩,hc⟩:=hi;have w1:=apart_spec w1;have w2:=apart_spec w2
 have hxw:∀k,k∈x.writes->k∉y.reads/\k∉y.writes:=λk hk=>by
  have:=w1 k hk;simp only[zZ,not_or] at this;exact this
 rcases hc with ⟨hp,hc⟩|⟨hp,hl⟩
 .
  obtain⟨ps,rfl,hps,hv⟩:=ROp.ck hp hx;rw[ROp.Dz ps (λp hp=>hxw _ (hps p hp))] at hy;obtain⟨s1',h1,h2⟩:=ROp.ex hy;refine⟨s1',h1,?_⟩;have:=hv s1' (λk hk=>ROp.mod h1 (λe=>w2 k e hk)) (λhlk=>?_)
  .rw [h2] at this;exact this
  .rcases hc with hc|hc|hc|hc
   .obtain ⟨qs,h3,_⟩:=ROp.ck hc h1;rw[h3,St.IV];exact λ_ _ _ _ e=>e
   .exact λo _ _ cs e=>ROp.KT hc h1 _ cs e
   .rw [hc] at hlk;cases hlk
   .exact λo _ hl=>ROp.J7 hc h1 o hl
 .obtain ⟨ps,rfl,hps,hv⟩:=ROp.ck hp hy;have h1:=hv s (λk hk=>(ROp.mod hx (λe=>(hxw k e).1 hk)).symm) (λe=>by rw[hl] at e;cases e)
  refine⟨_,h1,?_⟩;rw[ROp.Dz ps (λp hp=>⟨λe=>w2 _ (hps p hp) e,λe=>(hxw _ e).2 (hps p hp)⟩)];exact ROp.mono (λq hq=>by rw[hq]) hx
variable{rs:List ROp}
def AOp(P:Program)(rs:List ROp)(i:Nat)(s s1:St):Prop:=∃r,rs[i]? =some r/\r.run P true s (λq=>q=s1)
def lE(P:Program)(rs:List ROp):List Nat->St->St->Prop
 |[],s,s'=>s=s'
 |i::l,s,s'=>∃s1,AOp P rs i s s1/\lE P rs l s1 s'
theorem front{i:Nat}:∀{pre post:List Nat} {s sf:St},lE P rs (pre++i::post) s sf->(∀k∈pre,∀x y,rs[k]? =some x->rs[i]? =some y->indep x y=true)->∃s1,AOp P rs i s s1/\lE P rs (pre++post) s1 sf
 |[],post,s,sf,h,_=>h
 |k::pre,post,s,sf,h,hi=>by
  obtain⟨s0,⟨x,hx,hx2⟩,h2⟩:=h;obtain⟨s0',⟨y,hy,hy2⟩,h3⟩:=front h2 (λk' hk'=>hi k' (by simp[hk']))
  obtain⟨s1,h4,h5⟩:=Jr (hi k (by simp) x y hx hy) hx2 hy2
  exact⟨s1,⟨y,hy,h4⟩,s0',⟨x,hx,h5⟩,h3⟩
def aK(acc:List Nat):List Oper->List Nat
 |[]=>acc
 |o::os=>aK (acc++[o.after.toList.foldl (λm e=>if Region.binds .any e then m|||2^e.on|||acc.getD e.on 0 else m) 0]) os
def nA(rs:List ROp)(i:Nat)(m:Nat):Nat->Bool
 |0=>true
 |k+1=>nA rs i m k&&(m.testBit k||(match rs[k]?,rs[i]? with|some x,some y=>indep x y|_,_=>true))
def nY(rs:List ROp)(ms:List Nat):Nat->Bool
 |0=>true
 |i+1=>nY rs ms i&&nA rs i (ms.getD i 0) i
def jt:List Oper->Nat->Bool
 |[],_=>true
 |o::os,i=>o.after.toList.all (λe=>!(Region.binds .any e)||Nat.blt e.on i)&&jt os (i+1)
def pW(ops:Array Oper)(rs:List ROp):Bool:=jt ops.toList 0&&nY rs (aK [] ops.toList) ops.size
theorem eT:∀{os:List Oper} {k:Nat},jt os k=true->∀(j:Nat) o,os[j]? =some o->∀e∈o.after,Region.binds .any e=true->e.on<k+j
 |[],_,_,j,o,hj,_,_,_=>by simp at hj
 |o::os,k,h,j,o',hj,e,he,hb=>by
  simp only[jt,zD,zT] at h
  cases j with
  |zero=>
   simp at hj;subst hj;have:=h.1 e (by simpa using he)
   rw[hb] at this
   simpa[Nat.blt_eq] using this
  |succ j=>
   have:=eT h.2 j o' (by simpa using hj) e he hb
   omega
def mD(ops:Array Oper)(D:Nat->Prop):Prop:=∀i o,ops[i]? =some o->D i->∀e∈o.after,Region.binds .any e=true->D e.on
theorem uf(acc:List Nat):∀(es:List Edge) (m k:Nat),(es.foldl (λm e=>if Region.binds .any e then m|||2^e.on|||acc.getD e.on 0 else m) m).testBit k=true->m.testBit k=true\/∃e∈es,Region.binds .any e=true/\(k=e.on\/(acc.getD e.on 0).testBit k=true)
 |[],m,k,h=>.inl h
 |e::es,m,k,h=>by
  simp only[Zy] at h;rcases uf acc es _ k h with h1|⟨e',he',h2,h3⟩
  .split at h1
   .rename_i hb;simp only[Nat.testBit_or,ZO,Nat.testBit_two_pow,decide_eq_true_eq] at h1;rcases h1 with (h1|h1)|h1
    .exact .inl h1
    .exact .inr ⟨e,by simp,hb,.inl h1.symm⟩
    .exact .inr ⟨e,by simp,hb,.inr h1⟩
   .exact .inl h1
  .exact .inr ⟨e',by simp[he'],h2,h3⟩
theorem mc{ops:Array Oper}{D:Nat->Prop}(hD:mD ops D):∀{os:List Oper} {acc:List Nat},(∀(j:Nat) o,os[j]? =some o->ops[acc.length+j]? =some o)->
  (∀(i m:Nat) o,acc[i]? =some m->ops[i]? =some o->(∀e∈o.after,Region.binds .any e=true->D e.on)->∀k,m.testBit k=true->D k)->
  (∀(i:Nat),i<acc.length->∃o,ops[i]? =some o)->
  ∀(i m:Nat) o,(aK acc os)[i]? =some m->ops[i]? =some o->(∀e∈o.after,Region.binds .any e=true->D e.on)->∀k,m.testBit k=true->D k
 |[],acc,_,h,_=>h
 |o::os,acc,hi,h,hex=>by
  simp only[aK];have ho:=hi 0 o rfl;refine mc hD (λj o' hj=>?_) (λi m o' hm ho' he k hk=>?_) (λi hlt=>?_)
  .have:=hi (j+1) o' (by simpa using hj)
   rw[zC];rw[show acc.length+[_].length+j=acc.length+(j+1) by simp;omega];exact this
  .by_cases hlt:i<acc.length
   .rw [zK hlt] at hm;exact h i m o' hm ho' he k hk
   .rw [za (by omega)] at hm
    have hii:i=acc.length:=by
     rcases zu (i-acc.length) 1 with h1|h1
     .omega
     .rw [zS (by simpa using h1)] at hm;cases hm
    subst hii;rw[yS] at hm;simp only[Zo,zO] at hm;subst hm;rw[Zi] at ho;rw[ho] at ho';cases ho';rcases uf acc _ _ _ hk with h1|⟨e,he1,he2,h3⟩
    .simp at h1
    .have hDe:=he e (by simpa using he1) he2
     rcases h3 with rfl|h3
     .exact hDe
     .have hlt:e.on<acc.length:=by
       rcases zu e.on acc.length with h4|h4
       .exact h4
       .simp [zS h4] at h3
      obtain⟨o2,ho2⟩:=hex e.on hlt;have hm2:acc[e.on]? =some (acc.getD e.on 0):=by simp[zA hlt]
      exact h e.on _ o2 hm2 ho2 (λe2 h5 h6=>hD e.on o2 ho2 hDe e2 h5 h6) k h3
  .rw [zC] at hlt
   by_cases hlt2:i<acc.length
   .exact hex i hlt2
   .have:i=acc.length:=by simp at hlt;omega
    subst this;exact⟨o,by simpa using ho⟩
theorem oo{rs:List ROp}{i m:Nat}:∀{n:Nat},nA rs i m n=true->∀k,k<n->m.testBit k=true\/∀x y,rs[k]? =some x->rs[i]? =some y->indep x y=true
 |0,_,k,hk=>by omega
 |n+1,h,k,hk=>by
  simp only[nA,zD,ZO] at h
  by_cases hkn:k=n
  .subst hkn;rcases h.2 with h1|h1
   .exact .inl h1
   .refine .inr λx y hx hy=>?_;rw[hx,hy] at h1;exact h1
  .exact oo h.1 k (by omega)
theorem nz{rs:List ROp}{ms:List Nat}:∀{n:Nat},nY rs ms n=true->∀i,i<n->nA rs i (ms.getD i 0) i=true
 |0,_,i,hi=>by omega
 |n+1,h,i,hi=>by
  simp only[nY,zD] at h
  by_cases hin:i=n
  .subst hin;exact h.2
  .exact nz h.1 i (by omega)
theorem gU:∀(os:List Oper) (acc:List Nat),(aK acc os).length=acc.length+os.length
 |[],acc=>by simp[aK]
 |o::os,acc=>by rw[aK,gU os];simp;omega
theorem vZ{K:St->Prop}:∀{q:List ROp} {k:Nat} {s:St},(∀(j:Nat) r,q[j]? =some r->rs[k+j]? =some r)->x4 P true q s K->∃sf,lE P rs (List.range' k q.length) s sf/\K sf
 |[],_,s,_,h=>⟨s,rfl,h⟩
 |r::q,k,s,hi,h=>by
  obtain⟨s1,h1,h2⟩:=ROp.ex h
  obtain⟨sf,h3,h4⟩:=vZ (k:=k+1) (λj r' hj=>by
   have:=hi (j+1) r' (by simpa using hj)
   rw[show k+1+j=k+(j+1) by omega];exact this) h2
  refine⟨sf,?_,h4⟩;rw[zY,List.range'_succ];exact⟨s1,⟨r,by simpa using hi 0 r rfl,h1⟩,h3⟩
end
theorem eQ(p:Nat->Bool)(i:Nat):∀(l:List Nat),i∈l->p i=true->l.Pairwise (·<·)->∃pre post,l.filter p=pre++i::post/\(∀k∈pre,k<i/\p k=true)/\l.filter (λk=>p k&&!(k==i))=pre++post
 |[],h,_,_=>by cases h
 |x::l,h,hp,hs=>by
  obtain⟨hs1,hs2⟩:=ZB.1 hs
  by_cases hx:x=i
  .subst hx;refine⟨[],l.filter p,by simp[hp],by simp,?_⟩
   simp only[Zl];rw[Zv (by simp)]
   refine Zp λk hk=>?_;have:=hs1 k hk;have hne:(k==x)=false:=by simp;omega
   simp[hne]
  .have hmem:i∈l:=by
    rcases zI.1 h with h|h
    .exact absurd h.symm hx
    .exact h
   obtain⟨pre,post,h1,h2,h3⟩:=eQ p i l hmem hp hs2;have hlt:=hs1 i hmem;have hne:(x==i)=false:=by simpa using hx
   cases hpx:p x with
   |true=>
    refine⟨x::pre,post,by rw[yQ hpx,h1];rfl,λk hk=>?_,?_⟩
    .rcases zI.1 hk with rfl|hk
     .exact ⟨hlt,hpx⟩
     .exact h2 k hk
    .rw [yQ (by simp[hpx,hne]),h3];rfl
   |false=>
    refine⟨pre,post,by rw[Zv (by simp[hpx]),h1],h2,?_⟩
    rw[Zv (by simp[hpx]),h3]
section
variable{P:Program}{nt:Nat}{fl:Bool}{ops:Array Oper}{rs:List ROp}{E:Entry}{rd:Option Nat}{n:Nat}
def ax(ops:Array Oper)(listed:Array Bool):List Nat:=(List.range ops.size).filter λi=>!listed.getD i true
theorem F7(hc:∀(i:Nat) (o:Oper),ops[i]? =some o->∃r,rs[i]? =some r/\OpC P nt ops o r)(hi:pW ops rs=true){Q:Exit->Act->World->Prop}(hnt:E.nt=nt):
  ∀(fuel:Nat) (listed:Array Bool) (s sf:St) (G:Gh) (a:Act) (w:World),listed.size=ops.size->(ax ops listed).length<=fuel->mD ops (λi=>listed.getD i false=true)->lE P rs (ax ops listed) s sf->RS E G s a w->
   (∀G' a' w',RS E G' sf a' w'->a'.defers=a.defers->Q .normal a' w')->wpAnyIn (F0 rd) n P .any ops Q fuel listed a w:=by
 have hready:∀(listed:Array Bool) i,listed.size=ops.size->i∈Region.ready .any ops listed->i<ops.size/\listed.getD i true=false/\∃o,ops[i]? =some o/\∀e∈o.after,Region.binds .any e=true->listed.getD e.on false=true:=λlisted i hl h=>by
  simp only[Region.ready,zp,ze,zD,zc] at h;obtain⟨h1,h2,h3⟩:=h;refine⟨h1,h2,ops[i],zj h1,λe he hb=>?_⟩;rw[zj h1] at h3;simp only[zM,ZU,ZQ,ZO,zc] at h3;rcases h3 e he with h4|h4
  .rw [hb] at h4;cases h4
  .exact h4
 intro fuel
 induction fuel with
 |zero=>
  intro listed s sf G a w hl hlen hD hex hs hQ;have hnil:ax ops listed=[]:=ZY.1 (by omega)
  rw[hnil] at hex;have hex:s=sf:=hex;subst hex;refine⟨?_,hQ G a w hs rfl⟩;rcases hq:Region.ready .any ops listed with _|⟨i,_⟩
  .rfl
  .obtain ⟨h1,h2,_⟩:=hready listed i hl (by rw[hq];simp)
   have:i∈ax ops listed:=by simp only[ax,zp,ze];exact⟨h1,by simp[h2]⟩
   rw[hnil] at this;cases this
 |succ fuel ih=>
  intro listed s sf G a w hl hlen hD hex hs hQ
  refine⟨λhr=>?_,λi hi'=>?_⟩
  .
   have hnil:ax ops listed=[]:=by
    rcases hq:ax ops listed with _|⟨i,l⟩
    .rfl
    .exfalso;have hsort:(ax ops listed).Pairwise (·<·):=List.pairwise_lt_range.filter _;rw[hq] at hsort;have hfirst:=(ZB.1 hsort).1;have hmem:i∈ax ops listed:=by rw[hq];simp
     simp only[ax,zp,ze,zc] at hmem
     have hin:i∈Region.ready .any ops listed:=by
      simp only[Region.ready,zp,ze,zD,zc];refine⟨hmem.1,hmem.2,?_⟩;rw[zj hmem.1];simp only[zM,ZU,ZQ,ZO,zc];intro e he
      cases hb:Region.binds .any e with
      |false=>exact .inl rfl
      |true=>
       have hlt:=eT (Bool.and_eq_true_iff.1 hi).1 i ops[i] (by simp[hmem.1]) e he hb
       rw[ZJ] at hlt;refine .inr ?_
       cases hlk:listed.getD e.on false with
       |true=>rfl
       |false=>
        exfalso
        have hlk2:listed.getD e.on true=false:=by
         have hsz:e.on<listed.size:=by rw[hl];omega
         simpa[hsz] using hlk
        have hin2:e.on∈ax ops listed:=by
         simp only[ax,zp,ze,zc];exact⟨by omega,hlk2⟩
        rw[hq] at hin2;rcases zI.1 hin2 with h5|h5
        .omega
        .have:=hfirst _ h5;omega
     rw[hr] at hin;cases hin
   rw[hnil] at hex;have hex:s=sf:=hex;subst hex;exact hQ G a w hs rfl
  .obtain ⟨h1,h2,o,ho,hpre⟩:=hready listed i hl hi';obtain⟨r,hr,hoc⟩:=hc i o ho;have hmem:i∈List.range ops.size:=by simpa using h1
   obtain⟨pre,post,e1,e2,e3⟩:=eQ (λk=>!listed.getD k true) i (List.range ops.size) hmem (by simp[h2]) yT
   have hrow:=nz (Bool.and_eq_true_iff.1 hi).2 i h1
   have hgd:∀k,listed.getD k true=false->listed.getD k false=false:=λk hk=>by
    simp only[zU] at hk|-
    cases hq:listed[k]? with
    |none=>rw[hq] at hk;cases hk
    |some b=>rw[hq] at hk;simpa using hk
   have hex':lE P rs (pre++i::post) s sf:=by rw[<-e1];exact hex
   obtain⟨s1,⟨r',hr',hrun⟩,hrest⟩:=front hex' (λk hk x y hx hy=>by
    obtain⟨hki,hkl⟩:=e2 k hk;rcases oo hrow k hki with hb|hb
    .exfalso;have hml:i<(aK [] ops.toList).length:=by rw[gU];simpa using h1
     have:=mc hD (os:=ops.toList) (acc:=[]) (λj o' hj=>by simpa using hj) (λi m o' hm=>by simp at hm) (λi hlt=>by simp at hlt) i ((aK [] ops.toList).getD i 0) o (by simp[zA hml]) ho hpre k hb
     have h4:=hgd k (by simpa using hkl)
     rw[h4] at this;cases this
    .exact hb x y hx hy)
   rw[hr] at hr';cases hr';refine iK hoc ho hrun hs hnt λs' G' a' w' hs1 hs' hd=>?_;subst hs1
   have hset:ax ops (listed.setIfInBounds i true)=pre++post:=by
    rw[<-e3];unfold ax;refine Zp λk hk=>?_
    by_cases hki:k=i
    .subst hki;have:k<listed.size:=by rw[hl];exact h1
     simp[this]
    .have hne:(k==i)=false:=by simpa using hki
     simp[zX (Ne.symm hki),hne]
   refine ih _ _ _ G' a' w' (by simpa using hl) ?_ ?_ (by rw[hset];exact hrest) hs' λG2 a2 w2 h5 h6=>hQ G2 a2 w2 h5 (h6.trans hd)
   .rw [hset];have:(ax ops listed).length=(pre++i::post).length:=by rw[<-e1];rfl
    simp at this|-;omega
   .intro j oj hj hDj e he hb
    have hkeep:∀k,listed.getD k false=true->(listed.setIfInBounds i true).getD k false=true:=λk hk=>by
     by_cases hki:k=i
     .subst hki;have:k<listed.size:=by rw[hl];exact h1
      simp[this]
     .simp only[zU] at hk|-;rw[zX (Ne.symm hki)];exact hk
    by_cases hji:j=i
    .subst hji;rw[ho] at hj;cases hj;exact hkeep _ (hpre e he hb)
    .refine hkeep _ (hD j oj hj ?_ e he hb);simp only[zU] at hDj|-
     rwa [zX (Ne.symm hji)] at hDj
theorem WP.tl(hm:P.follows .mixedOrders=true){id:Nat}{tk:Nat->Nat->Bool}(hc:qb P nt tk ops ops.toList=some rs)(hi:pW ops rs=true){s:St}{Q:AX->St->Prop}(h:x4 P true rs s (Q .normal)):WP P nt fl (.region id ops true) s Q:=λE G a w rd n hs he=>by
 obtain⟨h1,h2⟩:=ir hc;obtain⟨sf,h3,h4⟩:=vZ (rs:=rs) (k:=0) (λj r hj=>by simp[hj]) h
 have hlen:rs.length=ops.size:=by simpa using h1.symm
 refine wpIn_region_any hm ?_;refine F7 (λi o ho=>h2 i o (by simpa using ho)) hi he.1 ops.size _ s sf G a _ (by simp) ?_ ?_ ?_ hs.drew λG' a' w' h5 _=>⟨.normal,sf,G',rfl,h4,h5⟩
 .exact ZP (yB _ _) (by simp)
 .intro i o _ hD;simp only[zU,yI] at hD;split at hD<;>cases hD
 .have:ax ops (Array.replicate ops.size false)=List.range' 0 rs.length:=by
   unfold ax
   rw[yF.2 (λi hi=>by
    have:=ze.1 hi;simp[this]),List.range_eq_range',hlen]
  rw[this];exact h3
end
end Go.AM
namespace Go.AM
open Go.CK Go.RowKit
def pn(rs:List ROp)(p i:Nat)(m:Nat):Nat->Bool
 |0=>true
 |k+1=>pn rs p i m k&&(m.testBit k||(!(Nat.beq i p)&&(!(Nat.beq k p)&&(match rs[k]?,rs[i]? with|some x,some y=>indep x y|_,_=>true))))
def pj(rs:List ROp)(p:Nat)(ms:List Nat):Nat->Bool
 |0=>true
 |i+1=>pj rs p ms i&&pn rs p i (ms.getD i 0) i
def qQ(ops:Array Oper)(rs:List ROp)(p:Nat):Bool:=jt ops.toList 0&&pj rs p (aK [] ops.toList) ops.size
theorem pk{rs:List ROp}{p i m:Nat}:∀{n:Nat},pn rs p i m n=true->∀k,k<n->m.testBit k=true\/(i≠p/\k≠p/\∀x y,rs[k]? =some x->rs[i]? =some y->indep x y=true)
 |0,_,k,hk=>by omega
 |n+1,h,k,hk=>by
  simp only[pn,zD,ZO,zc] at h
  by_cases hkn:k=n
  .subst hkn;rcases h.2 with h1|⟨h1,h2,h3⟩
   .exact .inl h1
   .refine .inr ⟨λe=>?_,λe=>?_,λx y hx hy=>?_⟩
    .subst e;simp at h1
    .subst e;simp at h2
    .rw [hx,hy] at h3;exact h3
  .exact pk h.1 k (by omega)
theorem oh{rs:List ROp}{p:Nat}{ms:List Nat}:∀{n:Nat},pj rs p ms n=true->∀i,i<n->pn rs p i (ms.getD i 0) i=true
 |0,_,i,hi=>by omega
 |n+1,h,i,hi=>by
  simp only[pj,zD] at h
  by_cases hin:i=n
  .subst hin;exact h.2
  .exact oh h.1 i (by omega)
def xI(P:Program)(rs:List ROp)(p:Nat):List Nat->St->(St->Prop)->Prop
 |[],s,K=>K s
 |i::l,s,K=>∃r,rs[i]? =some r/\r.run P (!(Nat.beq i p)) s λs'=>xI P rs p l s' K
def sY(P:Program)(p:Nat):Nat->List ROp->St->(St->Prop)->Prop
 |_,[],s,K=>K s
 |i,r::rs,s,K=>r.run P (!(Nat.beq i p)) s λs'=>sY P p (i+1) rs s' K
section
variable{P:Program}{rs:List ROp}{p:Nat}{K:St->Prop}
theorem lF{K':St->Prop}(hk:∀x,K x->K' x):∀{q:List ROp} {i:Nat} {s:St},sY P p i q s K->sY P p i q s K'
 |[],_,_,h=>hk _ h
 |_::_,_,_,h=>ROp.mono (λ_ hx=>lF hk hx) h
theorem vH:∀{q:List ROp} {k:Nat} {s:St},(∀(j:Nat) r,q[j]? =some r->rs[k+j]? =some r)->sY P p k q s K->xI P rs p (List.range' k q.length) s K
 |[],k,s,_,h=>h
 |r::q,k,s,hi,h=>by
  rw[zY,List.range'_succ];refine⟨r,by simpa using hi 0 r rfl,ROp.mono (λs' hs'=>?_) h⟩
  exact vH (k:=k+1) (λj r' hj=>by
   have:=hi (j+1) r' (by simpa using hj)
   rw[show k+1+j=k+(j+1) by omega];exact this) hs'
theorem H6{i:Nat}(h:i≠p):(!(Nat.beq i p))=true:=by rw[cu h];rfl
theorem Ax:∀{pre post:List Nat} {s:St},(∀k∈pre,k≠p)->xI P rs p (pre++post) s K->∃sm,lE P rs pre s sm/\xI P rs p post sm K
 |[],post,s,_,h=>⟨s,rfl,h⟩
 |k::pre,post,s,hn,⟨r,hr,h⟩=>by
  rw[H6 (hn k (by simp))] at h
  obtain⟨s1,h1,h2⟩:=ROp.ex h;obtain⟨sm,h3,h4⟩:=Ax (λk' hk'=>hn k' (by simp[hk'])) h2
  exact⟨sm,⟨s1,⟨r,hr,h1⟩,h3⟩,h4⟩
theorem vK:∀{pre post:List Nat} {s sm:St},(∀k∈pre,k≠p)->lE P rs pre s sm->xI P rs p post sm K->xI P rs p (pre++post) s K
 |[],post,s,sm,_,h,k=>by have h:s=sm:=h;subst h;exact k
 |k::pre,post,s,sm,hn,⟨s1,⟨r,hr,h1⟩,h2⟩,hk=>by
  refine⟨r,hr,?_⟩;rw[H6 (hn k (by simp))]
  refine ROp.mono (λs' e=>?_) h1;subst e;exact vK (λk' hk'=>hn k' (by simp[hk'])) h2 hk
end
section
variable{P:Program}{nt:Nat}{fl:Bool}{ops:Array Oper}{rs:List ROp}{E:Entry}{rd:Option Nat}{n:Nat}
theorem Iq{p:Nat}{K:St->Prop}(hc:∀(i:Nat) (o:Oper),ops[i]? =some o->∃r,rs[i]? =some r/\OpC P nt ops o r)(hi:qQ ops rs p=true){Q:Exit->Act->World->Prop}(hnt:E.nt=nt):
  ∀(fuel:Nat) (listed:Array Bool) (s:St) (G:Gh) (a:Act) (w:World),listed.size=ops.size->(ax ops listed).length<=fuel->mD ops (λi=>listed.getD i false=true)->xI P rs p (ax ops listed) s K->RS E G s a w->
   (∀s' G' a' w',K s'->RS E G' s' a' w'->Q .normal a' w')->wpAnyIn (F0 rd) n P .any ops Q fuel listed a w:=by
 have hready:∀(listed:Array Bool) i,listed.size=ops.size->i∈Region.ready .any ops listed->i<ops.size/\listed.getD i true=false/\∃o,ops[i]? =some o/\∀e∈o.after,Region.binds .any e=true->listed.getD e.on false=true:=λlisted i hl h=>by
  simp only[Region.ready,zp,ze,zD,zc] at h;obtain⟨h1,h2,h3⟩:=h;refine⟨h1,h2,ops[i],zj h1,λe he hb=>?_⟩;rw[zj h1] at h3;simp only[zM,ZU,ZQ,ZO,zc] at h3;rcases h3 e he with h4|h4
  .rw [hb] at h4;cases h4
  .exact h4
 intro fuel
 induction fuel with
 |zero=>
  intro listed s G a w hl hlen hD hex hs hQ;have hnil:ax ops listed=[]:=ZY.1 (by omega)
  rw[hnil] at hex;refine⟨?_,hQ s G a w hex hs⟩;rcases hq:Region.ready .any ops listed with _|⟨i,_⟩
  .rfl
  .obtain ⟨h1,h2,_⟩:=hready listed i hl (by rw[hq];simp)
   have:i∈ax ops listed:=by simp only[ax,zp,ze];exact⟨h1,by simp[h2]⟩
   rw[hnil] at this;cases this
 |succ fuel ih=>
  intro listed s G a w hl hlen hD hex hs hQ
  refine⟨λhr=>?_,λi hi'=>?_⟩
  .
   have hnil:ax ops listed=[]:=by
    rcases hq:ax ops listed with _|⟨i,l⟩
    .rfl
    .exfalso;have hsort:(ax ops listed).Pairwise (·<·):=List.pairwise_lt_range.filter _;rw[hq] at hsort;have hfirst:=(ZB.1 hsort).1;have hmem:i∈ax ops listed:=by rw[hq];simp
     simp only[ax,zp,ze,zc] at hmem
     have hin:i∈Region.ready .any ops listed:=by
      simp only[Region.ready,zp,ze,zD,zc];refine⟨hmem.1,hmem.2,?_⟩;rw[zj hmem.1];simp only[zM,ZU,ZQ,ZO,zc];intro e he
      cases hb:Region.binds .any e with
      |false=>exact .inl rfl
      |true=>
       have hlt:=eT (Bool.and_eq_true_iff.1 hi).1 i ops[i] (by simp[hmem.1]) e he hb
       rw[ZJ] at hlt;refine .inr ?_
       cases hlk:listed.getD e.on false with
       |true=>rfl
       |false=>
        exfalso
        have hlk2:listed.getD e.on true=false:=by
         have hsz:e.on<listed.size:=by rw[hl];omega
         simpa[hsz] using hlk
        have hin2:e.on∈ax ops listed:=by
         simp only[ax,zp,ze,zc];exact⟨by omega,hlk2⟩
        rw[hq] at hin2;rcases zI.1 hin2 with h5|h5
        .omega
        .have:=hfirst _ h5;omega
     rw[hr] at hin;cases hin
   rw[hnil] at hex;exact hQ s G a w hex hs
  .obtain ⟨h1,h2,o,ho,hpre⟩:=hready listed i hl hi';obtain⟨r,hr,hoc⟩:=hc i o ho;have hmem:i∈List.range ops.size:=by simpa using h1
   obtain⟨pre,post,e1,e2,e3⟩:=eQ (λk=>!listed.getD k true) i (List.range ops.size) hmem (by simp[h2]) yT
   have hrow:=oh (Bool.and_eq_true_iff.1 hi).2 i h1
   have hgd:∀k,listed.getD k true=false->listed.getD k false=false:=λk hk=>by
    simp only[zU] at hk|-
    cases hq:listed[k]? with
    |none=>rw[hq] at hk;cases hk
    |some b=>rw[hq] at hk;simpa using hk
   have hex':xI P rs p (pre++i::post) s K:=by rw[<-e1];exact hex
   have hpreI:∀k∈pre,i≠p/\k≠p/\∀x y,rs[k]? =some x->rs[i]? =some y->indep x y=true:=λk hk=>by
    obtain⟨hki,hkl⟩:=e2 k hk;rcases pk hrow k hki with hb|hb
    .exfalso;have hml:i<(aK [] ops.toList).length:=by rw[gU];simpa using h1
     have:=mc hD (os:=ops.toList) (acc:=[]) (λj o' hj=>by simpa using hj) (λi m o' hm=>by simp at hm) (λi hlt=>by simp at hlt) i ((aK [] ops.toList).getD i 0) o (by simp[zA hml]) ho hpre k hb
     have h4:=hgd k (by simpa using hkl)
     rw[h4] at this;cases this
    .exact hb
   obtain⟨dr,K1,hrun,hrest⟩:∃dr K1,r.run P dr s K1/\∀s1,K1 s1->xI P rs p (pre++post) s1 K:=by
    cases pre with
    |nil=>
     obtain⟨r',hr',h3⟩:=hex';rw[hr] at hr';cases hr'
     exact⟨_,_,h3,λs1 h4=>h4⟩
    |cons k0 pre'=>
     obtain⟨hip,_⟩:=hpreI k0 (by simp)
     obtain⟨sm,h3,h4⟩:=Ax (pre:=(k0::pre')++[i]) (post:=post) (λk hk=>by
      rcases zZ.1 hk with h5|h5
      .exact (hpreI k h5).2.1
      .simp at h5;rw[h5];exact hip) (by simpa using hex')
     obtain⟨s1,⟨r',hr',h5⟩,h6⟩:=front h3 (λk hk=>(hpreI k hk).2.2);rw[hr] at hr';cases hr';refine⟨true,_,h5,λs2 e=>?_⟩;subst e;exact vK (λk hk=>(hpreI k hk).2.1) (by simpa using h6) h4
   refine iK hoc ho hrun hs hnt λs' G' a' w' hs1 hs' _=>?_
   have hset:ax ops (listed.setIfInBounds i true)=pre++post:=by
    rw[<-e3];unfold ax;refine Zp λk hk=>?_
    by_cases hki:k=i
    .subst hki;have:k<listed.size:=by rw[hl];exact h1
     simp[this]
    .have hne:(k==i)=false:=by simpa using hki
     simp[zX (Ne.symm hki),hne]
   refine ih _ _ G' a' w' (by simpa using hl) ?_ ?_ (by rw[hset];exact hrest _ hs1) hs' hQ
   .rw [hset];have:(ax ops listed).length=(pre++i::post).length:=by rw[<-e1];rfl
    simp at this|-;omega
   .intro j oj hj hDj e he hb
    have hkeep:∀k,listed.getD k false=true->(listed.setIfInBounds i true).getD k false=true:=λk hk=>by
     by_cases hki:k=i
     .subst hki;have:k<listed.size:=by rw[hl];exact h1
      simp[this]
     .simp only[zU] at hk|-;rw[zX (Ne.symm hki)];exact hk
    by_cases hji:j=i
    .subst hji;rw[ho] at hj;cases hj;exact hkeep _ (hpre e he hb)
    .refine hkeep _ (hD j oj hj ?_ e he hb);simp only[zU] at hDj|-
     rwa [zX (Ne.symm hji)] at hDj
theorem WP.AH{p:Nat}(hm:P.follows .mixedOrders=true){id:Nat}{tk:Nat->Nat->Bool}(hc:qb P nt tk ops ops.toList=some rs)(hi:qQ ops rs p=true){s:St}{Q:AX->St->Prop}(h:sY P p 0 rs s (Q .normal)):WP P nt fl (.region id ops true) s Q:=λE G a w rd n hs he=>by
 obtain⟨h1,h2⟩:=ir hc;have h3:=vH (rs:=rs) (k:=0) (λj r hj=>by simp[hj]) h
 have hlen:rs.length=ops.size:=by simpa using h1.symm
 refine wpIn_region_any hm ?_;refine Iq (λi o ho=>h2 i o (by simpa using ho)) hi he.1 ops.size _ s G a _ (by simp) ?_ ?_ ?_ hs.drew λs' G' a' w' h4 h5=>⟨.normal,s',G',rfl,h4,h5⟩
 .exact ZP (yB _ _) (by simp)
 .intro i o _ hD;simp only[zU,yI] at hD;split at hD<;>cases hD
 .have:ax ops (Array.replicate ops.size false)=List.range' 0 rs.length:=by
   unfold ax
   rw[yF.2 (λi hi=>by
    have:=ze.1 hi;simp[this]),List.range_eq_range',hlen]
  rw[this];exact h3
end
end Go.AM
