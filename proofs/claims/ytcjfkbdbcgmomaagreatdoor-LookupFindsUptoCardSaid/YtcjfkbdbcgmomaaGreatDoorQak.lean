/-
  By an AI agent.
-/
import Derived.Test.YtcjfkbdbcgmomaaGreatDoorQaj
set_option linter.unusedSimpArgs false
set_option linter.unusedVariables false
namespace Go.AM
open Go.CK Go.RowKit
section
variable{P:Program}
theorem ROp.mono{a:Bool}{r:ROp}{s:St}{K K':St->Prop}(hk:∀x,K x->K' x)(h:r.run P a s K):r.run P a s K':=by
 unfold ROp.run at h|-;split at h
 .exact Am hk h
 .split at h
  .exact ⟨λe=>Am hk (h.1 e),λe=>hk _ (h.2 e)⟩
  .exact h
theorem ij{a:Bool}{K K':St->Prop}(hk:∀x,K x->K' x):∀{rs:List ROp} {s:St},AO P a rs s K->AO P a rs s K'
 |[],_,h=>hk _ h
 |_::_,_,h=>ROp.mono (λ_ b=>ij hk b) h
theorem ROp.ex{r:ROp}{s:St}{K:St->Prop}(h:r.run P true s K):∃s1,r.run P true s (λx=>x=s1)/\K s1:=by
 unfold ROp.run at h|-;split at h
 .exact MM h
 .rename_i g want f;split at h
  .rename_i b hb
   by_cases a:b=want
   .obtain ⟨s1,d,c⟩:=MM (h.1 a);exact⟨s1,⟨λ_=>d,λe=>absurd a e⟩,c⟩
   .exact ⟨_,⟨λe=>absurd e a,λ_=>rfl⟩,h.2 a⟩
  .exact h.elim
theorem qG{r:ROp}{k:Nat}(h:r.rx.nL k=true):k∈r.writes:=by
 unfold RX.nL at h;simp only[ROp.writes,zY];refine .inr ?_;split at h
 .simp [zO h]
 .simp [zO h]
 .cases h
theorem tR{r:ROp}{k:Nat}(h:k∉r.writes):r.dst≠some k/\r.rx.nL k=false:=by
 constructor
 .intro e;exact h (by simp[ROp.writes,e])
 .cases hs:r.rx.nL k with
  |false=>rfl
  |true=>exact absurd (qG hs) h
theorem JJ{r:ROp}{k:Nat}(h:k∉r.reads):k∉slotsOf r.rx.bp/\∀g w,r.guard=some (g,w)->g≠k:=by
 constructor
 .intro e;exact h (by simp[ROp.reads,e])
 .intro g w e a;exact h (by simp[ROp.reads,e,a])
theorem ROp.frame{r:ROp}{k:Nat}(v:AV)(m:k∉r.reads)(l:k∉r.writes){s:St}{K:St->Prop}:r.run P true (s.put (some k) v) K↔r.run P true s (λf=>K (f.put (some k) v)):=by
 obtain⟨c,a2⟩:=tR l;obtain⟨d,n⟩:=JJ m;unfold ROp.run;split
 .exact B9 v d c
 .rename_i g want h;have b:=n g want h;rw[show (s.put (some k) v).ev (.t g)=s.ev (.t g) from St.Bk s k v (by simp[Opd.cn];exact Ne.symm b)]
  split
  .have a:∀y,(s.put (some k) v).put r.dst y=(s.put r.dst y).put (some k) v:=λy=>by
    cases i:r.dst with
    |none=>rfl
    |some j=>exact St.put_comm s v y (λe=>c (by rw[i,e]))
   rw[a,B9 v d c]
  .exact Iff.rfl
theorem ROp.mod{r:ROp}{s s1:St}(h:r.run P true s (λx=>x=s1)){k:Nat}(f:k∉r.writes):s1.get k=s.get k:=by
 obtain⟨c,a2⟩:=tR f;unfold ROp.run at h;split at h
 .exact JD h c a2
 .rename_i g want i;split at h
  .rename_i b hb
   by_cases a:b=want
   .exact JD (h.1 a) c a2
   .have:=h.2 a;subst this
    cases d:r.dst with
    |none=>rfl
    |some j=>exact St.fu s j _ (λe=>c (by rw[d,e]))
  .exact h.elim
theorem OH{s a:St}(h:a.bs=s.bs):a.rd=s.rd:=by
 funext x
 cases x<;>simp only[St.rd,h]
theorem ROp.cn{r:ROp}(hp:r.rx.kK=true){s s1:St}(h:r.run P true s (λx=>x=s1)):
  ∃ps,s1=s.oI ps/\(∀p∈ps,p.1∈r.writes)/\∀a,(∀k∈r.reads,a.get k=s.get k)->(r.rx.looks=true->∀o∈r.rx.bp,r.rx.vk (s.ev o)->∀cs,s.rd (s.ev o)=some cs->a.rd (s.ev o)=some cs)->r.run P true a (λx=>x=a.oI ps):=by
 have hw:∀k,(r.dst=some k\/r.rx.nL k=true)->k∈r.writes:=λk hk=>by
  rcases hk with hk|hk
  .simp [ROp.writes,hk]
  .exact qG hk
 have main:∀{s1},r.rx.run P true s r.dst (λx=>x=s1)->∃ps,s1=s.oI ps/\(∀p∈ps,p.1∈r.writes)/\∀a,(∀k∈r.reads,a.get k=s.get k)->(r.rx.looks=true->∀o∈r.rx.bp,r.rx.vk (s.ev o)->∀cs,s.rd (s.ev o)=some cs->a.rd (s.ev o)=some cs)->r.rx.run P true a r.dst (λx=>x=a.oI ps):=λ{s1} h=>by
  obtain⟨ps,m,l,j⟩:=JC hp h;refine⟨ps,m,λp hp=>hw _ (l p hp),λa hr i=>j a (λk hk=>hr k ?_) i⟩;simp only[ROp.reads,zY];exact .inr hk
 unfold ROp.run at h|-;split at h
 .exact main h
 .rename_i g want u;split at h
  .rename_i b hb
   have f:∀a:St,(∀k∈r.reads,a.get k=s.get k)->gv want (a.ev (.t g))=some b:=λa hr=>by
    rw[<-hb];congr 1;exact Bl λk hk=>hr k (by simp[Opd.cn] at hk;simp[ROp.reads,u,hk])
   by_cases c:b=want
   .obtain ⟨ps,m,l,j⟩:=main (h.1 c);refine⟨ps,m,l,λa hr i=>?_⟩;simp only[f a hr];exact⟨λ_=>j a hr i,λe=>absurd c e⟩
   .have d:∃ps,(∀s:St,s.put r.dst (.tup [])=s.oI ps)/\∀p∈ps,r.dst=some p.1:=by
     cases r.dst with
     |none=>exact⟨[],λs=>rfl,λp hp=>by cases hp⟩
     |some k=>exact⟨[(k,.tup [])],λs=>rfl,λp hp=>by simp at hp;rw[hp]⟩
    obtain⟨ps,n,q⟩:=d;refine⟨ps,by rw[<-h.2 c,n],λp hp=>hw _ (.inl (q p hp)),λa hr i=>?_⟩
    simp only[f a hr];exact⟨λe=>absurd e c,λ_=>by rw[n]⟩
  .exact h.elim
theorem ROp.FB{r:ROp}:∀(ps:List (Nat×AV)),(∀p∈ps,p.1∉r.reads/\p.1∉r.writes)->∀{s:St} {K:St->Prop},r.run P true (s.oI ps) K↔r.run P true s (λa=>K (a.oI ps))
 |[],_,s,K=>Iff.rfl
 |(k,v)::ps,h,s,K=>by
  simp only[St.oI];rw[ROp.FB ps (λp hp=>h p (by simp[hp]))]
  obtain⟨c,b⟩:=h (k,v) (by simp)
  rw[ROp.frame v c b]
theorem St.LQ(s:St)(ps:List (Nat×AV)):(s.oI ps).rd=s.rd:=OH (St.LS s ps)
theorem HP(s:St)(ds:List AV)(x:AV)(cs:List AV)(h:s.rd x=some cs):(s.gh ds).rd x=some cs:=by
 cases x<;>first|(cases h;done)|exact h|skip
 all_goals
  simp only[St.rd] at h|-;split at h
  .rename_i es hb
   have:∀b es,aa s.bs b=some es->aa (s.gh ds).bs b=some es:=λb es hb=>by
    simp only[St.gh];rw[aq,if_neg (by have:=aC hb;omega)];exact hb
   rw[this _ _ hb];exact h
  .cases h
theorem ROp.Od{r:ROp}(hb:r.rx.Kl=true){s s1:St}(h:r.run P true s (λx=>x=s1)):∀x cs,s.rd x=some cs->s1.rd x=some cs:=by
 have main:∀{s1},r.rx.run P true s r.dst (λx=>x=s1)->∀x cs,s.rd x=some cs->s1.rd x=some cs:=λ{s1} h=>by
  cases hr:r.rx<;>rw[hr] at hb<;>simp[RX.Kl] at hb;rename_i o;rw[hr] at h;have:=(af.1 h).2;subst this;rw[St.rq];exact HP s _
 unfold ROp.run at h;split at h
 .exact main h
 .rename_i g want d;split at h
  .rename_i b c
   by_cases a:b=want
   .exact main (h.1 a)
   .have:=h.2 a;subst this;rw[St.rq];exact λ_ _ e=>e
  .exact h.elim
theorem Nu{s:St}{b bnd:Nat}{cs:List AV}{x:AV}(h:J7 bnd x=true)(hb:bnd<=b):(s.aU b cs).rd x=s.rd x:=by
 cases x<;>first|rfl|skip
 case ptr c off=>
  simp only[J7,Nat.blt_eq] at h;have a:¬b=c:=by omega
  simp only[St.rd,St.aU,aa,zq,if_neg a]
 case elp=>simp[J7] at h
theorem ROp.Nd{r:ROp}{rx:RX}(hb:E3 rx r.rx=true){s s1:St}(h:r.run P true s (λx=>x=s1)):∀o,rx.vk (s.ev o)->∀cs,s.rd (s.ev o)=some cs->s1.rd (s.ev o)=some cs:=by
 have main:∀{s1},r.rx.run P true s r.dst (λx=>x=s1)->∀o,rx.vk (s.ev o)->∀cs,s.rd (s.ev o)=some cs->s1.rd (s.ev o)=some cs:=λ{s1} h=>by
  unfold E3 at hb;split at hb
  .rename_i b _ _ _ c n p x hr;rw[hr] at h;have h:wK c n s (s.ev p) (s.ev x) (λx=>x=s1):=h;unfold wK at h;split at h
   .obtain ⟨k,d⟩:=af.1 h;simp only[bW] at d;split at d
    .have:=(af.1 d).2;subst this;intro o i cs f;rw[Nu i (by have:=zr k;have:=zr hb;omega)];exact f
    .exact d.elim
   .exact h.elim
  .cases hb
 unfold ROp.run at h;split at h
 .exact main h
 .rename_i g want l;split at h
  .rename_i b j
   by_cases a:b=want
   .exact main (h.1 a)
   .have:=h.2 a;subst this;rw[St.rq];exact λ_ _ _ e=>e
  .exact h.elim
theorem MB{x y:ROp}(r:indep x y=true){s s1 s2:St}(l:x.run P true s (λq=>q=s1))(j:y.run P true s1 (λq=>q=s2)):∃a,y.run P true s (λq=>q=a)/\x.run P true a (λq=>q=s2):=by
 simp only[indep,zD,ZM,zb] at r;obtain⟨⟨i,h⟩,b⟩:=r;have i:=apart_spec i;have h:=apart_spec h
 have d:∀k,k∈x.writes->k∉y.reads/\k∉y.writes:=λk hk=>by
  have:=i k hk;simp only[zY,not_or] at this;exact this
 rcases b with ⟨hp,b⟩|⟨hp,n⟩
 .
  obtain⟨ps,rfl,c,m⟩:=ROp.cn hp l;rw[ROp.FB ps (λp hp=>d _ (c p hp))] at j;obtain⟨a,f,v⟩:=ROp.ex j;refine⟨a,f,?_⟩;have:=m a (λk hk=>ROp.mod f (λe=>h k e hk)) (λg=>?_)
  .rw [v] at this;exact this
  .rcases b with b|b|b|b
   .obtain ⟨w,u,_⟩:=ROp.cn b f;rw[u,St.LQ];exact λ_ _ _ _ e=>e
   .exact λo _ _ cs e=>ROp.Od b f _ cs e
   .rw [b] at g;cases g
   .exact λo _ n=>ROp.Nd b f o n
 .obtain ⟨ps,rfl,c,m⟩:=ROp.cn hp j;have f:=m s (λk hk=>(ROp.mod l (λe=>(d k e).1 hk)).symm) (λe=>by rw[n] at e;cases e)
  refine⟨_,f,?_⟩;rw[ROp.FB ps (λp hp=>⟨λe=>h _ (c p hp) e,λe=>(d _ e).2 (c p hp)⟩)];exact ROp.mono (λq t=>by rw[t]) l
variable{rs:List ROp}
def AOp(P:Program)(rs:List ROp)(i:Nat)(s s1:St):Prop:=∃r,rs[i]? =some r/\r.run P true s (λq=>q=s1)
def lL(P:Program)(rs:List ROp):List Nat->St->St->Prop
 |[],s,a=>s=a
 |i::l,s,a=>∃s1,AOp P rs i s s1/\lL P rs l s1 a
theorem front{i:Nat}:∀{pre post:List Nat} {s a:St},lL P rs (pre++i::post) s a->(∀k∈pre,∀x y,rs[k]? =some x->rs[i]? =some y->indep x y=true)->∃s1,AOp P rs i s s1/\lL P rs (pre++post) s1 a
 |[],post,s,a,h,_=>h
 |k::pre,post,s,a,h,j=>by
  obtain⟨p,⟨x,g,d⟩,o⟩:=h;obtain⟨b,⟨y,f,c⟩,n⟩:=front o (λk' e=>j k' (by simp[e]))
  obtain⟨s1,m,l⟩:=MB (j k (by simp) x y g f) d c
  exact⟨s1,⟨y,f,m⟩,b,⟨x,g,l⟩,n⟩
def aQ(acc:List Nat):List Oper->List Nat
 |[]=>acc
 |o::os=>aQ (acc++[o.after.toList.foldl (λm e=>if Region.binds .any e then m|||2^e.on|||acc.getD e.on 0 else m) 0]) os
def nN(rs:List ROp)(i:Nat)(m:Nat):Nat->Bool
 |0=>true
 |k+1=>nN rs i m k&&(m.testBit k||(match rs[k]?,rs[i]? with|some x,some y=>indep x y|_,_=>true))
def ou(rs:List ROp)(ms:List Nat):Nat->Bool
 |0=>true
 |i+1=>ou rs ms i&&nN rs i (ms.getD i 0) i
def jy:List Oper->Nat->Bool
 |[],_=>true
 |o::os,i=>o.after.toList.all (λe=>!(Region.binds .any e)||Nat.blt e.on i)&&jy os (i+1)
def qP(ops:Array Oper)(rs:List ROp):Bool:=jy ops.toList 0&&ou rs (aQ [] ops.toList) ops.size
theorem eG:∀{os:List Oper} {k:Nat},jy os k=true->∀(j:Nat) o,os[j]? =some o->∀e∈o.after,Region.binds .any e=true->e.on<k+j
 |[],_,_,j,o,a,_,_,_=>by simp at a
 |o::os,k,h,j,o',a,e,he,hb=>by
  simp only[jy,zD,zS] at h
  cases j with
  |zero=>
   simp at a;subst a;have:=h.1 e (by simpa using he)
   rw[hb] at this
   simpa[Nat.blt_eq] using this
  |succ j=>
   have:=eG h.2 j o' (by simpa using a) e he hb
   omega
def mE(ops:Array Oper)(D:Nat->Prop):Prop:=∀i o,ops[i]? =some o->D i->∀e∈o.after,Region.binds .any e=true->D e.on
theorem vL(acc:List Nat):∀(es:List Edge) (m k:Nat),(es.foldl (λm e=>if Region.binds .any e then m|||2^e.on|||acc.getD e.on 0 else m) m).testBit k=true->m.testBit k=true\/∃e∈es,Region.binds .any e=true/\(k=e.on\/(acc.getD e.on 0).testBit k=true)
 |[],m,k,h=>.inl h
 |e::es,m,k,h=>by
  simp only[Zv] at h;rcases vL acc es _ k h with a|⟨f,b,d,c⟩
  .split at a
   .rename_i hb;simp only[Nat.testBit_or,ZM,Nat.testBit_two_pow,decide_eq_true_eq] at a;rcases a with (a|a)|a
    .exact .inl a
    .exact .inr ⟨e,by simp,hb,.inl a.symm⟩
    .exact .inr ⟨e,by simp,hb,.inr a⟩
   .exact .inl a
  .exact .inr ⟨f,by simp[b],d,c⟩
theorem me{ops:Array Oper}{D:Nat->Prop}(w:mE ops D):∀{os:List Oper} {acc:List Nat},(∀(j:Nat) o,os[j]? =some o->ops[acc.length+j]? =some o)->
  (∀(i m:Nat) o,acc[i]? =some m->ops[i]? =some o->(∀e∈o.after,Region.binds .any e=true->D e.on)->∀k,m.testBit k=true->D k)->
  (∀(i:Nat),i<acc.length->∃o,ops[i]? =some o)->
  ∀(i m:Nat) o,(aQ acc os)[i]? =some m->ops[i]? =some o->(∀e∈o.after,Region.binds .any e=true->D e.on)->∀k,m.testBit k=true->D k
 |[],acc,_,h,_=>h
 |o::os,acc,v,h,hex=>by
  simp only[aQ];have n:=v 0 o rfl;refine me w (λj o' x=>?_) (λi m o' hm b he k hk=>?_) (λi a=>?_)
  .have:=v (j+1) o' (by simpa using x)
   rw[zC];rw[show acc.length+[_].length+j=acc.length+(j+1) by simp;omega];exact this
  .by_cases a:i<acc.length
   .rw [zK a] at hm;exact h i m o' hm b he k hk
   .rw [zZ (by omega)] at hm
    have q:i=acc.length:=by
     rcases zt (i-acc.length) 1 with l|l
     .omega
     .rw [zR (by simpa using l)] at hm;cases hm
    subst q;rw[yN] at hm;simp only[Zl,zN] at hm;subst hm;rw[Zf] at n;rw[n] at b;cases b;rcases vL acc _ _ _ hk with l|⟨e,s,r,g⟩
    .simp at l
    .have f:=he e (by simpa using s) r
     rcases g with rfl|g
     .exact f
     .have a:e.on<acc.length:=by
       rcases zt e.on acc.length with t|t
       .exact t
       .simp [zR t] at g
      obtain⟨u,c⟩:=hex e.on a;have p:acc[e.on]? =some (acc.getD e.on 0):=by simp[zA a]
      exact h e.on _ u p c (λA z y=>w e.on u c f A z y) k g
  .rw [zC] at a
   by_cases d:i<acc.length
   .exact hex i d
   .have:i=acc.length:=by simp at a;omega
    subst this;exact⟨o,by simpa using n⟩
theorem oW{rs:List ROp}{i m:Nat}:∀{n:Nat},nN rs i m n=true->∀k,k<n->m.testBit k=true\/∀x y,rs[k]? =some x->rs[i]? =some y->indep x y=true
 |0,_,k,hk=>by omega
 |n+1,h,k,hk=>by
  simp only[nN,zD,ZM] at h
  by_cases b:k=n
  .subst b;rcases h.2 with a|a
   .exact .inl a
   .refine .inr λx y d c=>?_;rw[d,c] at a;exact a
  .exact oW h.1 k (by omega)
theorem nM{rs:List ROp}{ms:List Nat}:∀{n:Nat},ou rs ms n=true->∀i,i<n->nN rs i (ms.getD i 0) i=true
 |0,_,i,b=>by omega
 |n+1,h,i,b=>by
  simp only[ou,zD] at h
  by_cases a:i=n
  .subst a;exact h.2
  .exact nM h.1 i (by omega)
theorem hH:∀(os:List Oper) (acc:List Nat),(aQ acc os).length=acc.length+os.length
 |[],acc=>by simp[aQ]
 |o::os,acc=>by rw[aQ,hH os];simp;omega
theorem xM{K:St->Prop}:∀{q:List ROp} {k:Nat} {s:St},(∀(j:Nat) r,q[j]? =some r->rs[k+j]? =some r)->AO P true q s K->∃a,lL P rs (List.range' k q.length) s a/\K a
 |[],_,s,_,h=>⟨s,rfl,h⟩
 |r::q,k,s,b,h=>by
  obtain⟨s1,g,f⟩:=ROp.ex h
  obtain⟨a,e,d⟩:=xM (k:=k+1) (λj r' c=>by
   have:=b (j+1) r' (by simpa using c)
   rw[show k+1+j=k+(j+1) by omega];exact this) f
  refine⟨a,?_,d⟩;rw[zX,List.range'_succ];exact⟨s1,⟨r,by simpa using b 0 r rfl,g⟩,e⟩
end
theorem eE(p:Nat->Bool)(i:Nat):∀(l:List Nat),i∈l->p i=true->l.Pairwise (·<·)->∃pre post,l.filter p=pre++i::post/\(∀k∈pre,k<i/\p k=true)/\l.filter (λk=>p k&&!(k==i))=pre++post
 |[],h,_,_=>by cases h
 |x::l,h,hp,hs=>by
  obtain⟨d,f⟩:=ZA.1 hs
  by_cases e:x=i
  .subst e;refine⟨[],l.filter p,by simp[hp],by simp,?_⟩
   simp only[Zi];rw[Zs (by simp)]
   refine Zm λk hk=>?_;have:=d k hk;have c:(k==x)=false:=by simp;omega
   simp[c]
  .have b:i∈l:=by
    rcases zI.1 h with h|h
    .exact absurd h.symm e
    .exact h
   obtain⟨pre,post,n,m,j⟩:=eE p i l b hp f;have g:=d i b;have c:(x==i)=false:=by simpa using e
   cases a:p x with
   |true=>
    refine⟨x::pre,post,by rw[List.filter_cons_of_pos a,n];rfl,λk hk=>?_,?_⟩
    .rcases zI.1 hk with rfl|hk
     .exact ⟨g,a⟩
     .exact m k hk
    .rw [List.filter_cons_of_pos (by simp[a,c]),j];rfl
   |false=>
    refine⟨pre,post,by rw[Zs (by simp[a]),n],m,?_⟩
    rw[Zs (by simp[a]),j]
section
variable{P:Program}{nt:Nat}{fl:Bool}{ops:Array Oper}{rs:List ROp}{E:Entry}{rd:Option Nat}{n:Nat}
def aB(ops:Array Oper)(listed:Array Bool):List Nat:=(List.range ops.size).filter λi=>!listed.getD i true
theorem IT(hc:∀(i:Nat) (o:Oper),ops[i]? =some o->∃r,rs[i]? =some r/\OpC P nt ops o r)(hi:qP ops rs=true){Q:Exit->Act->World->Prop}(hnt:E.nt=nt):
  ∀(fuel:Nat) (listed:Array Bool) (s D:St) (G:Gh) (a:Act) (w:World),listed.size=ops.size->(aB ops listed).length<=fuel->mE ops (λi=>listed.getD i false=true)->lL P rs (aB ops listed) s D->RS E G s a w->
   (∀G' V w',RS E G' D V w'->V.defers=a.defers->Q .normal V w')->wpAnyIn (F0 rd) n P .any ops Q fuel listed a w:=by
 have f:∀(listed:Array Bool) i,listed.size=ops.size->i∈Region.ready .any ops listed->i<ops.size/\listed.getD i true=false/\∃o,ops[i]? =some o/\∀e∈o.after,Region.binds .any e=true->listed.getD e.on false=true:=λlisted i B h=>by
  simp only[Region.ready,zo,zd,zD,zb] at h;obtain⟨t,U,h3⟩:=h;refine⟨t,U,ops[i],zi t,λe he hb=>?_⟩;rw[zi t] at h3;simp only[zM,ZS,ZO,ZM,zb] at h3;rcases h3 e he with I|I
  .rw [hb] at I;cases I
  .exact I
 intro fuel
 induction fuel with
 |zero=>
  intro listed s D G a w B hlen hD hex hs X;have g:aB ops listed=[]:=ZV.1 (by omega)
  rw[g] at hex;have hex:s=D:=hex;subst hex;refine⟨?_,X G a w hs rfl⟩;rcases z:Region.ready .any ops listed with _|⟨i,_⟩
  .rfl
  .obtain ⟨t,U,_⟩:=f listed i B (by rw[z];simp)
   have:i∈aB ops listed:=by simp only[aB,zo,zd];exact⟨t,by simp[U]⟩
   rw[g] at this;cases this
 |succ fuel ih=>
  intro listed s D G a w B hlen hD hex hs X
  refine⟨λhr=>?_,λi hi'=>?_⟩
  .
   have g:aB ops listed=[]:=by
    rcases z:aB ops listed with _|⟨i,l⟩
    .rfl
    .exfalso;have p:(aB ops listed).Pairwise (·<·):=List.pairwise_lt_range.filter _;rw[z] at p;have u:=(ZA.1 p).1;have c:i∈aB ops listed:=by rw[z];simp
     simp only[aB,zo,zd,zb] at c
     have R:i∈Region.ready .any ops listed:=by
      simp only[Region.ready,zo,zd,zD,zb];refine⟨c.1,c.2,?_⟩;rw[zi c.1];simp only[zM,ZS,ZO,ZM,zb];intro e he
      cases hb:Region.binds .any e with
      |false=>exact .inl rfl
      |true=>
       have H:=eG (Bool.and_eq_true_iff.1 hi).1 i ops[i] (by simp[c.1]) e he hb
       rw[ZI] at H;refine .inr ?_
       cases hlk:listed.getD e.on false with
       |true=>rfl
       |false=>
        exfalso
        have M:listed.getD e.on true=false:=by
         have Z:e.on<listed.size:=by rw[B];omega
         simpa[Z] using hlk
        have C:e.on∈aB ops listed:=by
         simp only[aB,zo,zd,zb];exact⟨by omega,M⟩
        rw[z] at C;rcases zI.1 C with Y|Y
        .omega
        .have:=u _ Y;omega
     rw[hr] at R;cases R
   rw[g] at hex;have hex:s=D:=hex;subst hex;exact X G a w hs rfl
  .obtain ⟨t,U,o,W,A⟩:=f listed i B hi';obtain⟨r,hr,hoc⟩:=hc i o W;have c:i∈List.range ops.size:=by simpa using t
   obtain⟨pre,post,e1,e2,e3⟩:=eE (λk=>!listed.getD k true) i (List.range ops.size) c (by simp[U]) yO
   have K:=nM (Bool.and_eq_true_iff.1 hi).2 i t
   have hgd:∀k,listed.getD k true=false->listed.getD k false=false:=λk hk=>by
    simp only[zT] at hk|-
    cases z:listed[k]? with
    |none=>rw[z] at hk;cases hk
    |some b=>rw[z] at hk;simpa using hk
   have S:lL P rs (pre++i::post) s D:=by rw[<-e1];exact hex
   obtain⟨s1,⟨r',L,J⟩,F⟩:=front S (λk hk x y hx hy=>by
    obtain⟨d,hkl⟩:=e2 k hk;rcases oW K k d with hb|hb
    .exfalso;have hml:i<(aQ [] ops.toList).length:=by rw[hH];simpa using t
     have:=me hD (os:=ops.toList) (acc:=[]) (λj o' O=>by simpa using O) (λi m o' hm=>by simp at hm) (λi H=>by simp at H) i ((aQ [] ops.toList).getD i 0) o (by simp[zA hml]) W A k hb
     have I:=hgd k (by simpa using hkl)
     rw[I] at this;cases this
    .exact hb x y hx hy)
   rw[hr] at L;cases L;refine iL hoc W J hs hnt λs' G' V w' hs1 hs' hd=>?_;subst hs1
   have v:aB ops (listed.setIfInBounds i true)=pre++post:=by
    rw[<-e3];unfold aB;refine Zm λk hk=>?_
    by_cases d:k=i
    .subst d;have:k<listed.size:=by rw[B];exact t
     simp[this]
    .have hne:(k==i)=false:=by simpa using d
     simp[zW (Ne.symm d),hne]
   refine ih _ _ _ G' V w' (by simpa using B) ?_ ?_ (by rw[v];exact F) hs' λG2 a2 w2 Y h6=>X G2 a2 w2 Y (h6.trans hd)
   .rw [v];have:(aB ops listed).length=(pre++i::post).length:=by rw[<-e1];rfl
    simp at this|-;omega
   .intro j oj O T e he hb
    have q:∀k,listed.getD k false=true->(listed.setIfInBounds i true).getD k false=true:=λk hk=>by
     by_cases d:k=i
     .subst d;have:k<listed.size:=by rw[B];exact t
      simp[this]
     .simp only[zT] at hk|-;rw[zW (Ne.symm d)];exact hk
    by_cases N:j=i
    .subst N;rw[W] at O;cases O;exact q _ (A e he hb)
    .refine q _ (hD j oj O ?_ e he hb);simp only[zT] at T|-
     rwa [zW (Ne.symm N)] at T
theorem WP.ur(hm:P.follows .mixedOrders=true){id:Nat}{e:Nat->Nat->Bool}(l:qX P nt e ops ops.toList=some rs)(b:qP ops rs=true){s:St}{Q:AX->St->Prop}(h:AO P true rs s (Q .normal)):WP P nt fl (.region id ops true) s Q:=λE G a w rd n hs he=>by
 obtain⟨u,t⟩:=iq l;obtain⟨d,q,p⟩:=xM (rs:=rs) (k:=0) (λj r g=>by simp[g]) h
 have hlen:rs.length=ops.size:=by simpa using u.symm
 refine wpIn_region_any hm ?_;refine IT (λi o f=>t i o (by simpa using f)) b he.1 ops.size _ s d G a _ (by simp) ?_ ?_ ?_ hs.drew λG' v w' m _=>⟨.normal,d,G',rfl,p,m⟩
 .exact ZN (Zy _ _) (by simp)
 .intro i o _ c;simp only[zT,yE] at c;split at c<;>cases c
 .have:aB ops (Array.replicate ops.size false)=List.range' 0 rs.length:=by
   unfold aB
   rw[yC.2 (λi b=>by
    have:=zd.1 b;simp[this]),List.range_eq_range',hlen]
  rw[this];exact q
end
end Go.AM
namespace Go.AM
open Go.CK Go.RowKit
def p6(rs:List ROp)(p i:Nat)(m:Nat):Nat->Bool
 |0=>true
 |k+1=>p6 rs p i m k&&(m.testBit k||(!(Nat.beq i p)&&(!(Nat.beq k p)&&(match rs[k]?,rs[i]? with|some x,some y=>indep x y|_,_=>true))))
def pZ(rs:List ROp)(p:Nat)(ms:List Nat):Nat->Bool
 |0=>true
 |i+1=>pZ rs p ms i&&p6 rs p i (ms.getD i 0) i
def r7(ops:Array Oper)(rs:List ROp)(p:Nat):Bool:=jy ops.toList 0&&pZ rs p (aQ [] ops.toList) ops.size
theorem p5{rs:List ROp}{p i m:Nat}:∀{n:Nat},p6 rs p i m n=true->∀k,k<n->m.testBit k=true\/(i≠p/\k≠p/\∀x y,rs[k]? =some x->rs[i]? =some y->indep x y=true)
 |0,_,k,hk=>by omega
 |n+1,h,k,hk=>by
  simp only[p6,zD,ZM,zb] at h
  by_cases a:k=n
  .subst a;rcases h.2 with b|⟨b,g,c⟩
   .exact .inl b
   .refine .inr ⟨λe=>?_,λe=>?_,λx y f d=>?_⟩
    .subst e;simp at b
    .subst e;simp at g
    .rw [f,d] at c;exact c
  .exact p5 h.1 k (by omega)
theorem oT{rs:List ROp}{p:Nat}{ms:List Nat}:∀{n:Nat},pZ rs p ms n=true->∀i,i<n->p6 rs p i (ms.getD i 0) i=true
 |0,_,i,b=>by omega
 |n+1,h,i,b=>by
  simp only[pZ,zD] at h
  by_cases a:i=n
  .subst a;exact h.2
  .exact oT h.1 i (by omega)
def Ah(P:Program)(rs:List ROp)(p:Nat):List Nat->St->(St->Prop)->Prop
 |[],s,K=>K s
 |i::l,s,K=>∃r,rs[i]? =some r/\r.run P (!(Nat.beq i p)) s λa=>Ah P rs p l a K
def uc(P:Program)(p:Nat):Nat->List ROp->St->(St->Prop)->Prop
 |_,[],s,K=>K s
 |i,r::rs,s,K=>r.run P (!(Nat.beq i p)) s λa=>uc P p (i+1) rs a K
section
variable{P:Program}{rs:List ROp}{p:Nat}{K:St->Prop}
theorem lN{K':St->Prop}(hk:∀x,K x->K' x):∀{q:List ROp} {i:Nat} {s:St},uc P p i q s K->uc P p i q s K'
 |[],_,_,h=>hk _ h
 |_::_,_,_,h=>ROp.mono (λ_ a=>lN hk a) h
theorem xw:∀{q:List ROp} {k:Nat} {s:St},(∀(j:Nat) r,q[j]? =some r->rs[k+j]? =some r)->uc P p k q s K->Ah P rs p (List.range' k q.length) s K
 |[],k,s,_,h=>h
 |r::q,k,s,b,h=>by
  rw[zX,List.range'_succ];refine⟨r,by simpa using b 0 r rfl,ROp.mono (λd a=>?_) h⟩
  exact xw (k:=k+1) (λj r' c=>by
   have:=b (j+1) r' (by simpa using c)
   rw[show k+1+j=k+(j+1) by omega];exact this) a
theorem K0{i:Nat}(h:i≠p):(!(Nat.beq i p))=true:=by rw[cw h];rfl
theorem BY:∀{pre post:List Nat} {s:St},(∀k∈pre,k≠p)->Ah P rs p (pre++post) s K->∃sm,lL P rs pre s sm/\Ah P rs p post sm K
 |[],post,s,_,h=>⟨s,rfl,h⟩
 |k::pre,post,s,b,⟨r,hr,h⟩=>by
  rw[K0 (b k (by simp))] at h
  obtain⟨s1,f,e⟩:=ROp.ex h;obtain⟨sm,d,c⟩:=BY (λk' a=>b k' (by simp[a])) e
  exact⟨sm,⟨s1,⟨r,hr,f⟩,d⟩,c⟩
theorem xy:∀{pre post:List Nat} {s sm:St},(∀k∈pre,k≠p)->lL P rs pre s sm->Ah P rs p post sm K->Ah P rs p (pre++post) s K
 |[],post,s,sm,_,h,k=>by have h:s=sm:=h;subst h;exact k
 |k::pre,post,s,sm,b,⟨s1,⟨r,hr,d⟩,c⟩,hk=>by
  refine⟨r,hr,?_⟩;rw[K0 (b k (by simp))]
  refine ROp.mono (λf e=>?_) d;subst e;exact xy (λk' a=>b k' (by simp[a])) c hk
end
section
variable{P:Program}{nt:Nat}{fl:Bool}{ops:Array Oper}{rs:List ROp}{E:Entry}{rd:Option Nat}{n:Nat}
theorem Lg{p:Nat}{K:St->Prop}(hc:∀(i:Nat) (o:Oper),ops[i]? =some o->∃r,rs[i]? =some r/\OpC P nt ops o r)(hi:r7 ops rs p=true){Q:Exit->Act->World->Prop}(hnt:E.nt=nt):
  ∀(fuel:Nat) (listed:Array Bool) (s:St) (G:Gh) (a:Act) (w:World),listed.size=ops.size->(aB ops listed).length<=fuel->mE ops (λi=>listed.getD i false=true)->Ah P rs p (aB ops listed) s K->RS E G s a w->
   (∀s' G' a' w',K s'->RS E G' s' a' w'->Q .normal a' w')->wpAnyIn (F0 rd) n P .any ops Q fuel listed a w:=by
 have g:∀(listed:Array Bool) i,listed.size=ops.size->i∈Region.ready .any ops listed->i<ops.size/\listed.getD i true=false/\∃o,ops[i]? =some o/\∀e∈o.after,Region.binds .any e=true->listed.getD e.on false=true:=λlisted i I h=>by
  simp only[Region.ready,zo,zd,zD,zb] at h;obtain⟨z,Z,O⟩:=h;refine⟨z,Z,ops[i],zi z,λe he hb=>?_⟩;rw[zi z] at O;simp only[zM,ZS,ZO,ZM,zb] at O;rcases O e he with A|A
  .rw [hb] at A;cases A
  .exact A
 intro fuel
 induction fuel with
 |zero=>
  intro listed s G a w I hlen hD hex hs hQ;have q:aB ops listed=[]:=ZV.1 (by omega)
  rw[q] at hex;refine⟨?_,hQ s G a w hex hs⟩;rcases F:Region.ready .any ops listed with _|⟨i,_⟩
  .rfl
  .obtain ⟨z,Z,_⟩:=g listed i I (by rw[F];simp)
   have:i∈aB ops listed:=by simp only[aB,zo,zd];exact⟨z,by simp[Z]⟩
   rw[q] at this;cases this
 |succ fuel ih=>
  intro listed s G a w I hlen hD hex hs hQ
  refine⟨λhr=>?_,λi hi'=>?_⟩
  .
   have q:aB ops listed=[]:=by
    rcases F:aB ops listed with _|⟨i,l⟩
    .rfl
    .exfalso;have t:(aB ops listed).Pairwise (·<·):=List.pairwise_lt_range.filter _;rw[F] at t;have B:=(ZA.1 t).1;have c:i∈aB ops listed:=by rw[F];simp
     simp only[aB,zo,zd,zb] at c
     have X:i∈Region.ready .any ops listed:=by
      simp only[Region.ready,zo,zd,zD,zb];refine⟨c.1,c.2,?_⟩;rw[zi c.1];simp only[zM,ZS,ZO,ZM,zb];intro e he
      cases hb:Region.binds .any e with
      |false=>exact .inl rfl
      |true=>
       have N:=eG (Bool.and_eq_true_iff.1 hi).1 i ops[i] (by simp[c.1]) e he hb
       rw[ZI] at N;refine .inr ?_
       cases hlk:listed.getD e.on false with
       |true=>rfl
       |false=>
        exfalso
        have U:listed.getD e.on true=false:=by
         have hsz:e.on<listed.size:=by rw[I];omega
         simpa[hsz] using hlk
        have J:e.on∈aB ops listed:=by
         simp only[aB,zo,zd,zb];exact⟨by omega,U⟩
        rw[F] at J;rcases zI.1 J with C|C
        .omega
        .have:=B _ C;omega
     rw[hr] at X;cases X
   rw[q] at hex;exact hQ s G a w hex hs
  .obtain ⟨z,Z,o,ho,H⟩:=g listed i I hi';obtain⟨r,hr,hoc⟩:=hc i o ho;have c:i∈List.range ops.size:=by simpa using z
   obtain⟨pre,post,e1,e2,e3⟩:=eE (λk=>!listed.getD k true) i (List.range ops.size) c (by simp[Z]) yO
   have T:=oT (Bool.and_eq_true_iff.1 hi).2 i z
   have hgd:∀k,listed.getD k true=false->listed.getD k false=false:=λk hk=>by
    simp only[zT] at hk|-
    cases F:listed[k]? with
    |none=>rw[F] at hk;cases hk
    |some b=>rw[F] at hk;simpa using hk
   have L:Ah P rs p (pre++i::post) s K:=by rw[<-e1];exact hex
   have d:∀k∈pre,i≠p/\k≠p/\∀x y,rs[k]? =some x->rs[i]? =some y->indep x y=true:=λk hk=>by
    obtain⟨f,hkl⟩:=e2 k hk;rcases p5 T k f with hb|hb
    .exfalso;have hml:i<(aQ [] ops.toList).length:=by rw[hH];simpa using z
     have:=me hD (os:=ops.toList) (acc:=[]) (λj o' W=>by simpa using W) (λi m o' hm=>by simp at hm) (λi N=>by simp at N) i ((aQ [] ops.toList).getD i 0) o (by simp[zA hml]) ho H k hb
     have A:=hgd k (by simpa using hkl)
     rw[A] at this;cases this
    .exact hb
   obtain⟨dr,K1,S,M⟩:∃dr K1,r.run P dr s K1/\∀s1,K1 s1->Ah P rs p (pre++post) s1 K:=by
    cases pre with
    |nil=>
     obtain⟨r',u,O⟩:=L;rw[hr] at u;cases u
     exact⟨_,_,O,λs1 A=>A⟩
    |cons k0 R=>
     obtain⟨hip,_⟩:=d k0 (by simp)
     obtain⟨sm,O,A⟩:=BY (pre:=(k0::R)++[i]) (post:=post) (λk hk=>by
      rcases zY.1 hk with C|C
      .exact (d k C).2.1
      .simp at C;rw[C];exact hip) (by simpa using L)
     obtain⟨s1,⟨r',u,C⟩,h6⟩:=front O (λk hk=>(d k hk).2.2);rw[hr] at u;cases u;refine⟨true,_,C,λs2 e=>?_⟩;subst e;exact xy (λk hk=>(d k hk).2.1) (by simpa using h6) A
   refine iL hoc ho S hs hnt λs' G' a' w' hs1 hs' _=>?_
   have D:aB ops (listed.setIfInBounds i true)=pre++post:=by
    rw[<-e3];unfold aB;refine Zm λk hk=>?_
    by_cases f:k=i
    .subst f;have:k<listed.size:=by rw[I];exact z
     simp[this]
    .have hne:(k==i)=false:=by simpa using f
     simp[zW (Ne.symm f),hne]
   refine ih _ _ G' a' w' (by simpa using I) ?_ ?_ (by rw[D];exact M _ hs1) hs' hQ
   .rw [D];have:(aB ops listed).length=(pre++i::post).length:=by rw[<-e1];rfl
    simp at this|-;omega
   .intro j oj W Y e he hb
    have v:∀k,listed.getD k false=true->(listed.setIfInBounds i true).getD k false=true:=λk hk=>by
     by_cases f:k=i
     .subst f;have:k<listed.size:=by rw[I];exact z
      simp[this]
     .simp only[zT] at hk|-;rw[zW (Ne.symm f)];exact hk
    by_cases V:j=i
    .subst V;rw[ho] at W;cases W;exact v _ (H e he hb)
    .refine v _ (hD j oj W ?_ e he hb);simp only[zT] at Y|-
     rwa [zW (Ne.symm V)] at Y
theorem WP.Cf{p:Nat}(hm:P.follows .mixedOrders=true){id:Nat}{d:Nat->Nat->Bool}(l:qX P nt d ops ops.toList=some rs)(b:r7 ops rs p=true){s:St}{Q:AX->St->Prop}(h:uc P p 0 rs s (Q .normal)):WP P nt fl (.region id ops true) s Q:=λE G a w rd n hs he=>by
 obtain⟨v,u⟩:=iq l;have t:=xw (rs:=rs) (k:=0) (λj r g=>by simp[g]) h
 have hlen:rs.length=ops.size:=by simpa using v.symm
 refine wpIn_region_any hm ?_;refine Lg (λi o f=>u i o (by simpa using f)) b he.1 ops.size _ s G a _ (by simp) ?_ ?_ ?_ hs.drew λe G' x w' q m=>⟨.normal,e,G',rfl,q,m⟩
 .exact ZN (Zy _ _) (by simp)
 .intro i o _ c;simp only[zT,yE] at c;split at c<;>cases c
 .have:aB ops (Array.replicate ops.size false)=List.range' 0 rs.length:=by
   unfold aB
   rw[yC.2 (λi b=>by
    have:=zd.1 b;simp[this]),List.range_eq_range',hlen]
  rw[this];exact t
end
end Go.AM
