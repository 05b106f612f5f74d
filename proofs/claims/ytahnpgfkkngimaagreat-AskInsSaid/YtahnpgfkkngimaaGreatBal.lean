/-
  Texts of this aQ joined (wip/gen/bundle.py),those declarations only that are needed:AmZm. By an AI agent.
-/
import Derived.Test.YtahnpgfkkngimaaGreatBak
set_option linter.unusedSimpArgs false
set_option linter.unusedVariables false
namespace Go.AM
open Go.CK Go.RowKit
def pq(bs:List Box)(b:Nat):Option (List AV):=match aa bs b with
 |some cs=>some (cs.map AV.aF)
 |none=>none
def stb(bs bs':List Box):List AV->Prop
 |[]=>True
 |.ptr b _::vs=>pq bs' b=pq bs b/\stb bs bs' vs
 |.elp b _ _ _::vs=>pq bs' b=pq bs b/\stb bs bs' vs
 |_::vs=>stb bs bs' vs
def Chk(vs:List AV)(bs bs':List Box):Prop:=(∃t,bs'=bs++t)\/stb bs bs' vs
structure wK(vs:List AV)(bs bs':List Box)(K:Prop):Prop where
 h:Chk vs bs bs'
 k:K
def CQ(s:St):List Nat->List AV
 |[]=>[]
 |t::ts=>s.ev (.t t)::CQ s ts
theorem AY{s:St}{t:Nat}:∀{ts:List Nat},t∈ts->s.ev (.t t)∈CQ s ts
 |_::ts,h=>by
  rcases ZI.1 h with rfl|h
  .simp [CQ]
  .exact ZQ _ (AY h)
def il(P:Program)(V:List Nat):List (Nat×ROp)->St->(St->Prop)->Prop
 |[],s,K=>K s
 |(c,r)::l,s,K=>match c with
  |0=>r.run P true s λs'=>il P V l s' K
  |1=>r.run P false s λs'=>il P V l s' K
  |_+2=>r.run P false s λs'=>wK (CQ s V) s.bs s'.bs (il P V l s' K)
def gY(P:Program)(rs:List ROp)(cs V:List Nat):List Nat->St->(St->Prop)->Prop
 |[],s,K=>K s
 |i::l,s,K=>∃r,rs[i]? =some r/\match cs.getD i 0 with
  |0=>r.run P true s λs'=>gY P rs cs V l s' K
  |1=>r.run P false s λs'=>gY P rs cs V l s' K
  |_+2=>r.run P false s λs'=>wK (CQ s V) s.bs s'.bs (gY P rs cs V l s' K)
def iq:List (Nat×ROp)->List Nat
 |[]=>[]
 |(0,r)::l=>match r.rx.looks with
  |true=>slotsOf r.rx.bd++iq l
  |false=>iq l
 |(_+1,_)::l=>iq l
def Jh:List Opd->Bool
 |[]=>true
 |.t _::os=>Jh os
 |_::_=>false
def cz(rs:List ROp)(cs:List Nat):List Nat->Option (List (Nat×ROp))
 |[]=>some []
 |i::l=>match rs[i]?,cz rs cs l with
  |some r,some q=>some ((cs.getD i 0,r)::q)
  |_,_=>none
def RX.comes:RX->Bool
 |.call .. |.dD .. |.eff .. |.load .. =>true
 |_=>false
def Bh(q e:ROp):Bool:=(q.rx.eh&&(!q.rx.looks||Jh q.rx.bd))&&(e.rx.comes&&(apart q.writes (e.reads++e.writes)&&apart e.writes q.reads))
def Ab(rs:List ROp)(cs:List Nat)(m i k:Nat):Bool:=m.testBit k||(Nat.beq (cs.getD k 0) 0&&match rs[k]?,rs[i]? with
 |some x,some y=>match cs.getD i 0 with
  |0=>indep x y
  |1=>false
  |_+2=>Bh x y
 |_,_=>false)
def Iq(rs:List ROp)(cs:List Nat)(m i:Nat):List Nat->Bool
 |[]=>true
 |k::l=>Ab rs cs m i k&&Iq rs cs m i l
def r8(rs:List ROp)(cs ms:List Nat)(seen:List Nat):List Nat->Bool
 |[]=>true
 |i::l=>Iq rs cs (ms.getD i 0) i seen&&r8 rs cs ms (i::seen) l
def o6(i:Nat):List Nat->Bool
 |[]=>true
 |k::l=>!(Nat.beq k i)&&o6 i l
def tU:List Nat->Bool
 |[]=>true
 |i::l=>o6 i l&&tU l
def nL(pi:List Nat):Nat->Bool
 |0=>true
 |n+1=>!(o6 n pi)&&nL pi n
def yp(rs:List ROp)(sl:List Nat):List Nat->Bool
 |[]=>true
 |k::l=>(match rs[k]? with
  |some y=>apart y.writes sl
  |none=>true)&&yp rs sl l
def F5(rs:List ROp):List Nat->Bool
 |[]=>true
 |k::l=>(match rs[k]? with
  |some x=>!x.rx.looks||yp rs (slotsOf x.rx.bd) (k::l)
  |none=>true)&&F5 rs l
def Ssa(rs:List ROp)(k m:Nat):Prop:=∀x y,rs[k]? =some x->rs[m]? =some y->x.rx.looks=true->∀t∈slotsOf x.rx.bd,t∉y.writes
theorem r7{rs:List ROp}{sl:List Nat}:∀{l:List Nat},yp rs sl l=true->∀m∈l,∀y,rs[m]? =some y->∀t∈sl,t∉y.writes
 |k::l,h,m,hm,y,hy,t,ht=>by
  simp only[yp,ZD] at h;rcases ZI.1 hm with rfl|hm
  .have h1:=h.1;rw[hy] at h1;exact λhw=>apart_spec h1 t hw ht
  .exact r7 h.2 m hm y hy t ht
theorem nU{rs:List ROp}:∀{l:List Nat},F5 rs l=true->l.Pairwise (Ssa rs)/\∀k∈l,Ssa rs k k
 |[],_=>⟨.nil,λk hk=>by cases hk⟩
 |k::l,h=>by
  simp only[F5,ZD] at h;obtain⟨h3,h4⟩:=nU h.2
  have key:∀m∈k::l,Ssa rs k m:=λm hm x y hx hy hl=>by
   have h1:=h.1;rw[hx] at h1;simp only[hl,Bool.not_true,Bool.false_or] at h1;exact r7 h1 m hm y hy
  exact⟨Zx.2 ⟨λm hm=>key m (by simp[hm]),h3⟩,λm hm=>by
   rcases ZI.1 hm with rfl|hm
   .exact key _ (by simp)
   .exact h4 m hm⟩
def xH(ops:Array Oper)(rs:List ROp)(pi cs:List Nat):Bool:=F5 rs pi&&i7 ops.toList 0&&(tU pi&&(nL pi ops.size&&r8 rs cs (aI [] ops.toList) [] pi))
theorem sc{i:Nat}:∀{l:List Nat},o6 i l=true->i∉l
 |[],_,h=>by cases h
 |k::l,h,hm=>by
  simp only[o6,ZD,Zb] at h;rcases ZI.1 hm with rfl|hm
  .rw [kZ] at h;cases h.1
  .exact sc h.2 hm
theorem p6{i:Nat}:∀{l:List Nat},o6 i l=false->i∈l
 |[],h=>by cases h
 |k::l,h=>by
  by_cases e:k=i
  .subst e;simp
  .simp only[o6,cg e,Bool.not_false,Za] at h;exact ZQ _ (p6 h)
theorem iQ:∀{l:List Nat},tU l=true->l.Nodup
 |[],_=>.nil
 |i::l,h=>by
  simp only[tU,ZD] at h;exact Ye.2 ⟨sc h.1,iQ h.2⟩
theorem fk{pi:List Nat}:∀{n:Nat},nL pi n=true->∀i,i<n->i∈pi
 |0,_,i,hi=>by omega
 |n+1,h,i,hi=>by
  simp only[nL,ZD,Zb] at h
  by_cases e:i=n
  .subst e;exact p6 h.1
  .exact fk h.2 i (by omega)
theorem wY{rs:List ROp}{cs:List Nat}{m i:Nat}:∀{l:List Nat},Iq rs cs m i l=true->∀k∈l,Ab rs cs m i k=true
 |[],_,k,hk=>by cases hk
 |k0::l,h,k,hk=>by
  simp only[Iq,ZD] at h;rcases ZI.1 hk with rfl|hk
  .exact h.1
  .exact wY h.2 k hk
theorem tn{rs:List ROp}{cs ms:List Nat}:∀{A:List Nat} {seen:List Nat} {i:Nat} {B:List Nat},r8 rs cs ms seen (A++i::B)=true->∀k,k∈A\/k∈seen->Ab rs cs (ms.getD i 0) i k=true
 |[],seen,i,B,h,k,hk=>by
  simp only[Ym,r8,ZD] at h;rcases hk with hk|hk
  .cases hk
  .exact wY h.1 k hk
 |a::A,seen,i,B,h,k,hk=>by
  simp only[Ze,r8,ZD] at h;refine tn (A:=A) h.2 k ?_;rcases hk with hk|hk
  .rcases ZI.1 hk with rfl|hk
   .exact .inr (by simp)
   .exact .inl hk
  .exact .inr (by simp[hk])
section
variable{P:Program}{rs:List ROp}{cs V:List Nat}{K:St->Prop}
theorem aY{K':St->Prop}(hk:∀x,K x->K' x):∀{q:List (Nat×ROp)} {s:St},il P V q s K->il P V q s K'
 |[],_,h=>hk _ h
 |(0,_)::_,_,h=>ROp.mono (λ_ hx=>aY hk hx) h
 |(1,_)::_,_,h=>ROp.mono (λ_ hx=>aY hk hx) h
 |(_+2,_)::_,_,h=>ROp.mono (λ_ hx=>⟨hx.h,aY hk hx.k⟩) h
theorem eW:∀{pi:List Nat} {q:List (Nat×ROp)} {s:St},cz rs cs pi=some q->il P V q s K->gY P rs cs V pi s K
 |[],q,s,hq,h=>by cases hq;exact h
 |i::l,q,s,hq,h=>by
  simp only[cz] at hq;split at hq
  .rename_i r q' hr hq';cases hq;refine⟨r,hr,?_⟩;revert h
   cases cs.getD i 0 with
   |zero=>exact λh=>ROp.mono (λs' hs'=>eW hq' hs') h
   |succ c=>
    cases c with
    |zero=>exact λh=>ROp.mono (λs' hs'=>eW hq' hs') h
    |succ c=>exact λh=>ROp.mono (λs' hs'=>⟨hs'.h,eW hq' hs'.k⟩) h
  .cases hq
theorem eX:∀{pi:List Nat} {q:List (Nat×ROp)},cz rs cs pi=some q->∀k∈pi,cs.getD k 0=0->∀x,rs[k]? =some x->x.rx.looks=true->∀t∈slotsOf x.rx.bd,t∈iq q
 |[],q,hq,k,hk=>by cases hk
 |i::l,q,hq,k,hk=>by
  simp only[cz] at hq;split at hq
  .rename_i r q' hr hq';cases hq;intro h0 x hx hl t ht
   have sub:t∈iq q'->t∈iq ((cs.getD i 0,r)::q'):=λh=>by
    cases cs.getD i 0 with
    |zero=>
     simp only[iq];split
     .exact YU _ h
     .exact h
    |succ c=>exact h
   rcases ZI.1 hk with rfl|hk
   .rw [hr] at hx;cases hx;rw[h0];simp only[iq,hl];exact Zy _ ht
   .exact sub (eX hq' k hk h0 x hx hl t ht)
  .cases hq
theorem ij:∀{pi:List Nat} {q:List (Nat×ROp)},cz rs cs pi=some q->∀i∈pi,i<rs.length
 |[],q,hq,i,hi=>by cases hi
 |k::l,q,hq,i,hi=>by
  simp only[cz] at hq;split at hq
  .rename_i r q' hr hq';rcases ZI.1 hi with rfl|hi
   .exact (ZB.1 hr).1
   .exact ij hq' i hi
  .cases hq
theorem tj:∀{pre post:List Nat} {s:St},(∀k∈pre,cs.getD k 0=0)->gY P rs cs V (pre++post) s K->∃sm,lg P rs pre s sm/\gY P rs cs V post sm K
 |[],post,s,_,h=>⟨s,rfl,h⟩
 |k::pre,post,s,hn,⟨r,hr,h⟩=>by
  rw[hn k (by simp)] at h
  obtain⟨s1,h1,h2⟩:=ROp.ex h;obtain⟨sm,h3,h4⟩:=tj (λk' hk'=>hn k' (by simp[hk'])) h2
  exact⟨sm,⟨s1,⟨r,hr,h1⟩,h3⟩,h4⟩
theorem qz:∀{pre post:List Nat} {s sm:St},(∀k∈pre,cs.getD k 0=0)->lg P rs pre s sm->gY P rs cs V post sm K->gY P rs cs V (pre++post) s K
 |[],post,s,sm,_,h,k=>by have h:s=sm:=h;subst h;exact k
 |k::pre,post,s,sm,hn,⟨s1,⟨r,hr,h1⟩,h2⟩,hk=>by
  refine⟨r,hr,?_⟩;rw[hn k (by simp)]
  refine ROp.mono (λs' e=>?_) h1;subst e;exact qz (λk' hk'=>hn k' (by simp[hk'])) h2 hk
theorem z8(e:List (Nat×AV))(bs:List Box)(lo k:Nat)(v:AV){d:Option Nat}(hd:d≠some k)(r:AV):(⟨aN e k v,bs,lo⟩:St).put d r=((⟨e,bs,lo⟩:St).put d r).put (some k) v:=by
 cases d with
 |none=>rfl
 |some j=>exact St.put_comm (⟨e,bs,lo⟩:St) v r (λx=>hd (by rw[x]))
theorem Hz{e:Eff}{vals:List AV}{s:St}{k:Nat}{v:AV}{d:Option Nat}{K:St->Prop}(hd:d≠some k)(h:rN e vals (s.put (some k) v) d K):rN e vals s d λs'=>K (s'.put (some k) v):=by
 obtain⟨env,bs,lo⟩:=s
 have pp:∀(bs:List Box) (r:AV),K ((⟨aN env k v,bs,lo⟩:St).put d r)->K (((⟨env,bs,lo⟩:St).put d r).put (some k) v):=λbs r x=>by
  rw[z8 _ _ _ _ _ hd] at x;exact x
 simp only[St.put] at h;unfold rN at h|-;split at h
 .exact gz (λm k' cs' ob h=>rM (λn ys h=>⟨h.1,λk' hk'=>pp _ _ (h.2 k' hk')⟩) h) h
 .unfold vv at h|-;split at h
  .exact gz (λm k' cs' ob h=>⟨h.1,λk' hk'=>pp _ _ (h.2 k' hk')⟩) h
  .exact h
 .unfold B7 at h|-;split at h
  .exact ⟨h.1,pp _ _ h.2⟩
  .exact h
 .exact pp _ _ h
 .exact pp _ _ h
 .unfold th at h|-;split at h
  .simp only at h|-;split at h
   .exact h
   .exact h
   .exact h.elim
  .exact h
 .unfold uI at h|-;split at h
  .simp only at h|-;split at h
   .split at h
    .exact ⟨h.1,pp _ _ h.2⟩
    .exact pp _ _ h
   .split at h
    .exact ⟨h.1,pp _ _ h.2⟩
    .exact pp _ _ h
   .exact h
  .exact pp _ _ h
  .exact h
 .unfold mkB at h|-;split at h
  .exact ⟨h.1,pp _ _ h.2⟩
  .exact h
 .unfold sq at h|-;split at h
  .simp only at h|-;split at h
   .exact ⟨h.1,pp _ _ h.2⟩
   .exact h
  .exact h
 .unfold r6 at h|-;split at h
  .simp only at h|-;split at h
   .split at h
    .exact h
    .exact h
   .exact h
  .exact h
 .exact ⟨h.1,pp _ _ h.2⟩
 .exact ⟨λe=>pp _ _ (h.1 e),λe b=>pp _ _ (h.2 e b)⟩
 .obtain ⟨b,cs,l,x,h1,h2,h3,h4,h5,h6,h7,h8,h9,h⟩:=h;exact⟨b,cs,l,x,h1,h2,h3,h4,h5,h6,h7,h8,h9,h⟩
 .obtain ⟨b,cs,l,x,r,h1,h2,h3,h4,h5,h6,h7,h8,h9⟩:=h;exact⟨b,cs,l,x,r,h1,h2,h3,h4,h5,h6,h7,λy e=>pp _ _ (h8 y e),λe=>pp _ _ (h9 e)⟩
 .exact h
theorem CD{s:St}{t b off z:Nat}{l:List AV}(h:s.at (.bx b off)=some (.sl (.own z) l)):(((s.put (some t) (.sl .no l)).upd (.bx b off) (.sl .no l)).upd (.sl t) (.sl (.own z) l))=(⟨s.env,(s.upd (.bx b off) (.sl .no l)).bs,s.lo⟩:St).put (some t) (.sl (.own z) l):=by
 obtain⟨env,bs,lo⟩:=s;simp only[St.at] at h
 cases hb:aa bs b with
 |none=>rw[hb] at h;cases h
 |some cs=>simp only[St.upd,St.put,hb,St.bh,pn]
theorem uq{agg:Bool}{n:Nat}{cs:Option (List AV)}{K K':AV->Prop}(hk:∀x,K x->K' x)(h:bM agg n cs K):bM agg n cs K':=by
 unfold bM at h|-;split at h
 .split at h
  .exact ae.2 ⟨(ae.1 h).1,hk _ (ae.1 h).2⟩
  .split at h<;>first|exact hk _ h|exact h
 .exact h
def sY(agg:Bool)(s:St)(d:Option Nat)(p:AV):Prop:=∃t b off z l,agg=false/\d=some t/\p=.ptr b off/\s.at (.bx b off)=some (.sl (.own z) l)
theorem lS{agg:Bool}{n:Nat}{s:St}{d:Option Nat}{p:AV}{K:St->Prop}(h:¬sY agg s d p):eu agg n s d p K=bM agg n (s.rd p) λr=>K (s.put d r):=by
 unfold eu;split
 .rename_i t b off;split
  .rename_i z l hl;exact absurd ⟨t,b,off,z,l,rfl,rfl,rfl,hl⟩ h
  .rfl
 .rfl
theorem lR{n t b off z:Nat}{l:List AV}{s:St}{K:St->Prop}(hl:s.at (.bx b off)=some (.sl (.own z) l)):eu false n s (some t) (.ptr b off) K=K ((⟨s.env,(s.upd (.bx b off) (.sl .no l)).bs,s.lo⟩:St).put (some t) (.sl (.own z) l)):=by
 unfold eu;simp only[hl];rw[CD hl]
theorem CC{agg:Bool}{n k:Nat}{v:AV}{d:Option Nat}(hd:d≠some k){s:St}{p:AV}{K:St->Prop}(h:eu agg n (s.put (some k) v) d p K):eu agg n s d p λs'=>K (s'.put (some k) v):=by
 have hat:∀b off,(s.put (some k) v).at (.bx b off)=s.at (.bx b off):=λb off=>by rw[St.dM,if_neg (by simp)]
 by_cases ht:sY agg s d p
 .obtain ⟨t,b,off,z,l,rfl,rfl,rfl,hl⟩:=ht;rw[lR ((hat b off).trans hl)] at h;rw[lR hl]
  have e:((⟨(s.put (some k) v).env,((s.put (some k) v).upd (.bx b off) (.sl .no l)).bs,(s.put (some k) v).lo⟩:St).put (some t) (.sl (.own z) l))=((⟨s.env,(s.upd (.bx b off) (.sl .no l)).bs,s.lo⟩:St).put (some t) (.sl (.own z) l)).put (some k) v:=by
   have hb:((s.put (some k) v).upd (.bx b off) (.sl .no l)).bs=(s.upd (.bx b off) (.sl .no l)).bs:=by
    obtain⟨env,bs,lo⟩:=s;simp only[St.upd,St.put];cases aa bs b<;>rfl
   rw[hb];exact St.put_comm (⟨s.env,(s.upd (.bx b off) (.sl .no l)).bs,s.lo⟩:St) v _ (j:=k) (k:=t) (λe=>hd (by rw[e]))
  rw[e] at h;exact h
 .have ht':¬sY agg (s.put (some k) v) d p:=λ⟨t,b,off,z,l,e1,e2,e3,e4⟩=>ht ⟨t,b,off,z,l,e1,e2,e3,(hat b off).symm.trans e4⟩;rw[lS ht'] at h;rw[lS ht];rw[St.qE] at h;refine uq (λx hx=>?_) h
  cases d with
  |none=>exact hx
  |some j=>
   have:=St.put_comm s v x (j:=k) (k:=j) (λe=>hd (by rw[e]))
   rw[this] at hx;exact hx
theorem Bj{rx:RX}(hc:rx.comes=true){d:Option Nat}{k:Nat}(v:AV)(h1:k∉slotsOf rx.bd)(h2:d≠some k){s:St}{K:St->Prop}(h:rx.run P false (s.put (some k) v) d K):rx.run P false s d λs'=>K (s'.put (some k) v):=by
 have hev:∀o∈rx.bd,(s.put (some k) v).ev o=s.ev o:=λo ho=>St.y6 s k v λhk=>h1 (dO ho hk)
 have pp:∀(bs:List Box) (r:AV),K ((⟨aN s.env k v,bs,s.lo⟩:St).put d r)->K (((⟨s.env,bs,s.lo⟩:St).put d r).put (some k) v):=λbs r x=>by
  rw[z8 _ _ _ _ _ h2] at x;exact x
 cases rx<;>simp[RX.comes] at hc
 case call f args=>
  simp only[RX.run] at h|-;rw[hev f (by simp[RX.bd]),di (λo ho=>hev o (by simp[RX.bd,ho]))] at h
  unfold jc at h|-;split at h
  .obtain ⟨Q,h3,h4⟩:=h;exact⟨Q,h3,λr bs' hq=>pp bs' r (h4 r bs' hq)⟩
  .obtain ⟨Q,h3,h4⟩:=h;exact⟨Q,h3,λr bs' hq=>pp bs' r (h4 r bs' hq)⟩
  .exact h
 case dD f args=>
  simp only[RX.run] at h|-;rw[hev f (by simp[RX.bd]),di (λo ho=>hev o (by simp[RX.bd,ho]))] at h
  refine⟨h.1,?_⟩;have h:=h.2;unfold jc at h|-;split at h
  .obtain ⟨Q,h3,h4⟩:=h;exact⟨Q,h3,λr bs' hq=>pp bs' r (h4 r bs' hq)⟩
  .obtain ⟨Q,h3,h4⟩:=h;exact⟨Q,h3,λr bs' hq=>pp bs' r (h4 r bs' hq)⟩
  .exact h
 case load agg n o=>
  simp only[RX.run] at h|-;rw[hev o (by simp[RX.bd])] at h
  exact CC h2 h
 case eff e args=>
  simp only[RX.run] at h|-;rw[di (λo ho=>hev o (by simp[RX.bd,ho]))] at h
  exact Hz h2 h
theorem zh{bs t:List Box}{b:Nat}{cs:List AV}(h:aa bs b=some cs):aa (bs++t) b=some cs:=by
 have hb:=aA h;simp only[aa,ZK hb];exact h
theorem J1{s s':St}{t:List Box}(h:s'.bs=s.bs++t)(x:AV)(cs:List AV)(hx:s.rd x=some cs):s'.rd x=some cs:=by
 cases x<;>simp only[St.rd] at hx|-<;>first|exact hx|skip
 all_goals
  split at hx
  .rename_i cs' hc;rw[h,zh hc];exact hx
  .cases hx
theorem Bi{rx:RX}(hc:rx.comes=true){d:Option Nat}{s:St}{K:St->Prop}(h:rx.run P false s d K):rx.run P false s d λs'=>K s'/\∃bs' lo,(∃r,s'=(⟨s.env,bs',lo⟩:St).put d r)\/s'=⟨s.env,bs',lo⟩:=by
 cases rx<;>simp[RX.comes] at hc
 case call f args=>
  simp only[RX.run] at h|-;unfold jc at h|-;split at h
  .obtain ⟨Q,h3,h4⟩:=h;exact⟨Q,h3,λr bs' hq=>⟨h4 r bs' hq,_,_,.inl ⟨_,rfl⟩⟩⟩
  .obtain ⟨Q,h3,h4⟩:=h;exact⟨Q,h3,λr bs' hq=>⟨h4 r bs' hq,_,_,.inl ⟨_,rfl⟩⟩⟩
  .exact h
 case dD f args=>
  simp only[RX.run] at h|-;refine⟨h.1,?_⟩;have h:=h.2;unfold jc at h|-;split at h
  .obtain ⟨Q,h3,h4⟩:=h;exact⟨Q,h3,λr bs' hq=>⟨h4 r bs' hq,_,_,.inl ⟨_,rfl⟩⟩⟩
  .obtain ⟨Q,h3,h4⟩:=h;exact⟨Q,h3,λr bs' hq=>⟨h4 r bs' hq,_,_,.inl ⟨_,rfl⟩⟩⟩
  .exact h
 case load agg n o=>
  simp only[RX.run] at h|-
  by_cases ht:sY agg s d (s.ev o)
  .obtain ⟨t,b,off,z,l,rfl,rfl,hp,hl⟩:=ht;rw[hp,lR hl] at h|-;exact⟨h,_,_,.inl ⟨_,rfl⟩⟩
  .rw [lS ht] at h|-;exact uq (λx hx=>⟨hx,_,_,.inl ⟨x,rfl⟩⟩) h
 case eff e args=>
  simp only[RX.run] at h|-;obtain⟨env,bs,lo⟩:=s;unfold rN at h|-;split at h
  .exact gz (λm k' cs' ob h=>rM (λn ys h=>⟨h.1,λk' hk'=>⟨h.2 k' hk',_,_,.inl ⟨_,rfl⟩⟩⟩) h) h
  .unfold vv at h|-;split at h
   .exact gz (λm k' cs' ob h=>⟨h.1,λk' hk'=>⟨h.2 k' hk',_,_,.inl ⟨_,rfl⟩⟩⟩) h
   .exact h
  .unfold B7 at h|-;split at h
   .exact ⟨h.1,h.2,_,_,.inl ⟨_,rfl⟩⟩
   .exact h
  .exact ⟨h,_,_,.inl ⟨_,rfl⟩⟩
  .exact ⟨h,_,_,.inl ⟨_,rfl⟩⟩
  .unfold th at h|-;split at h
   .simp only at h|-;split at h
    .exact ⟨h.1,h.2,_,_,.inr rfl⟩
    .exact ⟨h.1,h.2,_,_,.inr rfl⟩
    .exact h.elim
   .exact h
  .unfold uI at h|-;split at h
   .simp only at h|-;split at h
    .split at h
     .exact ⟨h.1,h.2,_,_,.inl ⟨_,rfl⟩⟩
     .exact ⟨h,_,_,.inl ⟨_,rfl⟩⟩
    .split at h
     .exact ⟨h.1,h.2,_,_,.inl ⟨_,rfl⟩⟩
     .exact ⟨h,_,_,.inl ⟨_,rfl⟩⟩
    .exact h
   .exact ⟨h,_,_,.inl ⟨_,rfl⟩⟩
   .exact h
  .unfold mkB at h|-;split at h
   .exact ⟨h.1,h.2,_,_,.inl ⟨_,rfl⟩⟩
   .exact h
  .unfold sq at h|-;split at h
   .simp only at h|-;split at h
    .exact ⟨h.1,h.2,_,_,.inl ⟨_,rfl⟩⟩
    .exact h
   .exact h
  .unfold r6 at h|-;split at h
   .simp only at h|-;split at h
    .split at h
     .exact ⟨h.1,h.2,_,_,.inr rfl⟩
     .exact h
    .exact h
   .exact h
  .exact ⟨h.1,h.2,_,_,.inl ⟨_,rfl⟩⟩
  .exact ⟨λe=>⟨h.1 e,_,_,.inl ⟨_,rfl⟩⟩,λe b=>⟨h.2 e b,_,_,.inl ⟨_,rfl⟩⟩⟩
  .obtain ⟨b,cs,l,x,h1,h2,h3,h4,h5,h6,h7,h8,h9,h⟩:=h;exact⟨b,cs,l,x,h1,h2,h3,h4,h5,h6,h7,h8,h9,h,_,_,.inr rfl⟩
  .obtain ⟨b,cs,l,x,r,h1,h2,h3,h4,h5,h6,h7,h8,h9⟩:=h;exact⟨b,cs,l,x,r,h1,h2,h3,h4,h5,h6,h7,λy e=>⟨h8 y e,_,_,.inl ⟨_,rfl⟩⟩,λe=>⟨h9 e,_,_,.inl ⟨_,rfl⟩⟩⟩
  .exact h
theorem mem_reads{r:ROp}{o:Opd}{k:Nat}(h:o∈r.rx.bd)(hk:k∈o.bZ):k∈r.reads:=YU _ (dO h hk)
theorem rG{s:St}{bs':List Box}{lo:Nat}{d:Option Nat}{s':St}(h:(∃r,s'=(⟨s.env,bs',lo⟩:St).put d r)\/s'=⟨s.env,bs',lo⟩){t:Nat}(ht:d≠some t):s'.get t=s.get t:=by
 rcases h with ⟨r,rfl⟩|rfl
 .cases d with
  |none=>rfl
  |some d=>exact St.fg _ _ _ (λe=>ht (by rw[e]))
 .rfl
theorem Dl{bs bs':List Box}{v:AV}:∀{vs:List AV},stb bs bs' vs->v∈vs->stb bs bs' [v]
 |w::vs,h,hv=>by
  have h2:stb bs bs' [w]/\stb bs bs' vs:=by cases w<;>first|exact⟨trivial,h⟩|exact⟨⟨h.1,trivial⟩,h.2⟩
  rcases ZI.1 hv with rfl|hv
  .exact h2.1
  .exact Dl h2.2 hv
theorem JR{s s':St}{v:AV}(h:stb s.bs s'.bs [v])(cs:List AV)(hx:s.rd v=some cs):s'.rd v=some cs:=by
 have key:∀b off,pq s'.bs b=pq s.bs b->(match aa s.bs b with|some cs=>some ((cs.drop off).map AV.aF)|none=>none)=some cs->(match aa s'.bs b with|some cs=>some ((cs.drop off).map AV.aF)|none=>none)=some cs:=λb off e hx=>by
  unfold pq at e
  cases h1:aa s.bs b with
  |none=>rw[h1] at hx;cases hx
  |some ds=>
   rw[h1] at hx e
   cases h2:aa s'.bs b with
   |none=>rw[h2] at e;cases e
   |some ds'=>
    rw[h2] at e;simp only[ZN] at e hx|-;rw[<-hx,List.map_drop,List.map_drop,e]
 cases v<;>simp only[St.rd] at hx|-<;>first|exact hx|exact key _ _ h.1 hx
theorem KC{s s':St}{vs:List AV}{v:AV}(h:Chk vs s.bs s'.bs)(hv:v∈vs)(cs:List AV)(hx:s.rd v=some cs):s'.rd v=some cs:=by
 rcases h with ⟨t,ht⟩|h
 .exact J1 ht v cs hx
 .exact JR (Dl h hv) cs hx
theorem BK:∀{os:List Opd} {o:Opd},Jh os=true->o∈os->∃k,o=.t k/\k∈slotsOf os
 |.t j::os,o,h,ho=>by
  rcases ZI.1 ho with rfl|ho
  .exact ⟨j,rfl,by simp[slotsOf,Opd.bZ]⟩
  .obtain ⟨k,e,hk⟩:=BK (os:=os) h ho
   exact⟨k,e,by simp only[slotsOf,ZY];exact .inr hk⟩
 |.c x::os,o,h,ho=>by simp[Jh] at h
theorem C0{q e:ROp}(hc:Bh q e=true){s s1:St}(hq:q.run P true s λx=>x=s1){K:St->Prop}{vs:List AV}(hvs:q.rx.looks=true->∀t∈slotsOf q.rx.bd,s.ev (.t t)∈vs)(he:e.run P false s1 λs'=>Chk vs s1.bs s'.bs/\K s'):e.run P false s λs'=>Chk vs s.bs s'.bs/\q.run P true s' K:=by
 simp only[Bh,ZD] at hc;obtain⟨⟨hqp,hqt⟩,hec,ha1,ha2⟩:=hc
 have hqw:∀k,q.dst=some k->k∉e.reads/\k∉e.writes:=λk hk=>by
  have:=apart_spec ha1 k (by simp[ROp.writes,hk])
  simp only[ZY,not_or] at this;exact this
 have hew:∀k,e.dst=some k->k∉q.reads:=λk hk=>apart_spec ha2 k (by simp[ROp.writes,hk])
 --what q does:a value into its slot,the boxes as they are
 have hrun:∃v,s1=s.put q.dst v/\∀s':St,(∀o∈q.rx.bd,s.ev o=s'.ev o)->(∀g w,q.guard=some (g,w)->s'.get g=s.get g)->(q.rx.looks=true->∀o∈q.rx.bd,∀cs,s.rd (s.ev o)=some cs->s'.rd (s.ev o)=some cs)->∀K:St->Prop,K (s'.put q.dst v)->q.run P true s' K:=by
  unfold ROp.run at hq;split at hq
  .rename_i hgq;obtain⟨v,h1,h2⟩:=z7 ((bz hqp).1 hq);refine⟨v,h2.symm,λs' h3 _ h5 K hK=>?_⟩;unfold ROp.run;rw[hgq];refine(bz hqp).2 (mV h3 (λhl o ho _ cs e=>h5 hl o ho cs e) (lE (λy hy=>?_) h1));rw[hy];exact hK
  .rename_i g want hgq;split at hq
   .rename_i b hb
    by_cases hbw:b=want
    .obtain ⟨v,h1,h2⟩:=z7 ((bz hqp).1 (hq.1 hbw));refine⟨v,h2.symm,λs' h3 h4 h5 K hK=>?_⟩;unfold ROp.run;rw[hgq]
     have hb':gv want (s'.ev (.t g))=some b:=by
      have:=h4 g want hgq;simp only[St.ev,this] at hb|-;exact hb
     simp only[hb'];refine⟨λ_=>(bz hqp).2 (mV h3 (λhl o ho _ cs e=>h5 hl o ho cs e) (lE (λy hy=>?_) h1)),λe=>absurd hbw e⟩;rw[hy];exact hK
    .refine ⟨.tup [],(hq.2 hbw).symm,λs' h3 h4 h5 K hK=>?_⟩;unfold ROp.run;rw[hgq]
     have hb':gv want (s'.ev (.t g))=some b:=by
      have:=h4 g want hgq;simp only[St.ev,this] at hb|-;exact hb
     simp only[hb'];exact⟨λe=>absurd e hbw,λ_=>hK⟩
   .exact hq.elim
 obtain⟨v,rfl,hrun⟩:=hrun
 have hsb:(s.put q.dst v).bs=s.bs:=by cases q.dst<;>rfl
 --e,ahead of q
 have hgo:(e.rx.run P false (s.put q.dst v) e.dst λs'=>Chk vs s.bs s'.bs/\K s')->e.rx.run P false s e.dst λs'=>Chk vs s.bs s'.bs/\q.run P true s' K:=λhe=>by
  have he2:e.rx.run P false s e.dst λs'=>Chk vs s.bs s'.bs/\K (s'.put q.dst v):=by
   cases hqd:q.dst with
   |none=>rw[hqd] at he;exact he
   |some k=>
    rw[hqd] at he;obtain⟨h1,h2⟩:=hqw k hqd;exact Bj hec v (λhk=>h1 (YU _ hk)) (λe'=>h2 (by simp[ROp.writes,e'])) he
  refine yw (λs' ⟨⟨ht,hK⟩,bs',lo,hs'⟩=>⟨ht,?_⟩) (Bi hec he2)
  refine hrun s' (λo ho=>?_) (λg w hgq=>?_) (λhl o ho cs hx=>KC ht (by
   simp only[hl,Bool.not_true,Bool.false_or] at hqt;obtain⟨k,rfl,hk⟩:=BK hqt ho;exact hvs hl k hk) cs hx) K hK
  .cases o with
   |c x=>rfl
   |t j=>
    simp only[St.ev];rw[rG hs' (λe'=>hew j e' (mem_reads ho (by simp[Opd.bZ])))]
  .refine rG hs' λe'=>hew g e' ?_;simp[ROp.reads,hgq]
 unfold ROp.run at he|-
 cases hg:e.guard with
 |none=>
  rw[hg] at he;simp only at he|-;rw[hsb] at he
  exact hgo he
 |some gw=>
  obtain⟨g,want⟩:=gw;rw[hg] at he;simp only at he|-
  have hgv:(s.put q.dst v).ev (.t g)=s.ev (.t g):=by
   cases hqd:q.dst with
   |none=>rfl
   |some k=>
    refine St.y6 s k v λhk=>?_;simp only[Opd.bZ,Zp] at hk;exact(hqw k hqd).1 (by simp[ROp.reads,hg,<-hk])
  rw[hgv,hsb] at he
  cases hb:gv want (s.ev (.t g)) with
  |none=>rw[hb] at he;exact he.elim
  |some b=>
   rw[hb] at he;simp only at he|-;refine⟨λe1=>hgo (he.1 e1),λe1=>?_⟩;obtain⟨_,c2⟩:=he.2 e1;have hbs:(s.put e.dst (.tup [])).bs=s.bs:=by cases e.dst<;>rfl
   have hget:∀t,e.dst≠some t->(s.put e.dst (.tup [])).get t=s.get t:=λt ht=>rG (bs':=s.bs) (lo:=s.lo) (.inl ⟨.tup [],rfl⟩) ht;refine⟨by rw[hbs];exact .inl ⟨[],by rw[Zv]⟩,hrun _ (λo ho=>?_) (λg' w hgq=>?_) (λ_ o ho cs hx=>?_) K ?_⟩
   .cases o with
    |c x=>rfl
    |t j=>
     simp only[St.ev];rw[hget j λe'=>hew j e' (mem_reads ho (by simp[Opd.bZ]))]
   .exact hget g' λe'=>hew g' e' (by simp[ROp.reads,hgq])
   .have:∀x,(s.put e.dst (.tup [])).rd x=s.rd x:=λx=>by cases e.dst<;>rfl
    rw[this];exact hx
   .cases hqd:q.dst with
    |none=>rw[hqd] at c2;exact c2
    |some k=>
     rw[hqd] at c2
     cases hed:e.dst with
     |none=>rw[hed] at c2;exact c2
     |some d=>
      rw[hed] at c2;rw[St.put_comm s _ _ (λe'=>(hqw k hqd).2 (by simp[ROp.writes,hed,e']))]
      exact c2
def H6(P:Program)(rs:List ROp)(vs:List AV):List Nat->St->St->Prop
 |[],s,s'=>s=s'
 |k::l,s,s'=>(∀x,rs[k]? =some x->x.rx.looks=true->∀t∈slotsOf x.rx.bd,s.ev (.t t)∈vs)/\∃s1,AOp P rs k s s1/\H6 P rs vs l s1 s'
theorem xO:∀{l:List Nat} {s sm:St},lg P rs l s sm->∀t,(∀m∈l,∀y,rs[m]? =some y->t∉y.writes)->sm.get t=s.get t
 |[],s,sm,h,t,_=>by have h:s=sm:=h;rw[h]
 |k::l,s,sm,⟨s1,⟨x,hx,h1⟩,h2⟩,t,ht=>by
  rw[xO h2 t (λm hm=>ht m (by simp[hm]))]
  exact ROp.mod h1 (ht k (by simp) x hx)
theorem A6{V:List Nat}:∀{l:List Nat} {s sm:St},lg P rs l s sm->l.Pairwise (Ssa rs)->(∀k∈l,Ssa rs k k)->(∀k∈l,∀x,rs[k]? =some x->x.rx.looks=true->∀t∈slotsOf x.rx.bd,t∈V)->H6 P rs (CQ sm V) l s sm
 |[],s,sm,h,_,_,_=>h
 |k::l,s,sm,⟨s1,hk,h2⟩,hp,hself,hV=>by
  obtain⟨p1,p2⟩:=Zx.1 hp;refine⟨λx hx hl t ht=>?_,s1,hk,A6 h2 p2 (λm hm=>hself m (by simp[hm])) (λm hm=>hV m (by simp[hm]))⟩
  have e:sm.get t=s.get t:=xO (l:=k::l) ⟨s1,hk,h2⟩ t λm hm y hy=>by
   rcases ZI.1 hm with rfl|hm
   .exact hself _ (by simp) x y hx hy hl t ht
   .exact p1 m hm x y hx hy hl t ht
  have e2:sm.ev (.t t)=s.ev (.t t):=y7 λk hk=>by
   simp only[Opd.bZ,Zp] at hk;rw[hk];exact e
  rw[<-e2];exact AY (hV k (by simp) x hx hl t ht)
theorem Bc{i:Nat}{e:ROp}{vs:List AV}:∀{pre:List Nat} {s sm:St} {K:St->Prop},H6 P rs vs pre s sm->(∀k∈pre,∀x,rs[k]? =some x->Bh x e=true)->(e.run P false sm λs'=>Chk vs sm.bs s'.bs/\K s')->
  e.run P false s λs1=>Chk vs s.bs s1.bs/\∃s2,lg P rs pre s1 s2/\K s2
 |[],s,sm,K,h,_,he=>by
  have h:s=sm:=h;subst h
  exact ROp.mono (λs' hs'=>⟨hs'.1,s',rfl,hs'.2⟩) he
 |k::pre,s,sm,K,⟨hv,s1,⟨x,hx,h1⟩,h2⟩,hc,he=>by
  have ih:=Bc (i:=i) h2 (λk' hk'=>hc k' (by simp[hk'])) he
  have:=C0 (hc k (by simp) x hx) h1 (hv x hx) ih
  refine ROp.mono (λs' ⟨hp,hr⟩=>⟨hp,?_⟩) this;obtain⟨s3,h3,s4,h4,h5⟩:=ROp.ex hr;exact⟨s4,⟨s3,⟨x,hx,h3⟩,h4⟩,h5⟩
end
theorem yq(p:Nat->Bool)(i:Nat){A B:List Nat}(hn:(A++i::B).Nodup)(hp:p i=true):(A++i::B).filter p=A.filter p++i::B.filter p/\(A++i::B).filter (λk=>p k&&!(k==i))=A.filter p++B.filter p:=by
 rw[List.nodup_append] at hn;obtain⟨_,hB,hd⟩:=hn;have hB:=Ye.1 hB;refine⟨by rw[List.filter_append,XW hp],?_⟩
 rw[List.filter_append,XA (by simp)]
 congr 1
 .refine Yr λk hk=>?_;have hne:(k==i)=false:=by simpa using hd k hk i (by simp)
  simp[hne]
 .refine Yr λk hk=>?_
  have hne:(k==i)=false:=by
   simp only[beq_eq_false_iff_ne,ne_eq];exact λe=>hB.1 (e▸hk)
  simp[hne]
section
variable{P:Program}{nt:Nat}{fl:Bool}{ops:Array Oper}{rs:List ROp}{cs pi:List Nat}{E:Entry}{rd:Option Nat}{n:Nat}
end
end Go.AM
