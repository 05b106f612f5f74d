/-
  Texts of this aZ joined (wip/gen/bundle.py),those declarations only that are needed:AmZm. By an AI agent.
-/
import Derived.Test.YtpihbplamelcnaaGreatBak
set_option linter.unusedSimpArgs false
set_option linter.unusedVariables false
namespace Go.AM
open Go.CK Go.RowKit
def qQ(bs:List Box)(b:Nat):Option (List AV):=match ab bs b with
 |some cs=>some (cs.map AV.aG)
 |none=>none
def stb(bs bs':List Box):List AV->Prop
 |[]=>True
 |.ptr b _::vs=>qQ bs' b=qQ bs b/\stb bs bs' vs
 |.elp b _ _ _::vs=>qQ bs' b=qQ bs b/\stb bs bs' vs
 |_::vs=>stb bs bs' vs
def Chk(vs:List AV)(bs bs':List Box):Prop:=(∃t,bs'=bs++t)\/stb bs bs' vs
structure Al(vs:List AV)(bs bs':List Box)(K:Prop):Prop where
 h:Chk vs bs bs'
 k:K
def GV(s:St):List Nat->List AV
 |[]=>[]
 |t::ts=>s.ev (.t t)::GV s ts
theorem ER{s:St}{t:Nat}:∀{ts:List Nat},t∈ts->s.ev (.t t)∈GV s ts
 |_::ts,h=>by
  rcases zI.1 h with rfl|h
  .simp [GV]
  .exact zQ _ (ER h)
def jI(P:Program)(V:List Nat):List (Nat×ROp)->St->(St->Prop)->Prop
 |[],s,K=>K s
 |(c,r)::l,s,K=>match c with
  |0=>r.run P true s λs'=>jI P V l s' K
  |1=>r.run P false s λs'=>jI P V l s' K
  |_+2=>r.run P false s λs'=>Al (GV s V) s.bs s'.bs (jI P V l s' K)
def ju(P:Program)(rs:List ROp)(cs V:List Nat):List Nat->St->(St->Prop)->Prop
 |[],s,K=>K s
 |i::l,s,K=>∃r,rs[i]? =some r/\match cs.getD i 0 with
  |0=>r.run P true s λs'=>ju P rs cs V l s' K
  |1=>r.run P false s λs'=>ju P rs cs V l s' K
  |_+2=>r.run P false s λs'=>Al (GV s V) s.bs s'.bs (ju P rs cs V l s' K)
def jJ:List (Nat×ROp)->List Nat
 |[]=>[]
 |(0,r)::l=>match r.rx.looks with
  |true=>slotsOf r.rx.bq++jJ l
  |false=>jJ l
 |(_+1,_)::l=>jJ l
def Nl:List Opd->Bool
 |[]=>true
 |.t _::os=>Nl os
 |_::_=>false
def cU(rs:List ROp)(cs:List Nat):List Nat->Option (List (Nat×ROp))
 |[]=>some []
 |i::l=>match rs[i]?,cU rs cs l with
  |some r,some q=>some ((cs.getD i 0,r)::q)
  |_,_=>none
def RX.comes:RX->Bool
 |.call .. |.fp .. |.eff .. |.load .. =>true
 |_=>false
def Fe(q e:ROp):Bool:=(q.rx.eY&&(!q.rx.looks||Nl q.rx.bq))&&(e.rx.comes&&(apart q.writes (e.reads++e.writes)&&apart e.writes q.reads))
def D5(rs:List ROp)(cs:List Nat)(m i k:Nat):Bool:=m.testBit k||(Nat.beq (cs.getD k 0) 0&&match rs[k]?,rs[i]? with
 |some x,some y=>match cs.getD i 0 with
  |0=>indep x y
  |1=>false
  |_+2=>Fe x y
 |_,_=>false)
def Mx(rs:List ROp)(cs:List Nat)(m i:Nat):List Nat->Bool
 |[]=>true
 |k::l=>D5 rs cs m i k&&Mx rs cs m i l
def uc(rs:List ROp)(cs ms:List Nat)(seen:List Nat):List Nat->Bool
 |[]=>true
 |i::l=>Mx rs cs (ms.getD i 0) i seen&&uc rs cs ms (i::seen) l
def qw(i:Nat):List Nat->Bool
 |[]=>true
 |k::l=>!(Nat.beq k i)&&qw i l
def wA:List Nat->Bool
 |[]=>true
 |i::l=>qw i l&&wA l
def o8(pi:List Nat):Nat->Bool
 |0=>true
 |n+1=>!(qw n pi)&&o8 pi n
def B4(rs:List ROp)(sl:List Nat):List Nat->Bool
 |[]=>true
 |k::l=>(match rs[k]? with
  |some y=>apart y.writes sl
  |none=>true)&&B4 rs sl l
def Ki(rs:List ROp):List Nat->Bool
 |[]=>true
 |k::l=>(match rs[k]? with
  |some x=>!x.rx.looks||B4 rs (slotsOf x.rx.bq) (k::l)
  |none=>true)&&Ki rs l
def Ssa(rs:List ROp)(k m:Nat):Prop:=∀x y,rs[k]? =some x->rs[m]? =some y->x.rx.looks=true->∀t∈slotsOf x.rx.bq,t∉y.writes
theorem tX{rs:List ROp}{sl:List Nat}:∀{l:List Nat},B4 rs sl l=true->∀m∈l,∀y,rs[m]? =some y->∀t∈sl,t∉y.writes
 |k::l,h,m,hm,y,hy,t,ht=>by
  simp only[B4,zD] at h;rcases zI.1 hm with rfl|hm
  .have h1:=h.1;rw[hy] at h1;exact λhw=>apart_spec h1 t hw ht
  .exact tX h.2 m hm y hy t ht
theorem ph{rs:List ROp}:∀{l:List Nat},Ki rs l=true->l.Pairwise (Ssa rs)/\∀k∈l,Ssa rs k k
 |[],_=>⟨.nil,λk hk=>by cases hk⟩
 |k::l,h=>by
  simp only[Ki,zD] at h;obtain⟨h3,h4⟩:=ph h.2
  have key:∀m∈k::l,Ssa rs k m:=λm hm x y hx hy hl=>by
   have h1:=h.1;rw[hx] at h1;simp only[hl,Bool.not_true,Bool.false_or] at h1;exact tX h1 m hm y hy
  exact⟨ZA.2 ⟨λm hm=>key m (by simp[hm]),h3⟩,λm hm=>by
   rcases zI.1 hm with rfl|hm
   .exact key _ (by simp)
   .exact h4 m hm⟩
def Ba(ops:Array Oper)(rs:List ROp)(pi cs:List Nat):Bool:=Ki rs pi&&fY ops.toList 0&&(wA pi&&(o8 pi ops.size&&uc rs cs (aN [] ops.toList) [] pi))
theorem ui{i:Nat}:∀{l:List Nat},qw i l=true->i∉l
 |[],_,h=>by cases h
 |k::l,h,hm=>by
  simp only[qw,zD,zb] at h;rcases zI.1 hm with rfl|hm
  .rw [mg] at h;cases h.1
  .exact ui h.2 hm
theorem sa{i:Nat}:∀{l:List Nat},qw i l=false->i∈l
 |[],h=>by cases h
 |k::l,h=>by
  by_cases e:k=i
  .subst e;simp
  .simp only[qw,cK e,Bool.not_false,za] at h;exact zQ _ (sa h)
theorem j7:∀{l:List Nat},wA l=true->l.Nodup
 |[],_=>.nil
 |i::l,h=>by
  simp only[wA,zD] at h;exact Zg.2 ⟨ui h.1,j7 h.2⟩
theorem gg{pi:List Nat}:∀{n:Nat},o8 pi n=true->∀i,i<n->i∈pi
 |0,_,i,hi=>by omega
 |n+1,h,i,hi=>by
  simp only[o8,zD,zb] at h
  by_cases e:i=n
  .subst e;exact sa h.1
  .exact gg h.2 i (by omega)
theorem Ay{rs:List ROp}{cs:List Nat}{m i:Nat}:∀{l:List Nat},Mx rs cs m i l=true->∀k∈l,D5 rs cs m i k=true
 |[],_,k,hk=>by cases hk
 |k0::l,h,k,hk=>by
  simp only[Mx,zD] at h;rcases zI.1 hk with rfl|hk
  .exact h.1
  .exact Ay h.2 k hk
theorem vu{rs:List ROp}{cs ms:List Nat}:∀{A:List Nat} {seen:List Nat} {i:Nat} {B:List Nat},uc rs cs ms seen (A++i::B)=true->∀k,k∈A\/k∈seen->D5 rs cs (ms.getD i 0) i k=true
 |[],seen,i,B,h,k,hk=>by
  simp only[Zo,uc,zD] at h;rcases hk with hk|hk
  .cases hk
  .exact Ay h.1 k hk
 |a::A,seen,i,B,h,k,hk=>by
  simp only[ze,uc,zD] at h;refine vu (A:=A) h.2 k ?_;rcases hk with hk|hk
  .rcases zI.1 hk with rfl|hk
   .exact .inr (by simp)
   .exact .inl hk
  .exact .inr (by simp[hk])
section
variable{P:Program}{rs:List ROp}{cs V:List Nat}{K:St->Prop}
theorem bf{K':St->Prop}(hk:∀x,K x->K' x):∀{q:List (Nat×ROp)} {s:St},jI P V q s K->jI P V q s K'
 |[],_,h=>hk _ h
 |(0,_)::_,_,h=>ROp.mono (λ_ hx=>bf hk hx) h
 |(1,_)::_,_,h=>ROp.mono (λ_ hx=>bf hk hx) h
 |(_+2,_)::_,_,h=>ROp.mono (λ_ hx=>⟨hx.h,bf hk hx.k⟩) h
theorem fL:∀{pi:List Nat} {q:List (Nat×ROp)} {s:St},cU rs cs pi=some q->jI P V q s K->ju P rs cs V pi s K
 |[],q,s,hq,h=>by cases hq;exact h
 |i::l,q,s,hq,h=>by
  simp only[cU] at hq;split at hq
  .rename_i r q' hr hq';cases hq;refine⟨r,hr,?_⟩;revert h
   cases cs.getD i 0 with
   |zero=>exact λh=>ROp.mono (λs' hs'=>fL hq' hs') h
   |succ c=>
    cases c with
    |zero=>exact λh=>ROp.mono (λs' hs'=>fL hq' hs') h
    |succ c=>exact λh=>ROp.mono (λs' hs'=>⟨hs'.h,fL hq' hs'.k⟩) h
  .cases hq
theorem fM:∀{pi:List Nat} {q:List (Nat×ROp)},cU rs cs pi=some q->∀k∈pi,cs.getD k 0=0->∀x,rs[k]? =some x->x.rx.looks=true->∀t∈slotsOf x.rx.bq,t∈jJ q
 |[],q,hq,k,hk=>by cases hk
 |i::l,q,hq,k,hk=>by
  simp only[cU] at hq;split at hq
  .rename_i r q' hr hq';cases hq;intro h0 x hx hl t ht
   have sub:t∈jJ q'->t∈jJ ((cs.getD i 0,r)::q'):=λh=>by
    cases cs.getD i 0 with
    |zero=>
     simp only[jJ];split
     .exact ZW _ h
     .exact h
    |succ c=>exact h
   rcases zI.1 hk with rfl|hk
   .rw [hr] at hx;cases hx;rw[h0];simp only[jJ,hl];exact ZB _ ht
   .exact sub (fM hq' k hk h0 x hx hl t ht)
  .cases hq
theorem jH:∀{pi:List Nat} {q:List (Nat×ROp)},cU rs cs pi=some q->∀i∈pi,i<rs.length
 |[],q,hq,i,hi=>by cases hi
 |k::l,q,hq,i,hi=>by
  simp only[cU] at hq;split at hq
  .rename_i r q' hr hq';rcases zI.1 hi with rfl|hi
   .exact (zB.1 hr).1
   .exact jH hq' i hi
  .cases hq
theorem vq:∀{pre post:List Nat} {s:St},(∀k∈pre,cs.getD k 0=0)->ju P rs cs V (pre++post) s K->∃sm,mj P rs pre s sm/\ju P rs cs V post sm K
 |[],post,s,_,h=>⟨s,rfl,h⟩
 |k::pre,post,s,hn,⟨r,hr,h⟩=>by
  rw[hn k (by simp)] at h
  obtain⟨s1,h1,h2⟩:=ROp.ex h;obtain⟨sm,h3,h4⟩:=vq (λk' hk'=>hn k' (by simp[hk'])) h2
  exact⟨sm,⟨s1,⟨r,hr,h1⟩,h3⟩,h4⟩
theorem sV:∀{pre post:List Nat} {s sm:St},(∀k∈pre,cs.getD k 0=0)->mj P rs pre s sm->ju P rs cs V post sm K->ju P rs cs V (pre++post) s K
 |[],post,s,sm,_,h,k=>by have h:s=sm:=h;subst h;exact k
 |k::pre,post,s,sm,hn,⟨s1,⟨r,hr,h1⟩,h2⟩,hk=>by
  refine⟨r,hr,?_⟩;rw[hn k (by simp)]
  refine ROp.mono (λs' e=>?_) h1;subst e;exact sV (λk' hk'=>hn k' (by simp[hk'])) h2 hk
theorem D3(e:List (Nat×AV))(bs:List Box)(lo k:Nat)(v:AV){d:Option Nat}(hd:d≠some k)(r:AV):(⟨aV e k v,bs,lo⟩:St).put d r=((⟨e,bs,lo⟩:St).put d r).put (some k) v:=by
 cases d with
 |none=>rfl
 |some j=>exact St.put_comm (⟨e,bs,lo⟩:St) v r (λx=>hd (by rw[x]))
theorem LC{e:Eff}{vals:List AV}{s:St}{k:Nat}{v:AV}{d:Option Nat}{K:St->Prop}(hd:d≠some k)(h:tM e vals (s.put (some k) v) d K):tM e vals s d λs'=>K (s'.put (some k) v):=by
 obtain⟨env,bs,lo⟩:=s
 have pp:∀(bs:List Box) (r:AV),K ((⟨aV env k v,bs,lo⟩:St).put d r)->K (((⟨env,bs,lo⟩:St).put d r).put (some k) v):=λbs r x=>by
  rw[D3 _ _ _ _ _ hd] at x;exact x
 simp only[St.put] at h;unfold tM at h|-;split at h
 .exact jj (λm k' cs' ob h=>tL (λn ys h=>⟨h.1,λk' hk'=>pp _ _ (h.2 k' hk')⟩) h) h
 .unfold xP at h|-;split at h
  .exact jj (λm k' cs' ob h=>⟨h.1,λk' hk'=>pp _ _ (h.2 k' hk')⟩) h
  .exact h
 .unfold F7 at h|-;split at h
  .exact ⟨h.1,pp _ _ h.2⟩
  .exact h
 .exact pp _ _ h
 .exact pp _ _ h
 .unfold vo at h|-;split at h
  .simp only at h|-;split at h
   .exact h
   .exact h
   .exact h.elim
  .exact h
 .unfold w9 at h|-;split at h
  .simp only at h|-;split at h
   .split at h
    .exact ⟨h.1,pp _ _ h.2⟩
    .exact pp _ _ h
   .split at h
    .exact ⟨h.1,pp _ _ h.2⟩
    .exact pp _ _ h
   .exact h
  .exact pp _ _ h
  .exact h
 .unfold mkB at h|-;split at h
  .exact ⟨h.1,pp _ _ h.2⟩
  .exact h
 .unfold uw at h|-;split at h
  .simp only at h|-;split at h
   .exact ⟨h.1,pp _ _ h.2⟩
   .exact h
  .exact h
 .unfold tW at h|-;split at h
  .simp only at h|-;split at h
   .split at h
    .exact h
    .exact h
   .exact h
  .exact h
 .exact ⟨h.1,pp _ _ h.2⟩
 .exact ⟨λe=>pp _ _ (h.1 e),λe b=>pp _ _ (h.2 e b)⟩
 .obtain ⟨b,cs,l,x,h1,h2,h3,h4,h5,h6,h7,h8,h9,h⟩:=h;exact⟨b,cs,l,x,h1,h2,h3,h4,h5,h6,h7,h8,h9,h⟩
 .obtain ⟨b,cs,l,x,r,h1,h2,h3,h4,h5,h6,h7,h8,h9⟩:=h;exact⟨b,cs,l,x,r,h1,h2,h3,h4,h5,h6,h7,λy e=>pp _ _ (h8 y e),λe=>pp _ _ (h9 e)⟩
 .exact h
theorem GG{s:St}{t b off z:Nat}{l:List AV}(h:s.at (.bx b off)=some (.sl (.own z) l)):(((s.put (some t) (.sl .no l)).upd (.bx b off) (.sl .no l)).upd (.sl t) (.sl (.own z) l))=(⟨s.env,(s.upd (.bx b off) (.sl .no l)).bs,s.lo⟩:St).put (some t) (.sl (.own z) l):=by
 obtain⟨env,bs,lo⟩:=s;simp only[St.at] at h
 cases hb:ab bs b with
 |none=>rw[hb] at h;cases h
 |some cs=>simp only[St.upd,St.put,hb,St.bz,qO]
theorem wQ{agg:Bool}{n:Nat}{cs:Option (List AV)}{K K':AV->Prop}(hk:∀x,K x->K' x)(h:b9 agg n cs K):b9 agg n cs K':=by
 unfold b9 at h|-;split at h
 .split at h
  .exact af.2 ⟨(af.1 h).1,hk _ (af.1 h).2⟩
  .split at h<;>first|exact hk _ h|exact h
 .exact h
def uY(agg:Bool)(s:St)(d:Option Nat)(p:AV):Prop:=∃t b off z l,agg=false/\d=some t/\p=.ptr b off/\s.at (.bx b off)=some (.sl (.own z) l)
theorem nf{agg:Bool}{n:Nat}{s:St}{d:Option Nat}{p:AV}{K:St->Prop}(h:¬uY agg s d p):fg agg n s d p K=b9 agg n (s.rd p) λr=>K (s.put d r):=by
 unfold fg;split
 .rename_i t b off;split
  .rename_i z l hl;exact absurd ⟨t,b,off,z,l,rfl,rfl,rfl,hl⟩ h
  .rfl
 .rfl
theorem nd{n t b off z:Nat}{l:List AV}{s:St}{K:St->Prop}(hl:s.at (.bx b off)=some (.sl (.own z) l)):fg false n s (some t) (.ptr b off) K=K ((⟨s.env,(s.upd (.bx b off) (.sl .no l)).bs,s.lo⟩:St).put (some t) (.sl (.own z) l)):=by
 unfold fg;simp only[hl];rw[GG hl]
theorem GF{agg:Bool}{n k:Nat}{v:AV}{d:Option Nat}(hd:d≠some k){s:St}{p:AV}{K:St->Prop}(h:fg agg n (s.put (some k) v) d p K):fg agg n s d p λs'=>K (s'.put (some k) v):=by
 have hat:∀b off,(s.put (some k) v).at (.bx b off)=s.at (.bx b off):=λb off=>by rw[St.eF,if_neg (by simp)]
 by_cases ht:uY agg s d p
 .obtain ⟨t,b,off,z,l,rfl,rfl,rfl,hl⟩:=ht;rw[nd ((hat b off).trans hl)] at h;rw[nd hl]
  have e:((⟨(s.put (some k) v).env,((s.put (some k) v).upd (.bx b off) (.sl .no l)).bs,(s.put (some k) v).lo⟩:St).put (some t) (.sl (.own z) l))=((⟨s.env,(s.upd (.bx b off) (.sl .no l)).bs,s.lo⟩:St).put (some t) (.sl (.own z) l)).put (some k) v:=by
   have hb:((s.put (some k) v).upd (.bx b off) (.sl .no l)).bs=(s.upd (.bx b off) (.sl .no l)).bs:=by
    obtain⟨env,bs,lo⟩:=s;simp only[St.upd,St.put];cases ab bs b<;>rfl
   rw[hb];exact St.put_comm (⟨s.env,(s.upd (.bx b off) (.sl .no l)).bs,s.lo⟩:St) v _ (j:=k) (k:=t) (λe=>hd (by rw[e]))
  rw[e] at h;exact h
 .have ht':¬uY agg (s.put (some k) v) d p:=λ⟨t,b,off,z,l,e1,e2,e3,e4⟩=>ht ⟨t,b,off,z,l,e1,e2,e3,(hat b off).symm.trans e4⟩;rw[nf ht'] at h;rw[nf ht];rw[St.sZ] at h;refine wQ (λx hx=>?_) h
  cases d with
  |none=>exact hx
  |some j=>
   have:=St.put_comm s v x (j:=k) (k:=j) (λe=>hd (by rw[e]))
   rw[this] at hx;exact hx
theorem Fg{rx:RX}(hc:rx.comes=true){d:Option Nat}{k:Nat}(v:AV)(h1:k∉slotsOf rx.bq)(h2:d≠some k){s:St}{K:St->Prop}(h:rx.run P false (s.put (some k) v) d K):rx.run P false s d λs'=>K (s'.put (some k) v):=by
 have hev:∀o∈rx.bq,(s.put (some k) v).ev o=s.ev o:=λo ho=>St.CT s k v λhk=>h1 (eG ho hk)
 have pp:∀(bs:List Box) (r:AV),K ((⟨aV s.env k v,bs,s.lo⟩:St).put d r)->K (((⟨s.env,bs,s.lo⟩:St).put d r).put (some k) v):=λbs r x=>by
  rw[D3 _ _ _ _ _ h2] at x;exact x
 cases rx<;>simp[RX.comes] at hc
 case call f args=>
  simp only[RX.run] at h|-;rw[hev f (by simp[RX.bq]),dP (λo ho=>hev o (by simp[RX.bq,ho]))] at h
  unfold kx at h|-;split at h
  .obtain ⟨Q,h3,h4⟩:=h;exact⟨Q,h3,λr bs' hq=>pp bs' r (h4 r bs' hq)⟩
  .obtain ⟨Q,h3,h4⟩:=h;exact⟨Q,h3,λr bs' hq=>pp bs' r (h4 r bs' hq)⟩
  .exact h
 case fp f args=>
  simp only[RX.run] at h|-;rw[hev f (by simp[RX.bq]),dP (λo ho=>hev o (by simp[RX.bq,ho]))] at h
  refine⟨h.1,?_⟩;have h:=h.2;unfold kx at h|-;split at h
  .obtain ⟨Q,h3,h4⟩:=h;exact⟨Q,h3,λr bs' hq=>pp bs' r (h4 r bs' hq)⟩
  .obtain ⟨Q,h3,h4⟩:=h;exact⟨Q,h3,λr bs' hq=>pp bs' r (h4 r bs' hq)⟩
  .exact h
 case load agg n o=>
  simp only[RX.run] at h|-;rw[hev o (by simp[RX.bq])] at h
  exact GF h2 h
 case eff e args=>
  simp only[RX.run] at h|-;rw[dP (λo ho=>hev o (by simp[RX.bq,ho]))] at h
  exact LC h2 h
theorem C8{bs t:List Box}{b:Nat}{cs:List AV}(h:ab bs b=some cs):ab (bs++t) b=some cs:=by
 have hb:=aC h;simp only[ab,zK hb];exact h
theorem N8{s s':St}{t:List Box}(h:s'.bs=s.bs++t)(x:AV)(cs:List AV)(hx:s.rd x=some cs):s'.rd x=some cs:=by
 cases x<;>simp only[St.rd] at hx|-<;>first|exact hx|skip
 all_goals
  split at hx
  .rename_i cs' hc;rw[h,C8 hc];exact hx
  .cases hx
theorem Ff{rx:RX}(hc:rx.comes=true){d:Option Nat}{s:St}{K:St->Prop}(h:rx.run P false s d K):rx.run P false s d λs'=>K s'/\∃bs' lo,(∃r,s'=(⟨s.env,bs',lo⟩:St).put d r)\/s'=⟨s.env,bs',lo⟩:=by
 cases rx<;>simp[RX.comes] at hc
 case call f args=>
  simp only[RX.run] at h|-;unfold kx at h|-;split at h
  .obtain ⟨Q,h3,h4⟩:=h;exact⟨Q,h3,λr bs' hq=>⟨h4 r bs' hq,_,_,.inl ⟨_,rfl⟩⟩⟩
  .obtain ⟨Q,h3,h4⟩:=h;exact⟨Q,h3,λr bs' hq=>⟨h4 r bs' hq,_,_,.inl ⟨_,rfl⟩⟩⟩
  .exact h
 case fp f args=>
  simp only[RX.run] at h|-;refine⟨h.1,?_⟩;have h:=h.2;unfold kx at h|-;split at h
  .obtain ⟨Q,h3,h4⟩:=h;exact⟨Q,h3,λr bs' hq=>⟨h4 r bs' hq,_,_,.inl ⟨_,rfl⟩⟩⟩
  .obtain ⟨Q,h3,h4⟩:=h;exact⟨Q,h3,λr bs' hq=>⟨h4 r bs' hq,_,_,.inl ⟨_,rfl⟩⟩⟩
  .exact h
 case load agg n o=>
  simp only[RX.run] at h|-
  by_cases ht:uY agg s d (s.ev o)
  .obtain ⟨t,b,off,z,l,rfl,rfl,hp,hl⟩:=ht;rw[hp,nd hl] at h|-;exact⟨h,_,_,.inl ⟨_,rfl⟩⟩
  .rw [nf ht] at h|-;exact wQ (λx hx=>⟨hx,_,_,.inl ⟨x,rfl⟩⟩) h
 case eff e args=>
  simp only[RX.run] at h|-;obtain⟨env,bs,lo⟩:=s;unfold tM at h|-;split at h
  .exact jj (λm k' cs' ob h=>tL (λn ys h=>⟨h.1,λk' hk'=>⟨h.2 k' hk',_,_,.inl ⟨_,rfl⟩⟩⟩) h) h
  .unfold xP at h|-;split at h
   .exact jj (λm k' cs' ob h=>⟨h.1,λk' hk'=>⟨h.2 k' hk',_,_,.inl ⟨_,rfl⟩⟩⟩) h
   .exact h
  .unfold F7 at h|-;split at h
   .exact ⟨h.1,h.2,_,_,.inl ⟨_,rfl⟩⟩
   .exact h
  .exact ⟨h,_,_,.inl ⟨_,rfl⟩⟩
  .exact ⟨h,_,_,.inl ⟨_,rfl⟩⟩
  .unfold vo at h|-;split at h
   .simp only at h|-;split at h
    .exact ⟨h.1,h.2,_,_,.inr rfl⟩
    .exact ⟨h.1,h.2,_,_,.inr rfl⟩
    .exact h.elim
   .exact h
  .unfold w9 at h|-;split at h
   .simp only at h|-;split at h
    .split at h
     .exact ⟨h.1,h.2,_,_,.inl ⟨_,rfl⟩⟩
     .exact ⟨h,_,_,.inl ⟨_,rfl⟩⟩
    .split at h
     .exact ⟨h.1,h.2,_,_,.inl ⟨_,rfl⟩⟩
     .exact ⟨h,_,_,.inl ⟨_,rfl⟩⟩
    .exact h
   .exact ⟨h,_,_,.inl ⟨_,rfl⟩⟩
   .exact h
  .unfold mkB at h|-;split at h
   .exact ⟨h.1,h.2,_,_,.inl ⟨_,rfl⟩⟩
   .exact h
  .unfold uw at h|-;split at h
   .simp only at h|-;split at h
    .exact ⟨h.1,h.2,_,_,.inl ⟨_,rfl⟩⟩
    .exact h
   .exact h
  .unfold tW at h|-;split at h
   .simp only at h|-;split at h
    .split at h
     .exact ⟨h.1,h.2,_,_,.inr rfl⟩
     .exact h
    .exact h
   .exact h
  .exact ⟨h.1,h.2,_,_,.inl ⟨_,rfl⟩⟩
  .exact ⟨λe=>⟨h.1 e,_,_,.inl ⟨_,rfl⟩⟩,λe b=>⟨h.2 e b,_,_,.inl ⟨_,rfl⟩⟩⟩
  .obtain ⟨b,cs,l,x,h1,h2,h3,h4,h5,h6,h7,h8,h9,h⟩:=h;exact⟨b,cs,l,x,h1,h2,h3,h4,h5,h6,h7,h8,h9,h,_,_,.inr rfl⟩
  .obtain ⟨b,cs,l,x,r,h1,h2,h3,h4,h5,h6,h7,h8,h9⟩:=h;exact⟨b,cs,l,x,r,h1,h2,h3,h4,h5,h6,h7,λy e=>⟨h8 y e,_,_,.inl ⟨_,rfl⟩⟩,λe=>⟨h9 e,_,_,.inl ⟨_,rfl⟩⟩⟩
  .exact h
theorem mem_reads{r:ROp}{o:Opd}{k:Nat}(h:o∈r.rx.bq)(hk:k∈o.cB):k∈r.reads:=ZW _ (eG h hk)
theorem tF{s:St}{bs':List Box}{lo:Nat}{d:Option Nat}{s':St}(h:(∃r,s'=(⟨s.env,bs',lo⟩:St).put d r)\/s'=⟨s.env,bs',lo⟩){t:Nat}(ht:d≠some t):s'.get t=s.get t:=by
 rcases h with ⟨r,rfl⟩|rfl
 .cases d with
  |none=>rfl
  |some d=>exact St.dp _ _ _ (λe=>ht (by rw[e]))
 .rfl
theorem Hy{bs bs':List Box}{v:AV}:∀{vs:List AV},stb bs bs' vs->v∈vs->stb bs bs' [v]
 |w::vs,h,hv=>by
  have h2:stb bs bs' [w]/\stb bs bs' vs:=by cases w<;>first|exact⟨trivial,h⟩|exact⟨⟨h.1,trivial⟩,h.2⟩
  rcases zI.1 hv with rfl|hv
  .exact h2.1
  .exact Hy h2.2 hv
theorem NX{s s':St}{v:AV}(h:stb s.bs s'.bs [v])(cs:List AV)(hx:s.rd v=some cs):s'.rd v=some cs:=by
 have key:∀b off,qQ s'.bs b=qQ s.bs b->(match ab s.bs b with|some cs=>some ((cs.drop off).map AV.aG)|none=>none)=some cs->(match ab s'.bs b with|some cs=>some ((cs.drop off).map AV.aG)|none=>none)=some cs:=λb off e hx=>by
  unfold qQ at e
  cases h1:ab s.bs b with
  |none=>rw[h1] at hx;cases hx
  |some ds=>
   rw[h1] at hx e
   cases h2:ab s'.bs b with
   |none=>rw[h2] at e;cases e
   |some ds'=>
    rw[h2] at e;simp only[zN] at e hx|-;rw[<-hx,List.map_drop,List.map_drop,e]
 cases v<;>simp only[St.rd] at hx|-<;>first|exact hx|exact key _ _ h.1 hx
theorem ON{s s':St}{vs:List AV}{v:AV}(h:Chk vs s.bs s'.bs)(hv:v∈vs)(cs:List AV)(hx:s.rd v=some cs):s'.rd v=some cs:=by
 rcases h with ⟨t,ht⟩|h
 .exact N8 ht v cs hx
 .exact NX (Hy h hv) cs hx
theorem FH:∀{os:List Opd} {o:Opd},Nl os=true->o∈os->∃k,o=.t k/\k∈slotsOf os
 |.t j::os,o,h,ho=>by
  rcases zI.1 ho with rfl|ho
  .exact ⟨j,rfl,by simp[slotsOf,Opd.cB]⟩
  .obtain ⟨k,e,hk⟩:=FH (os:=os) h ho
   exact⟨k,e,by simp only[slotsOf,zY];exact .inr hk⟩
 |.c x::os,o,h,ho=>by simp[Nl] at h
theorem Ha{q e:ROp}(hc:Fe q e=true){s s1:St}(hq:q.run P true s λx=>x=s1){K:St->Prop}{vs:List AV}(hvs:q.rx.looks=true->∀t∈slotsOf q.rx.bq,s.ev (.t t)∈vs)(he:e.run P false s1 λs'=>Chk vs s1.bs s'.bs/\K s'):e.run P false s λs'=>Chk vs s.bs s'.bs/\q.run P true s' K:=by
 simp only[Fe,zD] at hc;obtain⟨⟨hqp,hqt⟩,hec,ha1,ha2⟩:=hc
 have hqw:∀k,q.dst=some k->k∉e.reads/\k∉e.writes:=λk hk=>by
  have:=apart_spec ha1 k (by simp[ROp.writes,hk])
  simp only[zY,not_or] at this;exact this
 have hew:∀k,e.dst=some k->k∉q.reads:=λk hk=>apart_spec ha2 k (by simp[ROp.writes,hk])
 --what q does:a value into its slot,the boxes as they are
 have hrun:∃v,s1=s.put q.dst v/\∀s':St,(∀o∈q.rx.bq,s.ev o=s'.ev o)->(∀g w,q.guard=some (g,w)->s'.get g=s.get g)->(q.rx.looks=true->∀o∈q.rx.bq,∀cs,s.rd (s.ev o)=some cs->s'.rd (s.ev o)=some cs)->∀K:St->Prop,K (s'.put q.dst v)->q.run P true s' K:=by
  unfold ROp.run at hq;split at hq
  .rename_i hgq;obtain⟨v,h1,h2⟩:=D2 ((bH hqp).1 hq);refine⟨v,h2.symm,λs' h3 _ h5 K hK=>?_⟩;unfold ROp.run;rw[hgq];refine(bH hqp).2 (om h3 (λhl o ho _ cs e=>h5 hl o ho cs e) (mK (λy hy=>?_) h1));rw[hy];exact hK
  .rename_i g want hgq;split at hq
   .rename_i b hb
    by_cases hbw:b=want
    .obtain ⟨v,h1,h2⟩:=D2 ((bH hqp).1 (hq.1 hbw));refine⟨v,h2.symm,λs' h3 h4 h5 K hK=>?_⟩;unfold ROp.run;rw[hgq]
     have hb':gv want (s'.ev (.t g))=some b:=by
      have:=h4 g want hgq;simp only[St.ev,this] at hb|-;exact hb
     simp only[hb'];refine⟨λ_=>(bH hqp).2 (om h3 (λhl o ho _ cs e=>h5 hl o ho cs e) (mK (λy hy=>?_) h1)),λe=>absurd hbw e⟩;rw[hy];exact hK
    .refine ⟨.tup [],(hq.2 hbw).symm,λs' h3 h4 h5 K hK=>?_⟩;unfold ROp.run;rw[hgq]
     have hb':gv want (s'.ev (.t g))=some b:=by
      have:=h4 g want hgq;simp only[St.ev,this] at hb|-;exact hb
     simp only[hb'];exact⟨λe=>absurd e hbw,λ_=>hK⟩
   .exact hq.elim
 obtain⟨v,rfl,hrun⟩:=hrun
 have hsb:(s.put q.dst v).bs=s.bs:=by cases q.dst<;>rfl
 --e,ahead of q
 have hgo:(e.rx.run P false (s.put q.dst v) e.dst λs'=>Chk vs s.bs s'.bs/\K s')->e.rx.run P false s e.dst λs'=>Chk vs s.bs s'.bs/\q.run P true s' K:=λhe=>by
  have he2:e.rx.run P false s e.dst λs'=>Chk vs s.bs s'.bs/\K (s'.put q.dst v):=by
   cases hqd:q.dst with
   |none=>rw[hqd] at he;exact he
   |some k=>
    rw[hqd] at he;obtain⟨h1,h2⟩:=hqw k hqd;exact Fg hec v (λhk=>h1 (ZW _ hk)) (λe'=>h2 (by simp[ROp.writes,e'])) he
  refine B9 (λs' ⟨⟨ht,hK⟩,bs',lo,hs'⟩=>⟨ht,?_⟩) (Ff hec he2)
  refine hrun s' (λo ho=>?_) (λg w hgq=>?_) (λhl o ho cs hx=>ON ht (by
   simp only[hl,Bool.not_true,Bool.false_or] at hqt;obtain⟨k,rfl,hk⟩:=FH hqt ho;exact hvs hl k hk) cs hx) K hK
  .cases o with
   |c x=>rfl
   |t j=>
    simp only[St.ev];rw[tF hs' (λe'=>hew j e' (mem_reads ho (by simp[Opd.cB])))]
  .refine tF hs' λe'=>hew g e' ?_;simp[ROp.reads,hgq]
 unfold ROp.run at he|-
 cases hg:e.guard with
 |none=>
  rw[hg] at he;simp only at he|-;rw[hsb] at he
  exact hgo he
 |some gw=>
  obtain⟨g,want⟩:=gw;rw[hg] at he;simp only at he|-
  have hgv:(s.put q.dst v).ev (.t g)=s.ev (.t g):=by
   cases hqd:q.dst with
   |none=>rfl
   |some k=>
    refine St.CT s k v λhk=>?_;simp only[Opd.cB,zp] at hk;exact(hqw k hqd).1 (by simp[ROp.reads,hg,<-hk])
  rw[hgv,hsb] at he
  cases hb:gv want (s.ev (.t g)) with
  |none=>rw[hb] at he;exact he.elim
  |some b=>
   rw[hb] at he;simp only at he|-;refine⟨λe1=>hgo (he.1 e1),λe1=>?_⟩;obtain⟨_,c2⟩:=he.2 e1;have hbs:(s.put e.dst (.tup [])).bs=s.bs:=by cases e.dst<;>rfl
   have hget:∀t,e.dst≠some t->(s.put e.dst (.tup [])).get t=s.get t:=λt ht=>tF (bs':=s.bs) (lo:=s.lo) (.inl ⟨.tup [],rfl⟩) ht;refine⟨by rw[hbs];exact .inl ⟨[],by rw[zy]⟩,hrun _ (λo ho=>?_) (λg' w hgq=>?_) (λ_ o ho cs hx=>?_) K ?_⟩
   .cases o with
    |c x=>rfl
    |t j=>
     simp only[St.ev];rw[hget j λe'=>hew j e' (mem_reads ho (by simp[Opd.cB]))]
   .exact hget g' λe'=>hew g' e' (by simp[ROp.reads,hgq])
   .have:∀x,(s.put e.dst (.tup [])).rd x=s.rd x:=λx=>by cases e.dst<;>rfl
    rw[this];exact hx
   .cases hqd:q.dst with
    |none=>rw[hqd] at c2;exact c2
    |some k=>
     rw[hqd] at c2
     cases hed:e.dst with
     |none=>rw[hed] at c2;exact c2
     |some d=>
      rw[hed] at c2;rw[St.put_comm s _ _ (λe'=>(hqw k hqd).2 (by simp[ROp.writes,hed,e']))]
      exact c2
def Mb(P:Program)(rs:List ROp)(vs:List AV):List Nat->St->St->Prop
 |[],s,s'=>s=s'
 |k::l,s,s'=>(∀x,rs[k]? =some x->x.rx.looks=true->∀t∈slotsOf x.rx.bq,s.ev (.t t)∈vs)/\∃s1,AOp P rs k s s1/\Mb P rs vs l s1 s'
theorem Bn:∀{l:List Nat} {s sm:St},mj P rs l s sm->∀t,(∀m∈l,∀y,rs[m]? =some y->t∉y.writes)->sm.get t=s.get t
 |[],s,sm,h,t,_=>by have h:s=sm:=h;rw[h]
 |k::l,s,sm,⟨s1,⟨x,hx,h1⟩,h2⟩,t,ht=>by
  rw[Bn h2 t (λm hm=>ht m (by simp[hm]))]
  exact ROp.mod h1 (ht k (by simp) x hx)
theorem EZ{V:List Nat}:∀{l:List Nat} {s sm:St},mj P rs l s sm->l.Pairwise (Ssa rs)->(∀k∈l,Ssa rs k k)->(∀k∈l,∀x,rs[k]? =some x->x.rx.looks=true->∀t∈slotsOf x.rx.bq,t∈V)->Mb P rs (GV sm V) l s sm
 |[],s,sm,h,_,_,_=>h
 |k::l,s,sm,⟨s1,hk,h2⟩,hp,hself,hV=>by
  obtain⟨p1,p2⟩:=ZA.1 hp;refine⟨λx hx hl t ht=>?_,s1,hk,EZ h2 p2 (λm hm=>hself m (by simp[hm])) (λm hm=>hV m (by simp[hm]))⟩
  have e:sm.get t=s.get t:=Bn (l:=k::l) ⟨s1,hk,h2⟩ t λm hm y hy=>by
   rcases zI.1 hm with rfl|hm
   .exact hself _ (by simp) x y hx hy hl t ht
   .exact p1 m hm x y hx hy hl t ht
  have e2:sm.ev (.t t)=s.ev (.t t):=CU λk hk=>by
   simp only[Opd.cB,zp] at hk;rw[hk];exact e
  rw[<-e2];exact ER (hV k (by simp) x hx hl t ht)
theorem E8{i:Nat}{e:ROp}{vs:List AV}:∀{pre:List Nat} {s sm:St} {K:St->Prop},Mb P rs vs pre s sm->(∀k∈pre,∀x,rs[k]? =some x->Fe x e=true)->(e.run P false sm λs'=>Chk vs sm.bs s'.bs/\K s')->
  e.run P false s λs1=>Chk vs s.bs s1.bs/\∃s2,mj P rs pre s1 s2/\K s2
 |[],s,sm,K,h,_,he=>by
  have h:s=sm:=h;subst h
  exact ROp.mono (λs' hs'=>⟨hs'.1,s',rfl,hs'.2⟩) he
 |k::pre,s,sm,K,⟨hv,s1,⟨x,hx,h1⟩,h2⟩,hc,he=>by
  have ih:=E8 (i:=i) h2 (λk' hk'=>hc k' (by simp[hk'])) he
  have:=Ha (hc k (by simp) x hx) h1 (hv x hx) ih
  refine ROp.mono (λs' ⟨hp,hr⟩=>⟨hp,?_⟩) this;obtain⟨s3,h3,s4,h4,h5⟩:=ROp.ex hr;exact⟨s4,⟨s3,⟨x,hx,h3⟩,h4⟩,h5⟩
end
theorem B5(p:Nat->Bool)(i:Nat){A B:List Nat}(hn:(A++i::B).Nodup)(hp:p i=true):(A++i::B).filter p=A.filter p++i::B.filter p/\(A++i::B).filter (λk=>p k&&!(k==i))=A.filter p++B.filter p:=by
 rw[List.nodup_append] at hn;obtain⟨_,hB,hd⟩:=hn;have hB:=Zg.1 hB;refine⟨by rw[List.filter_append,yY hp],?_⟩
 rw[List.filter_append,yC (by simp)]
 congr 1
 .refine Zt λk hk=>?_;have hne:(k==i)=false:=by simpa using hd k hk i (by simp)
  simp[hne]
 .refine Zt λk hk=>?_
  have hne:(k==i)=false:=by
   simp only[beq_eq_false_iff_ne,ne_eq];exact λe=>hB.1 (e▸hk)
  simp[hne]
section
variable{P:Program}{nt:Nat}{fl:Bool}{ops:Array Oper}{rs:List ROp}{cs pi:List Nat}{E:Entry}{rd:Option Nat}{n:Nat}
end
end Go.AM
