/-
  Texts of this bj joined (wip/gen/bundle.py),those declarations only that are needed:AmW AmF AmG. By an AI agent.
-/
import Derived.Test.YtcjfkbdbcgmomaaGreatDoorBam
set_option linter.unusedSimpArgs false
set_option linter.unusedVariables false
namespace Go.AM
open Go.CK Go.RowKit
inductive RC where
 |skip
 |reg (dr:Bool) (aE:List Nat) (ops:List ROp)
 |solo (p:Nat) (aE:List Nat) (ops:List ROp)
 |mult (aE:List Nat) (ops:List (Nat×ROp))
 |both (aE:List Nat) (qa q1 q2:List (Nat×ROp))
 |seq (a b:RC)
 |cond (c:Opd) (a b:RC)
 |block (id:Nat) (c:RC)
 |loop (c:RC)
 |range (g:Opd) (ps:List Nat) (a b:RC)
 |exit (id:Nat)
 |ret
deriving Inhabited
def mem(k:Nat):List Nat->Bool
 |[]=>false
 |x::xs=>match Nat.beq x k with
  |true=>true
  |false=>mem k xs
def St.aE(s:St)(ks:List Nat):St:=⟨dU (λk=>mem k ks) s.env,s.bs,s.lo⟩
theorem aG.aE(s:St)(ks:List Nat):aG s (s.aE ks):=λE G a w hs=>by
 have hat:∀p x,(s.aE ks).at p=some x->s.at p=some x:=λp x hp=>by
  cases p with
  |sl t=>exact(mo _ _ _ _ hp).1
  |bx b j=>exact hp
 exact⟨G,hs.fr,hs.ok,hs.nt,λp x hp=>hs.val p x (hat p x hp),λb j x hp=>hs.one b j x (hat _ x hp),hs.box,hs.bmem,hs.inj,λp z l hp=>hs.own p z l (hat p _ hp),hs.clinj,hs.clbox,hs.cllt,hs.lo,hs.len,hs.sig,hs.sp⟩
def Eg(a b:St->(AX->St->Prop)->Prop)(x:LB)(env:List (Nat×AV))(n:Nat)(ps:List Nat)(y:List AV)(bs:List Box)(R:AV->List Box->Prop):Prop:=
 a ⟨kO env ps y,bs,bs.length⟩ λe s1=>match e with
  |.normal=>ai s1.bs n=some x/\b ⟨s1.env,s1.bs.set n .dead,s1.lo⟩ λe s2=>∃s3,aG s2 s3/\rU x n R e s3
  |_=>False
def RC.wp(P:Program):RC->St->(AX->St->Prop)->Prop
 |.skip,s,Q=>Q .normal s
 |.reg dr aE ops,s,Q=>wD P dr ops s λs'=>Q .normal (s'.aE aE)
 |.solo p aE ops,s,Q=>rM P p 0 ops s λs'=>Q .normal (s'.aE aE)
 |.mult aE ops,s,Q=>gQ P (gU ops) ops s λs'=>Q .normal (s'.aE aE)
 |.both aE qa q1 q2,s,Q=>gQ P (me qa q1 q2) qa s λsA=>gQ P (me qa q1 q2) q1 sA (λs'=>Q .normal (s'.aE aE))/\gQ P (me qa q1 q2) q2 sA (λs'=>Q .normal (s'.aE aE))
 |.seq a b,s,Q=>a.wp P s (nh (λs'=>b.wp P s' Q) Q)
 |.cond c a b,s,Q=>match s.ev c with
  |.bool t=>(t=true->a.wp P s Q)/\(t=false->b.wp P s Q)
  |_=>False
 |.block id c,s,Q=>c.wp P s (tF id Q)
 |.loop c,s,Q=>∃(I:Nat->St->Prop) (m:Nat) (s0:St),aG s s0/\I m s0/\∀m s,I m s->c.wp P s (nh (λs'=>∃m' s'',m'<m/\aG s' s''/\I m' s'') Q)
 |.range g ps a b,s,Q=>∃s0,aG s s0/\match s0.ev g with
  |.fn (.func gf) [] lb=>dQ P gf=true/\∀x:LB,(∀y bs R,ai bs s0.bs.length=some x->y.length=ps.length->Eg (λs Q=>a.wp P s Q) (λs Q=>b.wp P s Q) x (fc s0.env) s0.bs.length ps y bs R->mK P s0.bs.length y bs R)->
    ∃QQ,Sem P gf ((.yl s0.bs.length::lb).map AV.norm) (s0.bs++[.loop x]) QQ/\∀r bs',QQ r bs'->Fv x s0 bs' Q
  |_=>False
 |.exit id,s,Q=>Q (.exit id) s
 |.ret,s,Q=>Q .ret s
def bV(id:Nat):List (Nat×List Nat)->List Nat
 |[]=>[]
 |(i,l)::r=>match Nat.beq i id with
  |true=>l
  |false=>bV id r
def D4(id:Nat):List (Nat×Nat)->Option Nat
 |[]=>none
 |(i,p)::r=>match Nat.beq i id with
  |true=>some p
  |false=>D4 id r
def Hj(o:Oper):List Nat:=match o.op with
 |.call {callee:=.builtin .append,.. }|.call {callee:=.value _,.. }|.makeSlice .. =>o.dst.toList
 |_=>[]
def Hi(o:Oper):List Nat:=match o.op with
 |.call {callee:=.builtin .append,args:=⟨.tmp t::_⟩,.. }=>[t]
 |_=>[]
def Cc(ops:Array Oper)(d t:Nat):Bool:=ops.toList.any (λo=>(Hj o).contains t)||ops.toList.any λo=>(Hi o).contains d
def hk(keeps:List (Nat×List Nat))(tk:Nat->Nat->Bool)(d t:Nat):Bool:=match Nat.beq d t with
 |true=>(bV 1000000 keeps).contains d
 |false=>tk d t
def Ii:RC:=.cond (.c .top) .skip .skip
def ep(P:Program)(nt:Nat)(keeps:List (Nat×List Nat))(solo:List (Nat×Nat))(fl:Bool):Code->Option RC
  |.skip=>some .skip
  |.label _=>some .skip
  |.region id ops dr=>match (bV 1000001 keeps).contains id with
   |true=>some Ii
   |false=>match dr with
    |false=>match oW P nt (hk keeps λ_ _=>false) ops ops.toList with
      |some rs=>some (.reg false (bV id keeps) rs)
      |none=>none
    |true=>match bV (4000000+id) keeps with
     |x::y::A=>match oW P nt (hk keeps (Cc ops)) ops ops.toList with
      |some rs=>match xd ops rs (bV (3000000+id) keeps) A x y (bV (5000000+id) keeps) (bV (6000000+id) keeps),cq rs (bV (3000000+id) keeps) A,cq rs (bV (3000000+id) keeps) (x::bV (5000000+id) keeps),cq rs (bV (3000000+id) keeps) (y::bV (6000000+id) keeps) with
        |true,some qa,some q1,some q2=>some (.both (bV id keeps) qa q1 q2)
        |_,_,_,_=>none
      |none=>none
     |_=>match bV (2000000+id) keeps with
     |i0::pi=>match oW P nt (hk keeps (Cc ops)) ops ops.toList with
      |some rs=>match vi ops rs (i0::pi) (bV (3000000+id) keeps),cq rs (bV (3000000+id) keeps) (i0::pi) with
        |true,some q=>some (.mult (bV id keeps) q)
        |_,_=>none
      |none=>none
     |[]=>
      match D4 id solo with
      |some p=>match oW P nt (hk keeps (Cc ops)) ops ops.toList with
       |some rs=>if pJ ops rs p then some (.solo p (bV id keeps) rs) else none
       |none=>none
      |none=>match oW P nt (hk keeps λ_ _=>true) ops ops.toList with
       |some rs=>if oP ops rs then some (.reg true (bV id keeps) rs) else match oW P nt (hk keeps (Cc ops)) ops ops.toList with
         |some rs=>if oP ops rs then some (.reg true (bV id keeps) rs) else none
         |none=>none
       |none=>none
  |.seq a b=>match ep P nt keeps solo fl a,ep P nt keeps solo fl b with
    |some a,some b=>some (.seq a b)
    |_,_=>none
  |.cond c a b=>match opd c,ep P nt keeps solo fl a,ep P nt keeps solo fl b with
    |some c,some a,some b=>some (.cond c a b)
    |_,_,_=>none
  |.block id c=>match ep P nt keeps solo fl c with
    |some c=>some (.block id c)
    |none=>none
  |.loop c=>match ep P nt keeps solo fl c with
    |some c=>some (.loop c)
    |none=>none
  |.rangeFunc g ps a b=>match fl with
    |true=>match opd g,ep P nt keeps solo false a,ep P nt keeps solo false b with
      |some g,some a,some b=>if ps.toList.all (λp=>Nat.blt p nt) then some (.range g ps.toList a b) else none
      |_,_,_=>none
    |false=>none
  |.scope c=>ep P nt keeps solo fl c
  |.exit id=>some (.exit id)
  |.ret=>some .ret
  |_=>none
theorem nA{K K':St->Prop}{Q:AX->St->Prop}(h:∀s,K s->K' s):∀x s,nh K Q x s->nh K' Q x s:=λx s hx=>by
 cases x with
 |normal=>exact h s hx
 |exit id=>exact hx
 |ret=>exact hx
theorem Aa{P:Program}{nt:Nat}{keeps:List (Nat×List Nat)}{solo:List (Nat×Nat)}(hm:P.follows .mixedOrders=true):∀{c:Code} {fl:Bool} {r:RC},ep P nt keeps solo fl c=some r->∀{s:St} {Q:AX->St->Prop},r.wp P s Q->WP P nt fl c s Q:=by
 intro c
 induction c with
 |skip=>intro fl r hc s Q h;cases hc;exact WP.skip h
 |label l=>intro fl r hc s Q h;cases hc;exact WP.label h
 |region id ops dr=>
  intro fl r hc s Q h;simp only[ep] at hc;split at hc
  .cases hc;exact h.elim
  cases dr with
  |false=>
   simp only at hc;split at hc
   .rename_i rs hrs;cases hc;exact WP.qb (WP.region hrs (fZ (λs' hs'=>⟨_,aG.aE s' _,hs'⟩) h))
   .cases hc
  |true=>
   simp only at hc;split at hc
   .split at hc
    .rename_i rs hrs;split at hc
     .rename_i qa q1 q2 hi ha h1 h2;cases hc;exact WP.qb (WP.xN hm hrs hi ha h1 h2 (bd (λsA hs'=>⟨bd (λs' hs'=>⟨_,aG.aE s' _,hs'⟩) hs'.1,bd (λs' hs'=>⟨_,aG.aE s' _,hs'⟩) hs'.2⟩) h))
     .cases hc
    .cases hc
   split at hc
   .split at hc
    .rename_i rs hrs;split at hc
     .rename_i q hi hq;cases hc;exact WP.qb (WP.xM hm hrs hi hq (bd (λs' hs'=>⟨_,aG.aE s' _,hs'⟩) h))
     .cases hc
    .cases hc
   split at hc
   .split at hc
    .rename_i rs hrs;split at hc
     .rename_i hi;cases hc;exact WP.qb (WP.xL hm hrs hi (kF (λs' hs'=>⟨_,aG.aE s' _,hs'⟩) h))
     .cases hc
    .cases hc
   .split at hc
    .rename_i rs hrs;split at hc
     .rename_i hi;cases hc;exact WP.qb (WP.rV hm hrs hi (fZ (λs' hs'=>⟨_,aG.aE s' _,hs'⟩) h))
     .split at hc
      .rename_i rs2 hrs2;split at hc
       .rename_i hi;cases hc;exact WP.qb (WP.rV hm hrs2 hi (fZ (λs' hs'=>⟨_,aG.aE s' _,hs'⟩) h))
       .cases hc
      .cases hc
    .cases hc
 |seq a b iha ihb=>
  intro fl r hc s Q h;simp only[ep] at hc;split at hc
  .rename_i ra rb ha hb;cases hc;exact WP.seq ((iha ha h).mono λx s' q=>nA (λs2 h2=>ihb hb h2) x s' q)
  .cases hc
 |cond c a b iha ihb=>
  intro fl r hc s Q h;simp only[ep] at hc;split at hc
  .rename_i rc ra rb hcc ha hb;cases hc;refine WP.cond hcc ?_;simp only[RC.wp] at h;split at h
   .rename_i t ht;rw[ht];exact⟨λe=>iha ha (h.1 e),λe=>ihb hb (h.2 e)⟩
   .exact h.elim
  .cases hc
 |block id c ih=>
  intro fl r hc s Q h;simp only[ep] at hc;split at hc
  .rename_i rc hcc;cases hc;exact WP.block (ih hcc h)
  .cases hc
 |loop c ih=>
  intro fl r hc s Q h;simp only[ep] at hc;split at hc
  .rename_i rc hcc;cases hc;obtain⟨I,m,s0,hw0,h0,hr⟩:=h;refine WP.loop (λm s=>∃s',aG s s'/\I m s') ⟨s0,hw0,h0⟩ λm s ⟨s',hw,hI⟩=>?_;refine WP.HT hw ((ih hcc (hr m s' hI)).mono λx s2 q=>nA (λs3 ⟨m',s'',h1,h2,h3⟩=>⟨m',h1,s'',h2,h3⟩) x s2 q)
  .cases hc
 |exit id=>intro fl r hc s Q h;cases hc;exact WP.exit h
 |ret=>intro fl r hc s Q h;cases hc;exact WP.ret h
 |rangeFunc g ps a b iha ihb=>
  intro fl r hc s Q h;simp only[ep] at hc;split at hc
  .split at hc
   .rename_i rg ra rb hg ha hb;split at hc
    .rename_i hps;cases hc;obtain⟨s0,hw,h⟩:=h;refine WP.HT hw ?_;split at h
     .rename_i gf lb hgv;obtain⟨hbd,h⟩:=h;refine WP.range hg hgv hbd (λp hp=>?_) λx hx=>h x λy bs R h1 h2 h3=>hx y bs R h1 (by simpa using h2) ?_
      .have:=zT.1 hps p hp;simpa using this
      .refine WP.mono (iha ha h3) λe s1 hq=>?_
       cases e with
       |normal=>exact⟨hq.1,WP.qb (ihb hb hq.2)⟩
       |ret=>exact hq
       |exit id=>exact hq
     .exact h.elim
    .cases hc
   .cases hc
  .cases hc
 |scope c ih=>intro fl r hc s Q h;exact WP.scope (ih hc h)
 |goto=>intro _ r hc;cases hc
 |refuse=>intro _ r hc;cases hc
theorem RC.wp_mono{P:Program}:∀{c:RC} {s:St} {Q Q':AX->St->Prop},(∀x s,Q x s->Q' x s)->c.wp P s Q->c.wp P s Q'
 |.skip,_,_,_,hq,h=>hq _ _ h
 |.reg _ _ _,_,_,_,hq,h=>fZ (λ_ hx=>hq _ _ hx) h
 |.solo _ _ _,_,_,_,hq,h=>kF (λ_ hx=>hq _ _ hx) h
 |.mult _ _,_,_,_,hq,h=>bd (λ_ hx=>hq _ _ hx) h
 |.both _ _ _ _,_,_,_,hq,h=>bd (λ_ hx=>⟨bd (λ_ hx=>hq _ _ hx) hx.1,bd (λ_ hx=>hq _ _ hx) hx.2⟩) h
 |.seq a b,s,Q,Q',hq,h=>by
  refine RC.wp_mono (c:=a) (λx s' hx=>?_) h
  cases x with
  |normal=>exact RC.wp_mono (c:=b) hq hx
  |exit id=>exact hq _ _ hx
  |ret=>exact hq _ _ hx
 |.cond c a b,s,Q,Q',hq,h=>by
  simp only[RC.wp] at h|-;split at h
  .exact ⟨λe=>RC.wp_mono (c:=a) hq (h.1 e),λe=>RC.wp_mono (c:=b) hq (h.2 e)⟩
  .exact h
 |.block id c,s,Q,Q',hq,h=>by
  refine RC.wp_mono (c:=c) (λx s' hx=>?_) h
  cases x with
  |normal=>exact hq _ _ hx
  |ret=>exact hq _ _ hx
  |exit id'=>
   simp only[tF] at hx|-;split at hx
   .exact hq _ _ hx
   .exact hq _ _ hx
 |.loop c,s,Q,Q',hq,h=>by
  obtain⟨I,m,s0,h1,h2,h3⟩:=h;refine⟨I,m,s0,h1,h2,λm s hI=>RC.wp_mono (c:=c) (λx s' hx=>?_) (h3 m s hI)⟩
  cases x with
  |normal=>exact hx
  |exit id=>exact hq _ _ hx
  |ret=>exact hq _ _ hx
 |.range g ps a b,s,Q,Q',hq,h=>by
  obtain⟨s0,hw,h⟩:=h;refine⟨s0,hw,?_⟩;split at h
  .obtain ⟨h1,h2⟩:=h;refine⟨h1,λx hx=>?_⟩;obtain⟨QQ,h3,h4⟩:=h2 x hx;refine⟨QQ,h3,λr bs' hr=>?_⟩;rcases h4 r bs' hr with ⟨k1,k2⟩|⟨k1,k2⟩|⟨id,k1,k2⟩
   .exact .inl ⟨k1,hq _ _ k2⟩
   .exact .inr (.inl ⟨k1,hq _ _ k2⟩)
   .exact .inr (.inr ⟨id,k1,hq _ _ k2⟩)
  .exact h
 |.exit _,_,_,_,hq,h=>hq _ _ h
 |.ret,_,_,_,hq,h=>hq _ _ h
theorem aG.bj(s:St)(t z:Nat)(l:List AV)(h:au s.env t=some (.sl .full l))(hz:∀y∈l,y.cells.length=z):aG s (s.put (some t) (.sl (.own z) l)):=λE G a w hs=>
 ⟨G,hs.bj (p:=.sl t) (by simp only[St.at];exact h) hz⟩
theorem aG.norm(s:St)(t:Nat)(x:AV)(h:au s.env t=some x):aG s (s.put (some t) x.norm):=λE G a w hs=>by
 have hv:=hs.val (.sl t) x (by simp only[St.at];exact h)
 exact⟨G,hs.upd (q:=.sl t) (by simp only[St.at];exact h) (by rw[<-BK];exact hv.norm)⟩
def eo(n:Nat):List (Nat×AV)->Bool
 |[]=>true
 |(_,x)::r=>x.lt n&&eo n r
def al(n:Nat):List Box->Bool
 |[]=>true
 |.cells cs::r=>cs.all (λx=>x.lt n)&&al n r
 |.dead::r=>al n r
 |.loop _::r=>al n r
 |.row cs::r=>cs.all (λx=>x.lt n)&&al n r
 |.mp _::r=>al n r
 |.mq _ _::r=>al n r
 |.tab _::r=>al n r
theorem pQ{n:Nat}:∀{e:List (Nat×AV)} {t:Nat} {x:AV},eo n e=true->au e t=some x->x.lt n=true
 |[],_,_,_,h=>by cases h
 |(k,y)::r,t,x,h,hg=>by
  simp only[eo,zD] at h;simp only[au] at hg;split at hg
  .cases hg;exact h.1
  .exact pQ h.2 hg
theorem bI{n:Nat}:∀{bs:List Box} {b j:Nat} {cs:List AV} {x:AV},al n bs=true->aa bs b=some cs->cs[j]? =some x->x.lt n=true
 |[],_,_,_,_,_,h,_=>by simp[aa] at h
 |.cells ds::r,0,j,cs,x,h,hb,hj=>by
  simp only[al,zD,zT] at h;simp only[aa,Zi,Box.cs?,zO] at hb;subst hb
  exact h.1 x (zE hj)
 |.row ds::r,0,j,cs,x,h,hb,hj=>by
  simp only[al,zD,zT] at h;simp only[aa,Zi,i6] at hb;split at hb
  .cases hb
  .cases hb
   exact h.1 x (zE hj)
 |.dead::r,0,j,cs,x,h,hb,hj=>by simp[aa,Box.cs?] at hb
 |.loop _::r,0,j,cs,x,h,hb,hj=>by simp[aa,Box.cs?] at hb
 |.mp _::r,0,j,cs,x,h,hb,hj=>by simp[aa,Box.cs?] at hb
 |.mq _ _::r,0,j,cs,x,h,hb,hj=>by simp[aa,Box.cs?] at hb
 |.tab _::r,0,j,cs,x,h,hb,hj=>by simp[aa,Box.cs?] at hb
 |.cells ds::r,b+1,j,cs,x,h,hb,hj=>by
  simp only[al,zD] at h
  exact bI (b:=b) h.2 (by simpa[aa] using hb) hj
 |.row ds::r,b+1,j,cs,x,h,hb,hj=>by
  simp only[al,zD] at h
  exact bI (b:=b) h.2 (by simpa[aa] using hb) hj
 |.dead::r,b+1,j,cs,x,h,hb,hj=>by
  exact bI (b:=b) (by simpa[al] using h) (by simpa[aa] using hb) hj
 |.loop _::r,b+1,j,cs,x,h,hb,hj=>by
  exact bI (b:=b) (by simpa[al] using h) (by simpa[aa] using hb) hj
 |.mp _::r,b+1,j,cs,x,h,hb,hj=>by
  exact bI (b:=b) (by simpa[al] using h) (by simpa[aa] using hb) hj
 |.mq _ _::r,b+1,j,cs,x,h,hb,hj=>by
  exact bI (b:=b) (by simpa[al] using h) (by simpa[aa] using hb) hj
 |.tab _::r,b+1,j,cs,x,h,hb,hj=>by
  exact bI (b:=b) (by simpa[al] using h) (by simpa[aa] using hb) hj
theorem aG.cut(s:St)(n:Nat)(hlo:s.lo<=n)(hn:n<=s.bs.length)(h1:eo n s.env=true)(h2:al n (s.bs.take n)=true):aG s ⟨s.env,s.bs.take n,s.lo⟩:=λE G a w hs=>by
 have hbox:∀b cs,aa (s.bs.take n) b=some cs->aa s.bs b=some cs:=λb cs hb=>by
  simp only[aa,Za] at hb|-;split at hb
  .rename_i q hq;split at hq
   .rw [hq];exact hb
   .cases hq
  .cases hb
 refine⟨G,hs.forget (n:=n) (by simp;omega) rfl hlo (λp x hp=>?_) hbox (λb x hb=>?_)⟩
 rotate_left
 .simp only[ai,Za] at hb|-;split at hb
  .rename_i q hq;split at hq
   .rw [hq];exact hb
   .cases hq
  .cases hb
 cases p with
 |sl t=>exact⟨hp,pQ h1 hp⟩
 |bx b j=>
  simp only[St.at] at hp|-
  cases hb:aa (s.bs.take n) b with
  |none=>rw[hb] at hp;cases hp
  |some cs=>
   rw[hb] at hp;rw[hbox b cs hb];exact⟨hp,bI h2 hb hp⟩
inductive ej where
 |slot (t:Nat)
 |cell (t:Nat) (agg:Bool) (n:Nat)
deriving Inhabited
def lM(P:Program):List ResultVar->Option (List ej)
 |[]=>some []
 |.tmp t::r=>match lM P r with
  |some rs=>some (.slot t::rs)
  |none=>none
 |.cell t ty::r=>match lM P r,mI P ty,dc P ty with
  |some rs,some agg,some n=>some (.cell t agg n::rs)
  |_,_,_=>none
def A0(s:St):ej->(AV->Prop)->Prop
 |.slot t,K=>K (s.get t).aF
 |.cell t agg n,K=>bR agg n (s.rd (s.ev (.t t))) K
def xJ(s:St):List ej->(List AV->Prop)->Prop
 |[],K=>K []
 |r::rs,K=>A0 s r λx=>xJ s rs λxs=>K (x::xs)
def qC(s:St)(rs:List ej)(K:AV->List Box->Prop):Prop:=
 match rs with
 |[.slot t]=>K (s.get t) s.bs
 |[r]=>A0 s r λx=>K x s.bs
 |rs=>xJ s rs λxs=>K (.tup xs) s.bs
def H3(rs:List ej)(Q:AV->List Box->Prop):AX->St->Prop
 |.normal,s=>qC s rs Q
 |.ret,s=>qC s rs Q
 |_,_=>False
def params:Nat->List AV->List (Nat×AV)
 |_,[]=>[]
 |k,x::xs=>(k,x)::params (k+1) xs
theorem sk:∀(ab:List AV) (k t:Nat),au (params k ab) t=if k<=t then ab[t-k]? else none
 |[],k,t=>by simp[params,au]
 |x::xs,k,t=>by
  simp only[params,au]
  by_cases h:k=t
  .subst h;rw[kB];simp
  .rw [cc h];simp only;rw[sk xs (k+1) t]
   by_cases h2:k<=t
   .rw [if_pos (by omega),if_pos h2,show t-k=(t-(k+1))+1 by omega];simp
   .rw [if_neg (by omega),if_neg h2]
section
variable{P:Program}{E:Entry}{G:Gh}{s:St}{a:Act}{w:World}
theorem RS.enter{bs:List Box}{lo:Nat}(h:RS E G ⟨[],bs,lo⟩ a w){args:List Value}{ab:List AV}(hl:args.length=ab.length)(hv:∀j (h:j<ab.length) v,args[j]? =some v->RV G.M G.σ bs.length ab[j] v){nt:Nat}(hnt:ab.length<=nt):
  RS (dY G bs w nt) {G with cl:=mT G.cl} ⟨params 0 ab,bs,bs.length⟩ {tmps:=args.toArray++Array.replicate (nt-args.toArray.size) undef,defers:=[]} w:=by
 have h0:=h.xP (dY G bs w nt) {tmps:=args.toArray++Array.replicate (nt-args.toArray.size) undef,defers:=[]} (Fr.refl _ _ _) (by simp[dY];omega) bs.length rfl (zG _) (λ_ _=>rfl) (λB hB=>.inl hB) rfl
 have hat:∀p x,(⟨params 0 ab,bs,bs.length⟩:St).at p=some x->(∃t,p=.sl t/\ab[t]? =some x)\/(∃b j,p=.bx b j/\(⟨[],bs,bs.length⟩:St).at (.bx b j)=some x):=λp x hp=>by
  cases p with
  |sl t=>
   simp only[St.at,sk] at hp;rw[if_pos (zJ _),Nat.sub_zero] at hp
   exact .inl ⟨t,rfl,hp⟩
  |bx b j=>exact .inr ⟨b,j,rfl,hp⟩
 have hslot:∀t x,ab[t]? =some x->RV G.M G.σ bs.length x ((args.toArray++Array.replicate (nt-args.toArray.size) undef).getD t undef):=λt x hx=>by
  have ht:t<ab.length:=by
   rcases zt t ab.length with h1|h1
   .exact h1
   .rw [zS h1] at hx;cases hx
  rw[zA ht] at hx;cases hx;have hta:t<args.length:=by omega
  refine hv t ht _ ?_;rw[zA hta]
  have:(args.toArray++Array.replicate (nt-args.toArray.size) undef)[t]? =some args[t]:=by
   rw[Array.getElem?_append_left (by simpa using hta)]
   simp[hta]
  simp only[zU,this,ZR]
 refine⟨h0.fr,h0.ok,h0.nt,λp x hp=>?_,λb j x hp=>?_,h0.box,h0.bmem,h0.inj,λp z l hp=>?_,h0.clinj,h0.clbox,h0.cllt,h0.lo,h0.len,h0.sig,h0.sp⟩
 .rcases hat p x hp with ⟨t,rfl,hx⟩|⟨b,j,rfl,hx⟩
  .have:=hslot t x hx;rw[this.b8];exact this
  .exact h0.val _ _ hx
 .rcases hat _ x hp with ⟨t,e,_⟩|⟨b',j',e,hx⟩
  .cases e
  .cases e;exact h0.one _ _ _ hx
 .rcases hat p _ hp with ⟨t,rfl,hx⟩|⟨b,j,rfl,hx⟩
  .have:=(hslot t _ hx).b8;simp[AV.aF] at this
  .exact h0.own _ _ _ hx
def i7(a:Act)(rv:ResultVar):Go.Sem Value:=match rv with
 |.tmp t=>Pure.pure (a.tmps.getD t undef)
 |.cell q ty=>do loadVar ty (<-asAddr (a.tmps.getD q undef))
theorem xK(hs:RS E G s a w){rv:ResultVar}{r:ej}(hr:lM P [rv]=some [r]){K:AV->Prop}(h:A0 s r K):
  ∃x v,K x/\RV G.M G.σ s.bs.length x v/\(i7 a rv).run P w=.ok v w:=by
 cases rv with
 |tmp t=>
  simp only[lM,zO,Zt,and_true] at hr;subst hr
  exact⟨_,_,h,hs.Hv t,rfl⟩
 |cell q ty=>
  simp only[lM] at hr;split at hr
  .rename_i rs agg n hrs ha hn;simp only[zO,Zt] at hr;obtain⟨rfl,rfl⟩:=hr;simp only[A0] at h;unfold bR at h;split at h
   .rename_i cs hcs;have hq:=hs.ev (o:=.tmp q) (r:=.t q) rfl;split at h
    .obtain ⟨h1,h2⟩:=af.1 h;have hle:=zr h1;obtain⟨B,off,hv,hc⟩:=hs.rd hq hcs;simp only[Act.eval] at hv;have hrun:=fz P w B off n (λj hj=>let ⟨u,h,_⟩:=hc j (by omega);⟨u,h⟩)
     refine⟨_,.agg (b9 w B off n).toArray,h2,?_,?_⟩
     .refine .agg _ _ (by simp[b9];omega) (λu hu=>?_) (λj hj u hu=>?_)
      .simp only[b9,zk,zd] at hu;obtain⟨j,hj,rfl⟩:=hu;obtain⟨u,h1,h2,_⟩:=hc j (by omega)
       rw[h1];exact h2
      .simp only[zn] at hj;obtain⟨u',h1,h2,h3⟩:=hc j (by omega)
       simp[b9,show j<n by omega,h1] at hu
       subst hu;rw[Zl];exact h3
     .simp only[i7];simp[hv,asAddr,loadVar,c9 ha,aN hn,hrun]
    .split at h
     .rename_i c rest;obtain⟨B,off,hv,hc⟩:=hs.rd hq hcs;simp only[Act.eval] at hv;obtain⟨u,h1,_,h3⟩:=hc 0 (by simp)
      rw[Ze] at h1;exact⟨_,u,h,h3,by simp only[i7];simp[hv,asAddr,loadVar,c9 ha,h1]⟩
     .exact h.elim
   .exact h.elim
  .cases hr
theorem gb{rv:ResultVar}{rvs:List ResultVar}{rs:List ej}(h:lM P (rv::rvs)=some rs):∃r rs',rs=r::rs'/\lM P [rv]=some [r]/\lM P rvs=some rs':=by
 cases rv with
 |tmp t=>
  simp only[lM] at h|-;split at h
  .rename_i rs' hrs;cases h;exact⟨_,_,rfl,rfl,hrs⟩
  .cases h
 |cell q ty=>
  simp only[lM] at h|-;split at h
  .rename_i rs' agg n hrs ha hn;cases h;exact⟨_,_,rfl,by simp[ha,hn],hrs⟩
  .cases h
theorem uN(hs:RS E G s a w):∀{rvs:List ResultVar} {rs:List ej},lM P rvs=some rs->∀{K:List AV->Prop},xJ s rs K->
  ∃xs vs,K xs/\vs.length=xs.length/\(∀j (h:j<xs.length) v,vs[j]? =some v->RV G.M G.σ s.bs.length xs[j] v)/\(rvs.mapM (i7 a)).run P w=.ok vs w/\rvs.length=xs.length
 |[],rs,hr,K,h=>by
  cases hr
  exact⟨[],[],h,rfl,(λj h=>by cases h),by simp,rfl⟩
 |rv::rvs,rs,hr,K,h=>by
  obtain⟨r,rs',rfl,h1,h2⟩:=gb hr;obtain⟨x,v,h3,h4,h5⟩:=xK (P:=P) hs h1 h;obtain⟨xs,vs,h6,h7,h8,h9,h10⟩:=uN hs h2 h3;refine⟨x::xs,v::vs,h6,by simp[h7],λj hj u hu=>?_,?_,by simp[h10]⟩
  .cases j with
   |zero=>simp at hu;subst hu;exact h4
   |succ j=>exact h8 j (by simpa using hj) u (by simpa using hu)
  .rw [List.mapM_cons];have h5':(i7 a rv).run P w=.ok v w:=h5;simp only[yL,h5',yK,h9,yM]
theorem RS.leave(hs:RS E G s a w)(hE:E.nb=s.lo){fn:Func}{rs:List ej}(hr:lM P fn.results.toList=some rs){Q:AV->List Box->Prop}(h:qC s rs Q):
  ∃v r bs' G',(results fn a.tmps).run P w=.ok v w/\Q r bs'/\RS {E with nt:=1,dd:=[]} G' ⟨[(0,r)],bs',s.lo⟩ ⟨#[v],[]⟩ w:=by
 have hre:∀u,RS {E with nt:=1,dd:=[]} {G with cl:=mT G.cl} ⟨[],s.bs,s.lo⟩ ⟨#[u],[]⟩ w:=λu=>
  hs.xP {E with nt:=1,dd:=[]} _ hs.fr rfl s.lo hE.symm hs.len hs.sig (λB hB=>(p9 hs hB).1) rfl
 have plain:∀x v,RV G.M G.σ s.bs.length x v->RS {E with nt:=1,dd:=[]} {G with cl:=mT G.cl} ⟨[(0,x)],s.bs,s.lo⟩ ⟨#[v],[]⟩ w:=λx v hv=>(hre undef).put (k:=0) Zs hv
 have hres:(results fn a.tmps).run P w=((fn.results.toList.mapM (i7 a)).run P w).andThen λvs w'=>.ok (if h:vs.length=1 then vs[0] else .tuple vs.toArray) w':=by
  have he:results fn a.tmps=(do let vs<-fn.results.mapM (i7 a);Pure.pure (if h:vs.size=1 then vs[0] else .tuple vs)):=by
   unfold results;congr 2
  rw[he,Array.mapM_eq_mapM_toList];simp only[yL,Sem.run_map];generalize (fn.results.toList.mapM (i7 a)).run P w=q
  cases q with
  |ok vs w'=>simp
  |halt x w'=>rfl
 unfold qC at h;split at h
 .rename_i t
  match hfr:fn.results.toList,hr with
  |[rv],hr=>
   cases rv with
   |cell q ty=>
    simp only[lM] at hr;split at hr
    .simp only[zO,Zt] at hr;cases hr.1
    .cases hr
   |tmp t'=>
    simp only[lM,zO,Zt,ej.slot.injEq,and_true] at hr;subst hr
    have hrun:(results fn a.tmps).run P w=.ok (a.tmps.getD t' undef) w:=by
     rw[hres,hfr];simp[i7,List.mapM_cons]
    refine⟨a.tmps.getD t' undef,s.get t',s.bs,?_⟩
    by_cases hown:∃z l,s.get t'=.sl (.own z) l
    .obtain ⟨z,l,hg⟩:=hown;have hat:=wU hg;obtain⟨ad,k,hval,hz,hcl⟩:=hs.own _ _ _ hat;have hv:=hs.val _ _ hat;simp only[AV.aF] at hv;obtain⟨ad2,k2,B,off,hsv⟩:=hv.sv hz;have:=hsv.eq;rw[hval] at this;cases this
     have hroom:Room {E with nt:=1,dd:=[]} {G with cl:=mT G.cl} ⟨[],s.bs,s.lo⟩ w ad z l.length k:=by
      rcases hcl with hcl|⟨B1,hc1,hc2,hrow⟩
      .exact .inl hcl
      .refine .inr ⟨B1,.sl 0,hc2,⟨⟨hrow.lt,hrow.cells,hrow.free,hrow.mine⟩,λq hq=>?_,λb cs hb=>hs.clbox _ B1 hc1 b cs hb,(hs.cllt _ B1 hc1).1,λz' l' e=>by simp[St.at,au] at e,λb j e=>by cases e⟩⟩
       cases q with
       |sl t=>cases hq
       |bx b j=>have:=hs.clinj _ _ B1 hc1 hq;cases this
     obtain⟨G',h3⟩:=(hre undef).A4 (d:=0) Zs hsv hroom;refine⟨G',hrun,h,?_⟩;rw[hg];exact h3
    .refine ⟨_,hrun,h,plain _ _ ?_⟩;have:=hs.Hv t'
     have hd:(s.get t').aF=s.get t':=by
      generalize hg:s.get t'=g at*
      cases g with
      |sl c l=>cases c with
       |own z=>exact absurd ⟨z,l,rfl⟩ hown
       |_=>rfl
      |_=>rfl
     rwa [hd] at this
  |[],hr=>simp[lM] at hr
  |rv::rv2::rvs,hr=>
   obtain⟨r,rs',e,_,h2⟩:=gb hr;obtain⟨r2,rs2,e2,_,_⟩:=gb h2;rw[e2] at e;cases e
 .rename_i r hnot
  match hfr:fn.results.toList,hr with
  |[rv],hr=>
   obtain⟨x,v,h3,h4,h5⟩:=xK (P:=P) hs hr h;refine⟨v,x,s.bs,_,?_,h3,plain x v h4⟩;rw[hres,hfr];have h5':(i7 a rv).run P w=.ok v w:=h5
   simp[List.mapM_cons,h5']
  |[],hr=>simp[lM] at hr
  |rv::rv2::rvs,hr=>
   obtain⟨r,rs',e,_,h2⟩:=gb hr;obtain⟨r2,rs2,e2,_,_⟩:=gb h2;rw[e2] at e;cases e
 .rename_i hn1 hn2;obtain⟨xs,vs,h3,h4,h5,h6,h7⟩:=uN (P:=P) hs hr h
  have hlen:vs.length≠1:=λe=>by
   match hfr:fn.results.toList,hr with
   |[],hr=>rw[hfr] at h7;simp at h7;omega
   |[rv],hr=>
    obtain⟨r,rs',e,_,h2⟩:=gb hr;cases h2
    exact hn2 r e
   |rv::rv2::rvs,hr=>rw[hfr] at h7;simp at h7;omega
  refine⟨.tuple vs.toArray,.tup xs,s.bs,_,?_,h3,plain _ _ (.tup xs vs h4 h5)⟩;rw[hres,h6];simp[hlen]
end
theorem Sem.of{P:Program}{f:FuncId}{fn:Func}{c:Code}{rc:RC}{keeps:List (Nat×List Nat)}{solo:List (Nat×Nat)}{rs:List ej}(hf:P.funcs[f]? =some fn)(hb:fn.body=some c)(hm:P.follows .mixedOrders=true)(hc:ep P fn.ntmps keeps solo true c=some rc)(hr:lM P fn.results.toList=some rs)
  {ab:List AV} {bs:List Box} {Q:AV->List Box->Prop} (hn:ab.length<=fn.ntmps) (h:rc.wp P ⟨params 0 ab,bs,bs.length⟩ λx s=>∃s',aG s s'/\H3 rs Q x s'):Sem P f ab bs Q:=by
 intro E G a0 w args lo hpre hl hv;refine(callsIn_wide (n:=0)).1 (callsIn_of_wp_marks (F:=F0 none) hf hb trivial ?_);have h1:=hpre.enter hl hv hn;refine wpIn_mono (WP.qb (Aa hm hc h) (dY G bs w fn.ntmps) _ _ w none 0 h1 ⟨rfl,λ_=>rfl⟩) ?_;rintro e a' w' ⟨x,s',G',rfl,q,hs'⟩
 have fin:qC s' rs Q->LeavesInM (F0 none) 0 P fn a'.tmps (λe w'=>∃v r bs' G',e=.returned v/\Q r bs'/\RS (dY G bs w 1) G' ⟨[(0,r)],bs',bs.length⟩ ⟨#[v],[]⟩ w') a'.defers .returning w':=λq=>by
  refine hs'.leaves rfl _ rfl λw2 h2=>?_;obtain⟨v,r,bs',G2,h3,h4,h5⟩:=h2.leave h2.lo.symm hr q;have hlo:s'.lo=bs.length:=hs'.lo;rw[hlo] at h5;exact⟨v,h3,v,r,bs',G2,rfl,h4,h5⟩
 cases x with
 |normal=>exact fin q
 |ret=>exact fin q
 |exit id=>exact q.elim
theorem Sem.pure{P:Program}{f:FuncId}{ab:List AV}{Q:AV->Prop}(h:Sem P f ab [] λr _=>Q r)(hvals:∀x∈ab,x.lt 0=true)(hQ:∀r,Q r->r.lt 0=true)(bs:List Box):Sem P f ab bs λr bs'=>Q r/\bs'=bs:=by
 intro E G a0 w args lo hpre hl hv
 have h0:RS ⟨λ_=>False,G.M,w,0,0,G.σ,[]⟩ ⟨G.M,G.σ,λ_=>none⟩ ⟨[],[],0⟩ ⟨#[],[]⟩ w:=by
  have hat:∀p x,(⟨[],[],0⟩:St).at p=some x->False:=λp x hp=>by
   cases p with
   |sl t=>simp[St.at,au] at hp
   |bx b j=>simp[St.at,aa] at hp
  have hbx:∀b cs,aa ([]:List Box) b=some cs->False:=λb cs hb=>by simp[aa] at hb
  exact⟨Fr.refl _ _ _,hpre.ok,rfl,λp x hp=>(hat p x hp).elim,λb j x hp=>(hat _ x hp).elim,λb cs hb=>(hbx b cs hb).elim,λb cs hb=>(hbx b cs hb).elim,λb b' cs cs' hb _ _=>(hbx b cs hb).elim,λp z l hp=>(hat p _ hp).elim,(λp q B hp=>by cases hp),(λp B hp=>by cases hp),(λp B hp=>by cases hp),rfl,zG _,(λb hb=>by cases hb),Sp.none _ _ _ _ _ _⟩
 refine(h _ _ _ w args 0 h0 hl (λj hj v hjv=>?_)).mono ?_
 .exact ((hv j hj v hjv).lt (hvals _ (zc hj))).mono (Hp.le_refl _) (zG _) (λ_ _=>rfl)
 .rintro e w' ⟨v,r,bs',G',rfl,hq,h'⟩;refine⟨v,r,bs,⟨G'.M,G.σ,λp=>match p with|.sl 0=>G'.cl (.sl 0)|.sl _=>none|.bx b j=>G.cl (.bx b j)⟩,rfl,⟨hq,rfl⟩,?_⟩
  have hno:∀B,¬il ⟨G.M,G.σ,λ_=>none⟩ [] B:=λB hB=>by
   rcases hB with ⟨b,cs,hb,_⟩|⟨b,j,hb⟩|⟨b,x,hb,_⟩
   .simp [aa] at hb
   .cases hb
   .exact cU hb
  have hfr:Fr (il ⟨G.M,G.σ,λ_=>none⟩ []) G.M w G'.M w':=h'.fr;have hat0:(⟨[(0,r)],bs',([]:List Box).length⟩:St).at (.sl 0)=some r:=rfl
  have hnew:∀q B,G'.cl q=some B->w.heap.size<=B:=λq B hB=>by
   rcases(h'.cllt q B hB).2 with h1|h1
   .exact absurd h1 (hno B)
   .exact h1
  have hatc:∀p x,(⟨[(0,r)],bs,bs.length⟩:St).at p=some x->(p=.sl 0/\x=r)\/(∃b j,p=.bx b j/\(⟨[],bs,lo⟩:St).at (.bx b j)=some x):=λp x hp=>by
   cases p with
   |sl t=>
    simp only[St.at,au] at hp;split at hp
    .rename_i hb;have:=zP hb;subst this;cases hp;exact .inl ⟨rfl,rfl⟩
    .cases hp
   |bx b j=>exact .inr ⟨b,j,rfl,hp⟩
  have hbv:∀b j x,(⟨[],bs,lo⟩:St).at (.bx b j)=some x->ay G.σ ⟨#[v],[]⟩ w' (.bx b j)=ay G.σ a0 w (.bx b j):=λb j x hx=>by
   simp only[St.at] at hx
   cases hb:aa bs b with
   |none=>rw[hb] at hx;cases hx
   |some cs=>simp only[ay];rw[cH (hfr.heap _ (hpre.blt hb) (hno _))]
  have hrv:RV G'.M G.σ bs.length r.aF v:=by
   have h1:=h'.val _ _ hat0;have h2:=h1.lt (m:=0) (by rw[ku];exact hQ r hq)
   exact h2.mono (Hp.le_refl _) (zJ _) (λb hb=>by cases hb)
  refine⟨⟨hfr.os,hfr.tape,hfr.output,hfr.size,hfr.le,λB hB _=>hfr.heap B hB (hno B),λB hB _=>hfr.mem B hB (hno B)⟩,h'.ok,rfl,λp x hp=>?_,λb j x hp=>?_,λb cs hb=>?_,λb cs hb=>?_,hpre.inj,λp z l hp=>?_,λp q B hp hq'=>?_,λp B hB b cs hb=>?_,λp B hB=>?_,rfl,zG _,λ_ _=>rfl,?_⟩
  .rcases hatc p x hp with ⟨rfl,rfl⟩|⟨b,j,rfl,hx⟩
   .exact hrv
   .show RV G'.M G.σ bs.length x.aF _;rw[hbv b j x hx];exact(hpre.val _ _ hx).mono hfr.le (zG _) (λ_ _=>rfl)
  .rcases hatc _ x hp with ⟨e,_⟩|⟨b',j',e,hx⟩
   .cases e
   .cases e;show (ay G.σ _ w' _).oneCell'=true;rw[hbv b j x hx];exact hpre.one _ _ _ hx
  .obtain ⟨vs,T,h1,h2⟩:=hpre.box b cs hb;exact⟨vs,T,(hfr.heap _ (hpre.blt hb) (hno _)).trans h1,h2⟩
  .obtain ⟨h1,_⟩:=hpre.bmem b cs hb;exact⟨λo=>(hfr.mem _ (hpre.blt hb) (hno _) o).trans (h1 o),.inl (.inl ⟨b,cs,hb,rfl⟩)⟩
  .rcases hatc p _ hp with ⟨rfl,hx⟩|⟨b,j,rfl,hx⟩
   .subst hx;obtain⟨ad,k,h1,h2,h3⟩:=h'.own _ _ _ hat0;refine⟨ad,k,h1,h2,?_⟩;rcases h3 with h3|⟨B,hB,h4,h5⟩
    .exact .inl h3
    .exact .inr ⟨B,hB,h4,h5.lt,h5.cells,h5.free,.inr (hnew _ B hB)⟩
   .obtain ⟨ad,k,h1,h2,h3⟩:=hpre.own _ _ _ hx;refine⟨ad,k,(hbv b j _ hx).trans h1,h2,?_⟩;rcases h3 with h3|⟨B,hB,h4,h5⟩
    .exact .inl h3
    .have hlt:=(hpre.cllt _ B hB).1;obtain⟨vs,T,h6,h7⟩:=h5.cells;exact .inr ⟨B,hB,h4,h5.lt,⟨vs,T,(hfr.heap B hlt (hno B)).trans h6,h7⟩,λo ho=>(hfr.mem B hlt (hno B) o).trans (h5.free o ho),.inl (.inr (.inl ⟨b,j,hB⟩))⟩
  .cases p with
   |sl t=>
    cases t with
    |zero=>
     cases q with
     |sl u=>
      cases u with
      |zero=>rfl
      |succ u=>cases hq'
     |bx b j=>
      have h1:=hnew _ B hp;have h2:=(hpre.cllt _ B hq').1
      omega
    |succ t=>cases hp
   |bx b j=>
    cases q with
    |sl u=>
     cases u with
     |zero=>
      have h1:=hnew _ B hq';have h2:=(hpre.cllt _ B hp).1
      omega
     |succ u=>cases hq'
    |bx b' j'=>exact hpre.clinj _ _ B hp hq'
  .cases p with
   |sl t=>
    cases t with
    |zero=>
     have h1:=hnew _ B hB;have h2:=hpre.blt hb;intro e;have e':G.σ b=B:=e;have h2':G.σ b<w.heap.size:=h2
     omega
    |succ t=>cases hB
   |bx b' j'=>exact hpre.clbox _ B hB b cs hb
  .cases p with
   |sl t=>
    cases t with
    |zero=>exact⟨(h'.cllt _ B hB).1,.inr (hnew _ B hB)⟩
    |succ t=>cases hB
   |bx b' j'=>exact⟨ZS (hpre.cllt _ B hB).1 hfr.size,.inl (.inr (.inl ⟨b',j',hB⟩))⟩
  .refine ⟨λB o hs=>?_,λb x hb=>?_,hpre.sp.inj,⟨[],rfl,.nil⟩,λb x hb j B o hj=>by
    obtain⟨q1,q2,q3⟩:=hpre.sp.rows b x hb j B o hj;have hlt:=(hpre.cllt _ B q2).1;exact⟨(hfr.heap B hlt (hno B)).trans q1,q2,λk=>(hfr.mem B hlt (hno B) k).trans (q3 k)⟩⟩
   .rcases hs with ⟨b,x,hb,e,ho⟩|⟨hmem,_⟩
    .obtain ⟨h1,h2,_⟩:=hpre.sp.ob B o (.inl ⟨b,x,hb,e,ho⟩);have hlt:=(zh.1 h1).1;refine⟨(hfr.heap B hlt (hno B)).trans h1,λp hp=>?_,.inl (.inr (.inr ⟨b,x,hb,e⟩))⟩
     cases p with
     |sl t=>
      cases t with
      |zero=>have:=hnew _ B hp;omega
      |succ t=>cases hp
     |bx b' j'=>exact h2 _ hp
    .cases hmem
   .obtain ⟨h1,h2,h3⟩:=hpre.sp.base b x hb;exact⟨Hp.le_trans h1 hfr.le,h2,h3⟩
theorem Fun.of{P:Program}{f:FuncId}{ab:List AV}{r:AV}(h:Sem P f ab [] λr' _=>r'=r)(hvals:ab.all (λx=>x.lt 0)=true)(hr:r.lt 0=true):Fun P f ab r:=
 Sem.pure h (by simpa using hvals) (λr' e=>by rw[e];exact hr)
theorem Sem.calls{P:Program}{f:FuncId}{ab:List AV}{Q:AV->List Box->Prop}(h:Sem P f ab [] Q){M:Hp}{w:World}(hM:M.le (Hp.of w)){args:List Value}(hl:args.length=ab.length)(hv:∀j (h:j<ab.length) v,args[j]? =some v->FV M ab[j] v):
  Calls P f args.toArray w λe w'=>∃v r bs' M' σ n,e=.returned v/\Q r bs'/\RV M' σ n r.aF v/\Ext w w'/\M'.le (Hp.of w'):=by
 have h0:RS ⟨λ_=>False,M,w,0,0,λ_=>0,[]⟩ ⟨M,λ_=>0,λ_=>none⟩ ⟨[],[],0⟩ ⟨#[],[]⟩ w:=by
  have hat:∀p x,(⟨[],[],0⟩:St).at p=some x->False:=λp x hp=>by
   cases p with
   |sl t=>simp[St.at,au] at hp
   |bx b j=>simp[St.at,aa] at hp
  have hbx:∀b cs,aa ([]:List Box) b=some cs->False:=λb cs hb=>by simp[aa] at hb
  exact⟨Fr.refl _ _ _,hM,rfl,λp x hp=>(hat p x hp).elim,λb j x hp=>(hat _ x hp).elim,λb cs hb=>(hbx b cs hb).elim,λb cs hb=>(hbx b cs hb).elim,λb b' cs cs' hb _ _=>(hbx b cs hb).elim,λp z l hp=>(hat p _ hp).elim,(λp q B hp=>by cases hp),(λp B hp=>by cases hp),(λp B hp=>by cases hp),rfl,zG _,(λb hb=>by cases hb),Sp.none _ _ _ _ _ _⟩
 refine(h _ _ _ w args 0 h0 hl (λj hj v hjv=>.flat (hv j hj v hjv))).mono ?_;rintro e w' ⟨v,r,bs',G',rfl,hq,h'⟩
 have hno:∀B,¬il ⟨M,λ_=>0,λ_=>none⟩ [] B:=λB hB=>by
  rcases hB with ⟨b,cs,hb,_⟩|⟨b,j,hb⟩|⟨b,x,hb,_⟩
  .simp [aa] at hb
  .cases hb
  .exact cU hb
 refine⟨v,r,bs',G'.M,G'.σ,_,rfl,hq,h'.val (.sl 0) r rfl,⟨⟨h'.fr.os,h'.fr.tape,h'.fr.output,h'.fr.size,λB hB=>h'.fr.heap B hB (hno B)⟩⟩,h'.ok⟩
end Go.AM
namespace Go.AM
open Go.CK Go.RowKit
def lits:List Nat:=[0,1,2,3,4,5,6,7,8,9,10,11,12,13,14,15,16,17,18,19,20,21,22,23,24,25,26,27,28,29,30,31,32,33,34,35,36,37,38,39,40]
def x8(n:Nat)(K:Nat->Prop):Prop:=
 match lits[n]? with
 |some m=>K m
 |none=>K n
theorem Co(n:Nat)(K:Nat->Prop):x8 n K=K n:=by
 unfold x8;split
 .rename_i m h
  have:m=n:=by
   have hlt:n<lits.length:=by
    rcases zt n lits.length with h1|h1
    .exact h1
    .rw [zS h1] at h;cases h
   have hall:∀k,(hk:k<lits.length)->lits[k]=k:=by decide
   rw[zA hlt] at h;cases h;exact hall n hlt
  rw[this]
 .rfl
def f1(x:AV)(K:AV->Prop):Prop:=
 match x with
 |.top=>K .top
 |.bool b=>K (.bool b)
 |.int k n=>K (.int k n)
 |.str s=>K (.str s)
 |.sl o l=>match o with
  |.no=>K (.sl .no l)
  |.full=>K (.sl .full l)
  |.own z=>K (.sl (.own z) l)
 |.agg cs=>K (.agg cs)
 |.tup vs=>K (.tup vs)
 |.ptr b off=>x8 b λb=>x8 off λoff=>K (.ptr b off)
 |.pz=>K .pz
 |.ept cs=>K (.ept cs)
 |.fn f xs ys=>K (.fn f xs ys)
 |.yl b=>K (.yl b)
 |.bsl b m k=>x8 b λb=>K (.bsl b m k)
 |.elp b i z off=>x8 b λb=>K (.elp b i z off)
 |.mpt b=>x8 b λb=>K (.mpt b)
 |.nfn=>K .nfn
 |.nmp=>K .nmp
 |.sK=>K .sK
 |.lit a n k=>K (.lit a n k)
theorem GO(x:AV)(K:AV->Prop):f1 x K=K x:=by
 cases x<;>first|(simp only[f1,Co];done)|skip
 rename_i o l;cases o<;>rfl
def fs(l:List AV)(K:List AV->Prop):Prop:=
 match l with
 |[]=>K []
 |x::xs=>f1 x λx=>fs xs λxs=>K (x::xs)
theorem E4:∀(l:List AV) (K:List AV->Prop),fs l K=K l
 |[],_=>rfl
 |x::xs,K=>by rw[fs,GO,E4 xs]
def fv(x:AV)(K:AV->Prop):Prop:=
 match x with
 |.agg cs=>fs cs λcs=>K (.agg cs)
 |.tup cs=>fs cs λcs=>K (.tup cs)
 |.ept cs=>fs cs λcs=>K (.ept cs)
 |.fn f xs ys=>fs xs λxs=>fs ys λys=>K (.fn f xs ys)
 |x=>f1 x K
theorem yN(x:AV)(K:AV->Prop):fv x K=K x:=by
 cases x<;>simp only[fv,E4,GO]
def fvs(l:List AV)(K:List AV->Prop):Prop:=
 match l with
 |[]=>K []
 |x::xs=>fv x λx=>fvs xs λxs=>K (x::xs)
theorem EZ:∀(l:List AV) (K:List AV->Prop),fvs l K=K l
 |[],_=>rfl
 |x::xs,K=>by rw[fvs,yN,EZ xs]
def fvq(x:AV)(K:AV->Prop):Prop:=
 match x with
 |.ptr b off=>K (.ptr b off)
 |.bsl b m k=>K (.bsl b m k)
 |.elp b i z off=>K (.elp b i z off)
 |.mpt b=>K (.mpt b)
 |.fn f xs ys=>K (.fn f xs ys)
 |x=>fv x K
theorem E0(x:AV)(K:AV->Prop):fvq x K=K x:=by
 cases x<;>simp only[fvq,yN]
def Di(l:List AV)(K:List AV->Prop):Prop:=
 match l with
 |[]=>K []
 |x::xs=>fvq x λx=>Di xs λxs=>K (x::xs)
theorem oR:∀(l:List AV) (K:List AV->Prop),Di l K=K l
 |[],_=>rfl
 |x::xs,K=>by rw[Di,E0,oR xs]
def fvn(fb:Bool)(x:AV)(K:AV->Prop):Prop:=
 match fb with
 |true=>fv x K
 |false=>fvq x K
theorem Hy(fb:Bool)(x:AV)(K:AV->Prop):fvn fb x K=K x:=by
 cases fb
 .simp only[fvn,E0]
 .simp only[fvn,yN]
def BF(fb:Bool)(e:List (Nat×AV))(K:List (Nat×AV)->Prop):Prop:=
 match e with
 |[]=>K []
 |(t,x)::r=>fvn fb x λx=>BF fb r λr=>K ((t,x)::r)
theorem oS(fb:Bool):∀(e:List (Nat×AV)) (K:List (Nat×AV)->Prop),BF fb e K=K e
 |[],_=>rfl
 |(t,x)::r,K=>by rw[BF,Hy,oS fb r]
def fBs(e:List Box)(K:List Box->Prop):Prop:=
 match e with
 |[]=>K []
 |.cells cs::r=>fs cs λcs=>fBs r λr=>K (.cells cs::r)
 |.dead::r=>fBs r λr=>K (.dead::r)
 |.loop x::r=>fBs r λr=>K (.loop x::r)
 |.row x::r=>fBs r λr=>K (.row x::r)
 |.mp x::r=>fBs r λr=>K (.mp x::r)
 |.mq x c::r=>fBs r λr=>K (.mq x c::r)
 |.tab x::r=>fBs r λr=>K (.tab x::r)
theorem hZ:∀(e:List Box) (K:List Box->Prop),fBs e K=K e
 |[],_=>rfl
 |.cells cs::r,K=>by rw[fBs,E4,hZ r]
 |.dead::r,K=>by rw[fBs,hZ r]
 |.loop x::r,K=>by rw[fBs,hZ r]
 |.row x::r,K=>by rw[fBs,hZ r]
 |.mp x::r,K=>by rw[fBs,hZ r]
 |.mq x c::r,K=>by rw[fBs,hZ r]
 |.tab x::r,K=>by rw[fBs,hZ r]
def St.fo(fb:Bool)(s:St)(K:St->Prop):Prop:=match s with
 |⟨e,bs,lo⟩=>BF fb e λe=>match fb with
  |true=>fBs bs λbs=>x8 lo λlo=>K ⟨e,bs,lo⟩
  |false=>K ⟨e,bs,lo⟩
theorem St.dR(fb:Bool)(s:St)(K:St->Prop):s.fo fb K=K s:=by
 cases fb<;>simp only[St.fo,oS,hZ,Co]
structure ag(P:Program)(f:FuncId)(ab raw:List AV)(bs:List Box)(K:AV->List Box->Prop):Prop where
 sem:∃Q,(Sem P f ab bs Q\/Sem P f raw bs Q)/\∀r bs',Q r bs'->K r bs'
theorem ag.raw{P:Program}{f:FuncId}{ab raw:List AV}{bs:List Box}{K:AV->List Box->Prop}{Q:AV->List Box->Prop}(h:Sem P f raw bs Q)(hK:∀r bs',Q r bs'->K r bs'):ag P f ab raw bs K:=⟨Q,.inr h,hK⟩
theorem ag.fn{P:Program}{f:FuncId}{ab raw:List AV}{bs:List Box}{K:AV->List Box->Prop}{r:AV}(h:Fun P f ab r)(hK:K r bs):ag P f ab raw bs K:=⟨_,.inl (h bs),λr' bs' ⟨e1,e2⟩=>by subst e1 e2;exact hK⟩
structure a6(P:Program)(f:FuncId)(ab:List AV)(K:AV->Prop):Prop where
 sem:∃r,Fun P f ab r/\K r
theorem a6.fn{P:Program}{f:FuncId}{ab:List AV}{K:AV->Prop}{r:AV}(h:Fun P f ab r)(hK:K r):a6 P f ab K:=⟨r,h,hK⟩
structure tT(P:Program)(b:Nat)(ab:List AV)(bs:List Box)(K:AV->List Box->Prop):Prop where
 sem:∃Q,mK P b ab bs Q/\∀r bs',Q r bs'->K r bs'
theorem tT.of{P:Program}{b:Nat}{ab:List AV}{bs:List Box}{K:AV->List Box->Prop}{Q:AV->List Box->Prop}(h:mK P b ab bs Q)(hK:∀r bs',Q r bs'->K r bs'):tT P b ab bs K:=⟨Q,h,hK⟩
def St.pt(s:St)(d:Option Nat)(x:AV):St:=match s with
 |⟨e,bs,lo⟩=>match d with
  |some k=>⟨aS e k x,bs,lo⟩
  |none=>⟨e,bs,lo⟩
theorem St.oq(s:St)(d:Option Nat)(x:AV):s.pt d x=s.put d x:=by cases s;cases d<;>rfl
def St.kp(s:St)(ks:List Nat):St:=match s with
 |⟨e,bs,lo⟩=>⟨dU (λk=>mem k ks) e,bs,lo⟩
def St.wb(s:St)(bs':List Box):St:=match s with
 |⟨e,_,lo⟩=>⟨e,bs',lo⟩
theorem St.DS(s:St)(bs':List Box):s.wb bs'=⟨s.env,bs',s.lo⟩:=by cases s;rfl
def fsq(l:List AV)(K:List AV->Prop):Prop:=Di l K
theorem E3(l:List AV)(K:List AV->Prop):fsq l K=K l:=oR l K
def tA(P:Program)(dr:Bool)(s:St)(d:Option Nat)(f:AV)(args:List AV)(K:St->Prop):Prop:=
 match f with
 |.fn (.func f) xs ys=>Di ((xs++args++ys).map AV.norm) λab=>match dr with
  |true=>a6 P f ab λr=>K (s.pt d r)
  |false=>match s with
   |⟨e,bs,lo⟩=>ag P f ab (xs++args++ys) bs λr bs'=>K (St.pt ⟨e,bs',lo⟩ d r)
 |.yl b=>match dr with
  |true=>False
  |false=>Di (args.map AV.norm) λab=>match s with
   |⟨e,bs,lo⟩=>tT P b ab bs λr bs'=>K (St.pt ⟨e,bs',lo⟩ d r)
 |_=>False
theorem tz{P:Program}{dr:Bool}{s:St}{d:Option Nat}{f:AV}{args:List AV}{K:St->Prop}:tA P dr s d f args K=(match dr with
  |true=>eD P f args λr=>K (s.put d r)
  |false=>iT P s d f args K):=by
 cases dr with
 |true=>
  cases f<;>try rfl
  rename_i f xs ys;cases f<;>try rfl
  simp only[tA,eD,oR,St.oq]
  exact propext ⟨λh=>h.sem,λh=>⟨h⟩⟩
 |false=>
  cases f<;>try rfl
  .rename_i f xs ys;cases f<;>try rfl
   simp only[tA,iT,oR,St.oq,St.DS];exact propext ⟨λh=>h.sem,λh=>⟨h⟩⟩
  .simp only[tA,iT,oR,St.oq,St.DS];exact propext ⟨λh=>h.sem,λh=>⟨h⟩⟩
structure Fy(s:St)(rs:List ej)(Q:AV->List Box->Prop):Prop where
 out:∃s',aG s s'/\qC s' rs Q
structure aq(s t:St):Prop where
 out:aG s t
end Go.AM
namespace Go.AM
open Go.CK Go.RowKit
structure HR(s:St)(e:AX)(J:AX->List Box->Prop):Prop where
 out:∃s3 own,aG s s3/\s3.bs=own++[.dead]/\J e own
theorem aq.wZ{s t:St}(b off z:Nat){l:List AV}(h0:s.at (.bx b off)=some (.sl .full l))(hz:∀y∈l,y.cells.length=z)(h:aq (s.upd (.bx b off) (.sl (.own z) l)) t):aq s t:=
 ⟨aG.trans (λ_ G _ _ hs=>⟨G,hs.bj h0 hz⟩) h.out⟩
theorem jQ{own:List Box}{n:Nat}(h:own.length=n)(x y:Box):(own++[x]).set n y=own++[y]:=by
 subst h;simp
end Go.AM
