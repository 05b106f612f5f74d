/-
  Texts of this aV joined (wip/gen/bundle.py),those declarations only that are needed:AmW AmF AmG. By an AI agent.
-/
import Derived.Test.YtcjfkbdbcgmomaaGreatDoorSan
set_option linter.unusedSimpArgs false
set_option linter.unusedVariables false
namespace Go.AM
open Go.CK Go.RowKit
inductive RC where
 |skip
 |reg (dr:Bool) (keep:List Nat) (ops:List ROp)
 |solo (p:Nat) (keep:List Nat) (ops:List ROp)
 |mult (keep:List Nat) (ops:List (Nat×ROp))
 |both (keep:List Nat) (qa q1 q2:List (Nat×ROp))
 |seq (a b:RC)
 |cond (c:Opd) (a b:RC)
 |block (id:Nat) (c:RC)
 |loop (c:RC)
 |range (g:Opd) (ps:List Nat) (a b:RC)
 |exit (id:Nat)
 |ret
deriving Inhabited
def mem(k:Nat):List Nat->Bool
 |[]=>false
 |x::xs=>match Nat.beq x k with
  |true=>true
  |false=>mem k xs
def St.keep(s:St)(ks:List Nat):St:=⟨eR (λk=>mem k ks) s.env,s.bs,s.lo⟩
theorem au.keep(s:St)(ks:List Nat):au s (s.keep ks):=λE G a w hs=>by
 have hat:∀p x,(s.keep ks).at p=some x->s.at p=some x:=λp x hp=>by
  cases p with
  |sl t=>exact(nF _ _ _ _ hp).1
  |bx b j=>exact hp
 exact⟨G,hs.fr,hs.ok,hs.nt,λp x hp=>hs.val p x (hat p x hp),λb j x hp=>hs.one b j x (hat _ x hp),hs.box,hs.bmem,hs.inj,λp z l hp=>hs.own p z l (hat p _ hp),hs.clinj,hs.clbox,hs.cllt,hs.lo,hs.len,hs.sig,hs.sp⟩
def GR(a b:St->(AX->St->Prop)->Prop)(x:LB)(env:List (Nat×AV))(n:Nat)(ps:List Nat)(y:List AV)(bs:List Box)(R:AV->List Box->Prop):Prop:=
 a ⟨jU env ps y,bs,bs.length⟩ λe s1=>match e with
  |.normal=>ag s1.bs n=some x/\b ⟨s1.env,s1.bs.set n .dead,s1.lo⟩ λe s2=>∃s3,au s2 s3/\th x n R e s3
  |_=>False
def RC.wp(P:Program):RC->St->(AX->St->Prop)->Prop
 |.skip,s,Q=>Q .normal s
 |.reg dr keep ops,s,Q=>x4 P dr ops s λs'=>Q .normal (s'.keep keep)
 |.solo p keep ops,s,Q=>sY P p 0 ops s λs'=>Q .normal (s'.keep keep)
 |.mult keep ops,s,Q=>iQ P (iT ops) ops s λs'=>Q .normal (s'.keep keep)
 |.both keep qa q1 q2,s,Q=>iQ P (bC qa q1 q2) qa s λsA=>iQ P (bC qa q1 q2) q1 sA (λs'=>Q .normal (s'.keep keep))/\iQ P (bC qa q1 q2) q2 sA (λs'=>Q .normal (s'.keep keep))
 |.seq a b,s,Q=>a.wp P s (og (λs'=>b.wp P s' Q) Q)
 |.cond c a b,s,Q=>match s.ev c with
  |.bool t=>(t=true->a.wp P s Q)/\(t=false->b.wp P s Q)
  |_=>False
 |.block id c,s,Q=>c.wp P s (uQ id Q)
 |.loop c,s,Q=>∃(I:Nat->St->Prop) (m:Nat) (s0:St),au s s0/\I m s0/\∀m s,I m s->c.wp P s (og (λs'=>∃m' s'',m'<m/\au s' s''/\I m' s'') Q)
 |.range g ps a b,s,Q=>∃s0,au s s0/\match s0.ev g with
  |.fn (.func gf) [] lb=>dS P gf=true/\∀x:LB,(∀y bs R,ag bs s0.bs.length=some x->y.length=ps.length->GR (λs Q=>a.wp P s Q) (λs Q=>b.wp P s Q) x (eU s0.env) s0.bs.length ps y bs R->my P s0.bs.length y bs R)->
    ∃QQ,Sem P gf ((.yl s0.bs.length::lb).map AV.norm) (s0.bs++[.loop x]) QQ/\∀r bs',QQ r bs'->Iu x s0 bs' Q
  |_=>False
 |.exit id,s,Q=>Q (.exit id) s
 |.ret,s,Q=>Q .ret s
def bY(id:Nat):List (Nat×List Nat)->List Nat
 |[]=>[]
 |(i,l)::r=>match Nat.beq i id with
  |true=>l
  |false=>bY id r
def GH(id:Nat):List (Nat×Nat)->Option Nat
 |[]=>none
 |(i,p)::r=>match Nat.beq i id with
  |true=>some p
  |false=>GH id r
def Ko(o:Oper):List Nat:=match o.op with
 |.call {callee:=.builtin .append,.. }|.call {callee:=.value _,.. }|.makeSlice .. =>o.dst.toList
 |_=>[]
def Km(o:Oper):List Nat:=match o.op with
 |.call {callee:=.builtin .append,args:=⟨.tmp t::_⟩,.. }=>[t]
 |_=>[]
def D4(ops:Array Oper)(d t:Nat):Bool:=ops.toList.any (λo=>(Ko o).contains t)||ops.toList.any λo=>(Km o).contains d
def hk(keeps:List (Nat×List Nat))(tk:Nat->Nat->Bool)(d t:Nat):Bool:=match Nat.beq d t with
 |true=>(bY 1000000 keeps).contains d
 |false=>tk d t
def Lt:RC:=.cond (.c .top) .skip .skip
def fg(P:Program)(nt:Nat)(keeps:List (Nat×List Nat))(solo:List (Nat×Nat))(fl:Bool):Code->Option RC
  |.skip=>some .skip
  |.label _=>some .skip
  |.region id ops dr=>match (bY 1000001 keeps).contains id with
   |true=>some Lt
   |false=>match dr with
    |false=>match qb P nt (hk keeps λ_ _=>false) ops ops.toList with
      |some rs=>some (.reg false (bY id keeps) rs)
      |none=>none
    |true=>match bY (4000000+id) keeps with
     |x::y::A=>match qb P nt (hk keeps (D4 ops)) ops ops.toList with
      |some rs=>match y6 ops rs (bY (3000000+id) keeps) A x y (bY (5000000+id) keeps) (bY (6000000+id) keeps),cE rs (bY (3000000+id) keeps) A,cE rs (bY (3000000+id) keeps) (x::bY (5000000+id) keeps),cE rs (bY (3000000+id) keeps) (y::bY (6000000+id) keeps) with
        |true,some qa,some q1,some q2=>some (.both (bY id keeps) qa q1 q2)
        |_,_,_,_=>none
      |none=>none
     |_=>match bY (2000000+id) keeps with
     |i0::pi=>match qb P nt (hk keeps (D4 ops)) ops ops.toList with
      |some rs=>match wA ops rs (i0::pi) (bY (3000000+id) keeps),cE rs (bY (3000000+id) keeps) (i0::pi) with
        |true,some q=>some (.mult (bY id keeps) q)
        |_,_=>none
      |none=>none
     |[]=>
      match GH id solo with
      |some p=>match qb P nt (hk keeps (D4 ops)) ops ops.toList with
       |some rs=>if qQ ops rs p then some (.solo p (bY id keeps) rs) else none
       |none=>none
      |none=>match qb P nt (hk keeps λ_ _=>true) ops ops.toList with
       |some rs=>if pW ops rs then some (.reg true (bY id keeps) rs) else match qb P nt (hk keeps (D4 ops)) ops ops.toList with
         |some rs=>if pW ops rs then some (.reg true (bY id keeps) rs) else none
         |none=>none
       |none=>none
  |.seq a b=>match fg P nt keeps solo fl a,fg P nt keeps solo fl b with
    |some a,some b=>some (.seq a b)
    |_,_=>none
  |.cond c a b=>match opd c,fg P nt keeps solo fl a,fg P nt keeps solo fl b with
    |some c,some a,some b=>some (.cond c a b)
    |_,_,_=>none
  |.block id c=>match fg P nt keeps solo fl c with
    |some c=>some (.block id c)
    |none=>none
  |.loop c=>match fg P nt keeps solo fl c with
    |some c=>some (.loop c)
    |none=>none
  |.rangeFunc g ps a b=>match fl with
    |true=>match opd g,fg P nt keeps solo false a,fg P nt keeps solo false b with
      |some g,some a,some b=>if ps.toList.all (λp=>Nat.blt p nt) then some (.range g ps.toList a b) else none
      |_,_,_=>none
    |false=>none
  |.scope c=>fg P nt keeps solo fl c
  |.exit id=>some (.exit id)
  |.ret=>some .ret
  |_=>none
theorem oI{K K':St->Prop}{Q:AX->St->Prop}(h:∀s,K s->K' s):∀x s,og K Q x s->og K' Q x s:=λx s hx=>by
 cases x with
 |normal=>exact h s hx
 |exit id=>exact hx
 |ret=>exact hx
theorem Cc{P:Program}{nt:Nat}{keeps:List (Nat×List Nat)}{solo:List (Nat×Nat)}(hm:P.follows .mixedOrders=true):∀{c:Code} {fl:Bool} {r:RC},fg P nt keeps solo fl c=some r->∀{s:St} {Q:AX->St->Prop},r.wp P s Q->WP P nt fl c s Q:=by
 intro c
 induction c with
 |skip=>intro fl r hc s Q h;cases hc;exact WP.skip h
 |label l=>intro fl r hc s Q h;cases hc;exact WP.label h
 |region id ops dr=>
  intro fl r hc s Q h;simp only[fg] at hc;split at hc
  .cases hc;exact h.elim
  cases dr with
  |false=>
   simp only at hc;split at hc
   .rename_i rs hrs;cases hc;exact WP.rD (WP.region hrs (ig (λs' hs'=>⟨_,au.keep s' _,hs'⟩) h))
   .cases hc
  |true=>
   simp only at hc;split at hc
   .split at hc
    .rename_i rs hrs;split at hc
     .rename_i qa q1 q2 hi ha h1 h2;cases hc;exact WP.rD (WP.AK hm hrs hi ha h1 h2 (a8 (λsA hs'=>⟨a8 (λs' hs'=>⟨_,au.keep s' _,hs'⟩) hs'.1,a8 (λs' hs'=>⟨_,au.keep s' _,hs'⟩) hs'.2⟩) h))
     .cases hc
    .cases hc
   split at hc
   .split at hc
    .rename_i rs hrs;split at hc
     .rename_i q hi hq;cases hc;exact WP.rD (WP.AJ hm hrs hi hq (a8 (λs' hs'=>⟨_,au.keep s' _,hs'⟩) h))
     .cases hc
    .cases hc
   split at hc
   .split at hc
    .rename_i rs hrs;split at hc
     .rename_i hi;cases hc;exact WP.rD (WP.AH hm hrs hi (lF (λs' hs'=>⟨_,au.keep s' _,hs'⟩) h))
     .cases hc
    .cases hc
   .split at hc
    .rename_i rs hrs;split at hc
     .rename_i hi;cases hc;exact WP.rD (WP.tl hm hrs hi (ig (λs' hs'=>⟨_,au.keep s' _,hs'⟩) h))
     .split at hc
      .rename_i rs2 hrs2;split at hc
       .rename_i hi;cases hc;exact WP.rD (WP.tl hm hrs2 hi (ig (λs' hs'=>⟨_,au.keep s' _,hs'⟩) h))
       .cases hc
      .cases hc
    .cases hc
 |seq a b iha ihb=>
  intro fl r hc s Q h;simp only[fg] at hc;split at hc
  .rename_i ra rb ha hb;cases hc;exact WP.seq ((iha ha h).mono λx s' q=>oI (λs2 h2=>ihb hb h2) x s' q)
  .cases hc
 |cond c a b iha ihb=>
  intro fl r hc s Q h;simp only[fg] at hc;split at hc
  .rename_i rc ra rb hcc ha hb;cases hc;refine WP.cond hcc ?_;simp only[RC.wp] at h;split at h
   .rename_i t ht;rw[ht];exact⟨λe=>iha ha (h.1 e),λe=>ihb hb (h.2 e)⟩
   .exact h.elim
  .cases hc
 |block id c ih=>
  intro fl r hc s Q h;simp only[fg] at hc;split at hc
  .rename_i rc hcc;cases hc;exact WP.block (ih hcc h)
  .cases hc
 |loop c ih=>
  intro fl r hc s Q h;simp only[fg] at hc;split at hc
  .rename_i rc hcc;cases hc;obtain⟨I,m,s0,hw0,h0,hr⟩:=h;refine WP.loop (λm s=>∃s',au s s'/\I m s') ⟨s0,hw0,h0⟩ λm s ⟨s',hw,hI⟩=>?_;refine WP.Lb hw ((ih hcc (hr m s' hI)).mono λx s2 q=>oI (λs3 ⟨m',s'',h1,h2,h3⟩=>⟨m',h1,s'',h2,h3⟩) x s2 q)
  .cases hc
 |exit id=>intro fl r hc s Q h;cases hc;exact WP.exit h
 |ret=>intro fl r hc s Q h;cases hc;exact WP.ret h
 |rangeFunc g ps a b iha ihb=>
  intro fl r hc s Q h;simp only[fg] at hc;split at hc
  .split at hc
   .rename_i rg ra rb hg ha hb;split at hc
    .rename_i hps;cases hc;obtain⟨s0,hw,h⟩:=h;refine WP.Lb hw ?_;split at h
     .rename_i gf lb hgv;obtain⟨hbd,h⟩:=h;refine WP.range hg hgv hbd (λp hp=>?_) λx hx=>h x λy bs R h1 h2 h3=>hx y bs R h1 (by simpa using h2) ?_
      .have:=zT.1 hps p hp;simpa using this
      .refine WP.mono (iha ha h3) λe s1 hq=>?_
       cases e with
       |normal=>exact⟨hq.1,WP.rD (ihb hb hq.2)⟩
       |ret=>exact hq
       |exit id=>exact hq
     .exact h.elim
    .cases hc
   .cases hc
  .cases hc
 |scope c ih=>intro fl r hc s Q h;exact WP.scope (ih hc h)
 |goto=>intro _ r hc;cases hc
 |refuse=>intro _ r hc;cases hc
theorem RC.wp_mono{P:Program}:∀{c:RC} {s:St} {Q Q':AX->St->Prop},(∀x s,Q x s->Q' x s)->c.wp P s Q->c.wp P s Q'
 |.skip,_,_,_,hq,h=>hq _ _ h
 |.reg _ _ _,_,_,_,hq,h=>ig (λ_ hx=>hq _ _ hx) h
 |.solo _ _ _,_,_,_,hq,h=>lF (λ_ hx=>hq _ _ hx) h
 |.mult _ _,_,_,_,hq,h=>a8 (λ_ hx=>hq _ _ hx) h
 |.both _ _ _ _,_,_,_,hq,h=>a8 (λ_ hx=>⟨a8 (λ_ hx=>hq _ _ hx) hx.1,a8 (λ_ hx=>hq _ _ hx) hx.2⟩) h
 |.seq a b,s,Q,Q',hq,h=>by
  refine RC.wp_mono (c:=a) (λx s' hx=>?_) h
  cases x with
  |normal=>exact RC.wp_mono (c:=b) hq hx
  |exit id=>exact hq _ _ hx
  |ret=>exact hq _ _ hx
 |.cond c a b,s,Q,Q',hq,h=>by
  simp only[RC.wp] at h|-;split at h
  .exact ⟨λe=>RC.wp_mono (c:=a) hq (h.1 e),λe=>RC.wp_mono (c:=b) hq (h.2 e)⟩
  .exact h
 |.block id c,s,Q,Q',hq,h=>by
  refine RC.wp_mono (c:=c) (λx s' hx=>?_) h
  cases x with
  |normal=>exact hq _ _ hx
  |ret=>exact hq _ _ hx
  |exit id'=>
   simp only[uQ] at hx|-;split at hx
   .exact hq _ _ hx
   .exact hq _ _ hx
 |.loop c,s,Q,Q',hq,h=>by
  obtain⟨I,m,s0,h1,h2,h3⟩:=h;refine⟨I,m,s0,h1,h2,λm s hI=>RC.wp_mono (c:=c) (λx s' hx=>?_) (h3 m s hI)⟩
  cases x with
  |normal=>exact hx
  |exit id=>exact hq _ _ hx
  |ret=>exact hq _ _ hx
 |.range g ps a b,s,Q,Q',hq,h=>by
  obtain⟨s0,hw,h⟩:=h;refine⟨s0,hw,?_⟩;split at h
  .obtain ⟨h1,h2⟩:=h;refine⟨h1,λx hx=>?_⟩;obtain⟨QQ,h3,h4⟩:=h2 x hx;refine⟨QQ,h3,λr bs' hr=>?_⟩;rcases h4 r bs' hr with ⟨k1,k2⟩|⟨k1,k2⟩|⟨id,k1,k2⟩
   .exact .inl ⟨k1,hq _ _ k2⟩
   .exact .inr (.inl ⟨k1,hq _ _ k2⟩)
   .exact .inr (.inr ⟨id,k1,hq _ _ k2⟩)
  .exact h
 |.exit _,_,_,_,hq,h=>hq _ _ h
 |.ret,_,_,_,hq,h=>hq _ _ h
theorem au.aV(s:St)(t z:Nat)(l:List AV)(h:aq s.env t=some (.sl .full l))(hz:∀y∈l,y.cells.length=z):au s (s.put (some t) (.sl (.own z) l)):=λE G a w hs=>
 ⟨G,hs.aV (p:=.sl t) (by simp only[St.at];exact h) hz⟩
theorem au.norm(s:St)(t:Nat)(x:AV)(h:aq s.env t=some x):au s (s.put (some t) x.norm):=λE G a w hs=>by
 have hv:=hs.val (.sl t) x (by simp only[St.at];exact h)
 exact⟨G,hs.upd (q:=.sl t) (by simp only[St.at];exact h) (by rw[<-o8];exact hv.norm)⟩
def nE(n:Nat):List (Nat×AV)->Bool
 |[]=>true
 |(_,x)::r=>x.lt n&&nE n r
def ak(n:Nat):List Box->Bool
 |[]=>true
 |.cells cs::r=>cs.all (λx=>x.lt n)&&ak n r
 |.dead::r=>ak n r
 |.loop _::r=>ak n r
 |.row cs::r=>cs.all (λx=>x.lt n)&&ak n r
 |.mp _::r=>ak n r
 |.mq _ _::r=>ak n r
 |.tab _::r=>ak n r
theorem wP{n:Nat}:∀{e:List (Nat×AV)} {t:Nat} {x:AV},nE n e=true->aq e t=some x->x.lt n=true
 |[],_,_,_,h=>by cases h
 |(k,y)::r,t,x,h,hg=>by
  simp only[nE,zD] at h;simp only[aq] at hg;split at hg
  .cases hg;exact h.1
  .exact wP h.2 hg
theorem bV{n:Nat}:∀{bs:List Box} {b j:Nat} {cs:List AV} {x:AV},ak n bs=true->aa bs b=some cs->cs[j]? =some x->x.lt n=true
 |[],_,_,_,_,_,h,_=>by simp[aa] at h
 |.cells ds::r,0,j,cs,x,h,hb,hj=>by
  simp only[ak,zD,zT] at h;simp only[aa,Zo,Box.cs?,zO] at hb;subst hb
  exact h.1 x (zE hj)
 |.row ds::r,0,j,cs,x,h,hb,hj=>by
  simp only[ak,zD,zT] at h;simp only[aa,Zo,fi] at hb;split at hb
  .cases hb
  .cases hb
   exact h.1 x (zE hj)
 |.dead::r,0,j,cs,x,h,hb,hj=>by simp[aa,Box.cs?] at hb
 |.loop _::r,0,j,cs,x,h,hb,hj=>by simp[aa,Box.cs?] at hb
 |.mp _::r,0,j,cs,x,h,hb,hj=>by simp[aa,Box.cs?] at hb
 |.mq _ _::r,0,j,cs,x,h,hb,hj=>by simp[aa,Box.cs?] at hb
 |.tab _::r,0,j,cs,x,h,hb,hj=>by simp[aa,Box.cs?] at hb
 |.cells ds::r,b+1,j,cs,x,h,hb,hj=>by
  simp only[ak,zD] at h
  exact bV (b:=b) h.2 (by simpa[aa] using hb) hj
 |.row ds::r,b+1,j,cs,x,h,hb,hj=>by
  simp only[ak,zD] at h
  exact bV (b:=b) h.2 (by simpa[aa] using hb) hj
 |.dead::r,b+1,j,cs,x,h,hb,hj=>by
  exact bV (b:=b) (by simpa[ak] using h) (by simpa[aa] using hb) hj
 |.loop _::r,b+1,j,cs,x,h,hb,hj=>by
  exact bV (b:=b) (by simpa[ak] using h) (by simpa[aa] using hb) hj
 |.mp _::r,b+1,j,cs,x,h,hb,hj=>by
  exact bV (b:=b) (by simpa[ak] using h) (by simpa[aa] using hb) hj
 |.mq _ _::r,b+1,j,cs,x,h,hb,hj=>by
  exact bV (b:=b) (by simpa[ak] using h) (by simpa[aa] using hb) hj
 |.tab _::r,b+1,j,cs,x,h,hb,hj=>by
  exact bV (b:=b) (by simpa[ak] using h) (by simpa[aa] using hb) hj
theorem au.cut(s:St)(n:Nat)(hlo:s.lo<=n)(hn:n<=s.bs.length)(h1:nE n s.env=true)(h2:ak n (s.bs.take n)=true):au s ⟨s.env,s.bs.take n,s.lo⟩:=λE G a w hs=>by
 have hbox:∀b cs,aa (s.bs.take n) b=some cs->aa s.bs b=some cs:=λb cs hb=>by
  simp only[aa,Zd] at hb|-;split at hb
  .rename_i q hq;split at hq
   .rw [hq];exact hb
   .cases hq
  .cases hb
 refine⟨G,hs.forget (n:=n) (by simp;omega) rfl hlo (λp x hp=>?_) hbox (λb x hb=>?_)⟩
 rotate_left
 .simp only[ag,Zd] at hb|-;split at hb
  .rename_i q hq;split at hq
   .rw [hq];exact hb
   .cases hq
  .cases hb
 cases p with
 |sl t=>exact⟨hp,wP h1 hp⟩
 |bx b j=>
  simp only[St.at] at hp|-
  cases hb:aa (s.bs.take n) b with
  |none=>rw[hb] at hp;cases hp
  |some cs=>
   rw[hb] at hp;rw[hbox b cs hb];exact⟨hp,bV h2 hb hp⟩
inductive e7 where
 |slot (t:Nat)
 |cell (t:Nat) (agg:Bool) (n:Nat)
deriving Inhabited
def mP(P:Program):List ResultVar->Option (List e7)
 |[]=>some []
 |.tmp t::r=>match mP P r with
  |some rs=>some (.slot t::rs)
  |none=>none
 |.cell t ty::r=>match mP P r,nP P ty,dH P ty with
  |some rs,some agg,some n=>some (.cell t agg n::rs)
  |_,_,_=>none
def CY(s:St):e7->(AV->Prop)->Prop
 |.slot t,K=>K (s.get t).aG
 |.cell t agg n,K=>bL agg n (s.rd (s.ev (.t t))) K
def AF(s:St):List e7->(List AV->Prop)->Prop
 |[],K=>K []
 |r::rs,K=>CY s r λx=>AF s rs λxs=>K (x::xs)
def rT(s:St)(rs:List e7)(K:AV->List Box->Prop):Prop:=
 match rs with
 |[.slot t]=>K (s.get t) s.bs
 |[r]=>CY s r λx=>K x s.bs
 |rs=>AF s rs λxs=>K (.tup xs) s.bs
def Lh(rs:List e7)(Q:AV->List Box->Prop):AX->St->Prop
 |.normal,s=>rT s rs Q
 |.ret,s=>rT s rs Q
 |_,_=>False
def params:Nat->List AV->List (Nat×AV)
 |_,[]=>[]
 |k,x::xs=>(k,x)::params (k+1) xs
theorem tw:∀(ae:List AV) (k t:Nat),aq (params k ae) t=if k<=t then ae[t-k]? else none
 |[],k,t=>by simp[params,aq]
 |x::xs,k,t=>by
  simp only[params,aq]
  by_cases h:k=t
  .subst h;rw[lC];simp
  .rw [cu h];simp only;rw[tw xs (k+1) t]
   by_cases h2:k<=t
   .rw [if_pos (by omega),if_pos h2,show t-k=(t-(k+1))+1 by omega];simp
   .rw [if_neg (by omega),if_neg h2]
section
variable{P:Program}{E:Entry}{G:Gh}{s:St}{a:Act}{w:World}
theorem RS.enter{bs:List Box}{lo:Nat}(h:RS E G ⟨[],bs,lo⟩ a w){args:List Value}{ae:List AV}(hl:args.length=ae.length)(hv:∀j (h:j<ae.length) v,args[j]? =some v->RV G.M G.σ bs.length ae[j] v){nt:Nat}(hnt:ae.length<=nt):
  RS (bB G bs w nt) {G with cl:=fF G.cl} ⟨params 0 ae,bs,bs.length⟩ {tmps:=args.toArray++Array.replicate (nt-args.toArray.size) undef,defers:=[]} w:=by
 have h0:=h.pw (bB G bs w nt) {tmps:=args.toArray++Array.replicate (nt-args.toArray.size) undef,defers:=[]} (Fr.refl _ _ _ h.fr.kn) (by simp[bB];omega) bs.length rfl (zG _) (λ_ _=>rfl) (λB hB=>.inl hB) rfl
 have hat:∀p x,(⟨params 0 ae,bs,bs.length⟩:St).at p=some x->(∃t,p=.sl t/\ae[t]? =some x)\/(∃b j,p=.bx b j/\(⟨[],bs,bs.length⟩:St).at (.bx b j)=some x):=λp x hp=>by
  cases p with
  |sl t=>
   simp only[St.at,tw] at hp;rw[if_pos (zJ _),yE] at hp
   exact .inl ⟨t,rfl,hp⟩
  |bx b j=>exact .inr ⟨b,j,rfl,hp⟩
 have hslot:∀t x,ae[t]? =some x->RV G.M G.σ bs.length x ((args.toArray++Array.replicate (nt-args.toArray.size) undef).getD t undef):=λt x hx=>by
  have ht:t<ae.length:=by
   rcases zu t ae.length with h1|h1
   .exact h1
   .rw [zS h1] at hx;cases hx
  rw[zA ht] at hx;cases hx;have hta:t<args.length:=by omega
  refine hv t ht _ ?_;rw[zA hta]
  have:(args.toArray++Array.replicate (nt-args.toArray.size) undef)[t]? =some args[t]:=by
   rw[Array.getElem?_append_left (by simpa using hta)]
   simp[hta]
  simp only[zU,this,ZU]
 refine⟨h0.fr,h0.ok,h0.nt,λp x hp=>?_,λb j x hp=>?_,h0.box,h0.bmem,h0.inj,λp z l hp=>?_,h0.clinj,h0.clbox,h0.cllt,h0.lo,h0.len,h0.sig,h0.sp⟩
 .rcases hat p x hp with ⟨t,rfl,hx⟩|⟨b,j,rfl,hx⟩
  .have:=hslot t x hx;rw[this.cr];exact this
  .exact h0.val _ _ hx
 .rcases hat _ x hp with ⟨t,e,_⟩|⟨b',j',e,hx⟩
  .cases e
  .cases e;exact h0.one _ _ _ hx
 .rcases hat p _ hp with ⟨t,rfl,hx⟩|⟨b,j,rfl,hx⟩
  .have:=(hslot t _ hx).cr;simp[AV.aG] at this
  .exact h0.own _ _ _ hx
def jF(a:Act)(rv:ResultVar):Go.Sem Value:=match rv with
 |.tmp t=>Pure.pure (a.tmps.getD t undef)
 |.cell q ty=>do loadVar ty (<-asAddr (a.tmps.getD q undef))
theorem AG(hs:RS E G s a w){rv:ResultVar}{r:e7}(hr:mP P [rv]=some [r]){K:AV->Prop}(h:CY s r K):
  ∃x v,K x/\RV G.M G.σ s.bs.length x v/\(jF a rv).run P w=.ok v w:=by
 cases rv with
 |tmp t=>
  simp only[mP,zO,yA,and_true] at hr;subst hr
  exact⟨_,_,h,hs.KH t,rfl⟩
 |cell q ty=>
  simp only[mP] at hr;split at hr
  .rename_i rs agg n hrs ha hn;simp only[zO,yA] at hr;obtain⟨rfl,rfl⟩:=hr;simp only[CY] at h;unfold bL at h;split at h
   .rename_i cs hcs;have hq:=hs.ev (o:=.tmp q) (r:=.t q) rfl;split at h
    .obtain ⟨h1,h2⟩:=af.1 h;have hle:=zt h1;obtain⟨B,off,hv,hc⟩:=hs.rd hq hcs;simp only[Act.eval] at hv;have hrun:=gk P w B off n (λj hj=>let ⟨u,h,_⟩:=hc j (by omega);⟨u,h⟩)
     refine⟨_,.agg (ct w B off n).toArray,h2,?_,?_⟩
     .refine .agg _ _ (by simp[ct];omega) (λu hu=>?_) (λj hj u hu=>?_)
      .simp only[ct,zl,ze] at hu;obtain⟨j,hj,rfl⟩:=hu;obtain⟨u,h1,h2,_⟩:=hc j (by omega)
       rw[h1];exact h2
      .simp only[zo] at hj;obtain⟨u',h1,h2,h3⟩:=hc j (by omega)
       simp[ct,show j<n by omega,h1] at hu
       subst hu;rw[Zs];exact h3
     .simp only[jF];simp[hv,asAddr,loadVar,dD ha,aL hn,hrun]
    .split at h
     .rename_i c rest;obtain⟨B,off,hv,hc⟩:=hs.rd hq hcs;simp only[Act.eval] at hv;obtain⟨u,h1,_,h3⟩:=hc 0 (by simp)
      rw[Zi] at h1;exact⟨_,u,h,h3,by simp only[jF];simp[hv,asAddr,loadVar,dD ha,h1]⟩
     .exact h.elim
   .exact h.elim
  .cases hr
theorem iq{rv:ResultVar}{rvs:List ResultVar}{rs:List e7}(h:mP P (rv::rvs)=some rs):∃r rs',rs=r::rs'/\mP P [rv]=some [r]/\mP P rvs=some rs':=by
 cases rv with
 |tmp t=>
  simp only[mP] at h|-;split at h
  .rename_i rs' hrs;cases h;exact⟨_,_,rfl,rfl,hrs⟩
  .cases h
 |cell q ty=>
  simp only[mP] at h|-;split at h
  .rename_i rs' agg n hrs ha hn;cases h;exact⟨_,_,rfl,by simp[ha,hn],hrs⟩
  .cases h
theorem vP(hs:RS E G s a w):∀{rvs:List ResultVar} {rs:List e7},mP P rvs=some rs->∀{K:List AV->Prop},AF s rs K->
  ∃xs vs,K xs/\vs.length=xs.length/\(∀j (h:j<xs.length) v,vs[j]? =some v->RV G.M G.σ s.bs.length xs[j] v)/\(rvs.mapM (jF a)).run P w=.ok vs w/\rvs.length=xs.length
 |[],rs,hr,K,h=>by
  cases hr
  exact⟨[],[],h,rfl,(λj h=>by cases h),by simp,rfl⟩
 |rv::rvs,rs,hr,K,h=>by
  obtain⟨r,rs',rfl,h1,h2⟩:=iq hr;obtain⟨x,v,h3,h4,h5⟩:=AG (P:=P) hs h1 h;obtain⟨xs,vs,h6,h7,h8,h9,h10⟩:=vP hs h2 h3;refine⟨x::xs,v::vs,h6,by simp[h7],λj hj u hu=>?_,?_,by simp[h10]⟩
  .cases j with
   |zero=>simp at hu;subst hu;exact h4
   |succ j=>exact h8 j (by simpa using hj) u (by simpa using hu)
  .rw [List.mapM_cons];have h5':(jF a rv).run P w=.ok v w:=h5;simp only[ya,h5',yZ,h9,yb]
theorem RS.leave(hs:RS E G s a w)(hE:E.nb=s.lo){fn:Func}{rs:List e7}(hr:mP P fn.results.toList=some rs){Q:AV->List Box->Prop}(h:rT s rs Q):
  ∃v r bs' G',(results fn a.tmps).run P w=.ok v w/\Q r bs'/\RS {E with nt:=1,dd:=[]} G' ⟨[(0,r)],bs',s.lo⟩ ⟨#[v],[]⟩ w:=by
 have hre:∀u,RS {E with nt:=1,dd:=[]} {G with cl:=fF G.cl} ⟨[],s.bs,s.lo⟩ ⟨#[u],[]⟩ w:=λu=>
  hs.pw {E with nt:=1,dd:=[]} _ hs.fr rfl s.lo hE.symm hs.len hs.sig (λB hB=>(rC hs hB).1) rfl
 have plain:∀x v,RV G.M G.σ s.bs.length x v->RS {E with nt:=1,dd:=[]} {G with cl:=fF G.cl} ⟨[(0,x)],s.bs,s.lo⟩ ⟨#[v],[]⟩ w:=λx v hv=>(hre undef).put (k:=0) Zz hv
 have hres:(results fn a.tmps).run P w=((fn.results.toList.mapM (jF a)).run P w).andThen λvs w'=>.ok (if h:vs.length=1 then vs[0] else .tuple vs.toArray) w':=by
  have he:results fn a.tmps=(do let vs<-fn.results.mapM (jF a);Pure.pure (if h:vs.size=1 then vs[0] else .tuple vs)):=by
   unfold results;congr 2
  rw[he,Array.mapM_eq_mapM_toList];simp only[ya,Sem.run_map];generalize (fn.results.toList.mapM (jF a)).run P w=q
  cases q with
  |ok vs w'=>simp
  |halt x w'=>rfl
 unfold rT at h;split at h
 .rename_i t
  match hfr:fn.results.toList,hr with
  |[rv],hr=>
   cases rv with
   |cell q ty=>
    simp only[mP] at hr;split at hr
    .simp only[zO,yA] at hr;cases hr.1
    .cases hr
   |tmp t'=>
    simp only[mP,zO,yA,e7.slot.injEq,and_true] at hr;subst hr
    have hrun:(results fn a.tmps).run P w=.ok (a.tmps.getD t' undef) w:=by
     rw[hres,hfr];simp[jF,List.mapM_cons]
    refine⟨a.tmps.getD t' undef,s.get t',s.bs,?_⟩
    by_cases hown:∃z l,s.get t'=.sl (.own z) l
    .obtain ⟨z,l,hg⟩:=hown;have hat:=yp hg;obtain⟨ad,k,hval,hz,hcl⟩:=hs.own _ _ _ hat;have hv:=hs.val _ _ hat;simp only[AV.aG] at hv;obtain⟨ad2,k2,B,off,hsv⟩:=hv.sv hz;have:=hsv.eq;rw[hval] at this;cases this
     have hroom:Room {E with nt:=1,dd:=[]} {G with cl:=fF G.cl} ⟨[],s.bs,s.lo⟩ w ad z l.length k:=by
      rcases hcl with hcl|⟨B1,hc1,hc2,hrow⟩
      .exact .inl hcl
      .refine .inr ⟨B1,.sl 0,hc2,⟨⟨hrow.lt,hrow.cells,hrow.free,hrow.mine⟩,λq hq=>?_,λb cs hb=>hs.clbox _ B1 hc1 b cs hb,(hs.cllt _ B1 hc1).1,λz' l' e=>by simp[St.at,aq] at e,λb j e=>by cases e⟩⟩
       cases q with
       |sl t=>cases hq
       |bx b j=>have:=hs.clinj _ _ B1 hc1 hq;cases this
     obtain⟨G',h3⟩:=(hre undef).C0 (d:=0) Zz hsv hroom;refine⟨G',hrun,h,?_⟩;rw[hg];exact h3
    .refine ⟨_,hrun,h,plain _ _ ?_⟩;have:=hs.KH t'
     have hd:(s.get t').aG=s.get t':=by
      generalize hg:s.get t'=g at*
      cases g with
      |sl c l=>cases c with
       |own z=>exact absurd ⟨z,l,rfl⟩ hown
       |_=>rfl
      |_=>rfl
     rwa [hd] at this
  |[],hr=>simp[mP] at hr
  |rv::rv2::rvs,hr=>
   obtain⟨r,rs',e,_,h2⟩:=iq hr;obtain⟨r2,rs2,e2,_,_⟩:=iq h2;rw[e2] at e;cases e
 .rename_i r hnot
  match hfr:fn.results.toList,hr with
  |[rv],hr=>
   obtain⟨x,v,h3,h4,h5⟩:=AG (P:=P) hs hr h;refine⟨v,x,s.bs,_,?_,h3,plain x v h4⟩;rw[hres,hfr];have h5':(jF a rv).run P w=.ok v w:=h5
   simp[List.mapM_cons,h5']
  |[],hr=>simp[mP] at hr
  |rv::rv2::rvs,hr=>
   obtain⟨r,rs',e,_,h2⟩:=iq hr;obtain⟨r2,rs2,e2,_,_⟩:=iq h2;rw[e2] at e;cases e
 .rename_i hn1 hn2;obtain⟨xs,vs,h3,h4,h5,h6,h7⟩:=vP (P:=P) hs hr h
  have hlen:vs.length≠1:=λe=>by
   match hfr:fn.results.toList,hr with
   |[],hr=>rw[hfr] at h7;simp at h7;omega
   |[rv],hr=>
    obtain⟨r,rs',e,_,h2⟩:=iq hr;cases h2
    exact hn2 r e
   |rv::rv2::rvs,hr=>rw[hfr] at h7;simp at h7;omega
  refine⟨.tuple vs.toArray,.tup xs,s.bs,_,?_,h3,plain _ _ (.tup xs vs h4 h5)⟩;rw[hres,h6];simp[hlen]
end
theorem Sem.of{P:Program}{f:FuncId}{fn:Func}{c:Code}{rc:RC}{keeps:List (Nat×List Nat)}{solo:List (Nat×Nat)}{rs:List e7}(hf:P.funcs[f]? =some fn)(hb:fn.body=some c)(hm:P.follows .mixedOrders=true)(hc:fg P fn.ntmps keeps solo true c=some rc)(hr:mP P fn.results.toList=some rs)
  {ae:List AV} {bs:List Box} {Q:AV->List Box->Prop} (hn:ae.length<=fn.ntmps) (h:rc.wp P ⟨params 0 ae,bs,bs.length⟩ λx s=>∃s',au s s'/\Lh rs Q x s'):Sem P f ae bs Q:=by
 intro E G a0 w args lo hpre hl hv;refine(callsIn_wide (n:=0)).1 (callsIn_of_wp_marks (F:=F0 none) hf hb trivial ?_);have h1:=hpre.enter hl hv hn;refine wpIn_mono (WP.rD (Cc hm hc h) (bB G bs w fn.ntmps) _ _ w none 0 h1 ⟨rfl,λ_=>rfl⟩) ?_;rintro e a' w' ⟨x,s',G',rfl,q,hs'⟩
 have fin:rT s' rs Q->LeavesInM (F0 none) 0 P fn a'.tmps (λe w'=>∃v r bs' G',e=.returned v/\Q r bs'/\RS (bB G bs w 1) G' ⟨[(0,r)],bs',bs.length⟩ ⟨#[v],[]⟩ w') a'.defers .returning w':=λq=>by
  refine hs'.leaves rfl _ rfl λw2 h2=>?_;obtain⟨v,r,bs',G2,h3,h4,h5⟩:=h2.leave h2.lo.symm hr q;have hlo:s'.lo=bs.length:=hs'.lo;rw[hlo] at h5;exact⟨v,h3,v,r,bs',G2,rfl,h4,h5⟩
 cases x with
 |normal=>exact fin q
 |ret=>exact fin q
 |exit id=>exact q.elim
theorem Sem.pure{P:Program}{f:FuncId}{ae:List AV}{Q:AV->Prop}(h:Sem P f ae [] λr _=>Q r)(hvals:∀x∈ae,x.lt 0=true)(hQ:∀r,Q r->r.lt 0=true)(bs:List Box):Sem P f ae bs λr bs'=>Q r/\bs'=bs:=by
 intro E G a0 w args lo hpre hl hv
 have h0:RS ⟨λ_=>False,G.M,w,0,0,G.σ,[]⟩ ⟨G.M,G.σ,λ_=>none⟩ ⟨[],[],0⟩ ⟨#[],[]⟩ w:=by
  have hat:∀p x,(⟨[],[],0⟩:St).at p=some x->False:=λp x hp=>by
   cases p with
   |sl t=>simp[St.at,aq] at hp
   |bx b j=>simp[St.at,aa] at hp
  have hbx:∀b cs,aa ([]:List Box) b=some cs->False:=λb cs hb=>by simp[aa] at hb
  exact⟨Fr.refl _ _ _ hpre.fr.kn,hpre.ok,rfl,λp x hp=>(hat p x hp).elim,λb j x hp=>(hat _ x hp).elim,λb cs hb=>(hbx b cs hb).elim,λb cs hb=>(hbx b cs hb).elim,λb b' cs cs' hb _ _=>(hbx b cs hb).elim,λp z l hp=>(hat p _ hp).elim,(λp q B hp=>by cases hp),(λp B hp=>by cases hp),(λp B hp=>by cases hp),rfl,zG _,(λb hb=>by cases hb),Sp.none _ _ _ _ _ _⟩
 refine(h _ _ _ w args 0 h0 hl (λj hj v hjv=>?_)).mono ?_
 .exact ((hv j hj v hjv).lt (hvals _ (zd hj))).mono (Hp.le_refl _) (zG _) (λ_ _=>rfl)
 .rintro e w' ⟨v,r,bs',G',rfl,hq,h'⟩;refine⟨v,r,bs,⟨G'.M,G.σ,λp=>match p with|.sl 0=>G'.cl (.sl 0)|.sl _=>none|.bx b j=>G.cl (.bx b j)⟩,rfl,⟨hq,rfl⟩,?_⟩
  have hno:∀B,¬eA ⟨G.M,G.σ,λ_=>none⟩ [] B:=λB hB=>by
   rcases hB with ⟨b,cs,hb,_⟩|⟨b,j,hb⟩|⟨b,x,hb,_⟩
   .simp [aa] at hb
   .cases hb
   .exact ej hb
  have hfr:Fr (eA ⟨G.M,G.σ,λ_=>none⟩ []) G.M w G'.M w':=h'.fr;have hat0:(⟨[(0,r)],bs',([]:List Box).length⟩:St).at (.sl 0)=some r:=rfl
  have hnew:∀q B,G'.cl q=some B->w.heap.size<=B:=λq B hB=>by
   rcases(h'.cllt q B hB).2 with h1|h1
   .exact absurd h1 (hno B)
   .exact h1
  have hatc:∀p x,(⟨[(0,r)],bs,bs.length⟩:St).at p=some x->(p=.sl 0/\x=r)\/(∃b j,p=.bx b j/\(⟨[],bs,lo⟩:St).at (.bx b j)=some x):=λp x hp=>by
   cases p with
   |sl t=>
    simp only[St.at,aq] at hp;split at hp
    .rename_i hb;have:=zP hb;subst this;cases hp;exact .inl ⟨rfl,rfl⟩
    .cases hp
   |bx b j=>exact .inr ⟨b,j,rfl,hp⟩
  have hbv:∀b j x,(⟨[],bs,lo⟩:St).at (.bx b j)=some x->aw G.σ ⟨#[v],[]⟩ w' (.bx b j)=aw G.σ a0 w (.bx b j):=λb j x hx=>by
   simp only[St.at] at hx
   cases hb:aa bs b with
   |none=>rw[hb] at hx;cases hx
   |some cs=>simp only[aw];rw[bD (hfr.heap _ (hpre.blt hb) (hno _))]
  have hrv:RV G'.M G.σ bs.length r.aG v:=by
   have h1:=h'.val _ _ hat0;have h2:=h1.lt (m:=0) (by rw[tM];exact hQ r hq)
   exact h2.mono (Hp.le_refl _) (zJ _) (λb hb=>by cases hb)
  refine⟨⟨hfr.os,hfr.tape,hfr.output,hfr.size,hfr.le,λB hB _=>hfr.heap B hB (hno B),λB hB _=>hfr.mem B hB (hno B),hfr.kn⟩,h'.ok,rfl,λp x hp=>?_,λb j x hp=>?_,λb cs hb=>?_,λb cs hb=>?_,hpre.inj,λp z l hp=>?_,λp q B hp hq'=>?_,λp B hB b cs hb=>?_,λp B hB=>?_,rfl,zG _,λ_ _=>rfl,?_⟩
  .rcases hatc p x hp with ⟨rfl,rfl⟩|⟨b,j,rfl,hx⟩
   .exact hrv
   .show RV G'.M G.σ bs.length x.aG _;rw[hbv b j x hx];exact(hpre.val _ _ hx).mono hfr.le (zG _) (λ_ _=>rfl)
  .rcases hatc _ x hp with ⟨e,_⟩|⟨b',j',e,hx⟩
   .cases e
   .cases e;show (aw G.σ _ w' _).oneCell'=true;rw[hbv b j x hx];exact hpre.one _ _ _ hx
  .obtain ⟨vs,T,h1,h2⟩:=hpre.box b cs hb;exact⟨vs,T,(hfr.heap _ (hpre.blt hb) (hno _)).trans h1,h2⟩
  .obtain ⟨h1,_⟩:=hpre.bmem b cs hb;exact⟨λo=>(hfr.mem _ (hpre.blt hb) (hno _) o).trans (h1 o),.inl (.inl ⟨b,cs,hb,rfl⟩)⟩
  .rcases hatc p _ hp with ⟨rfl,hx⟩|⟨b,j,rfl,hx⟩
   .subst hx;obtain⟨ad,k,h1,h2,h3⟩:=h'.own _ _ _ hat0;refine⟨ad,k,h1,h2,?_⟩;rcases h3 with h3|⟨B,hB,h4,h5⟩
    .exact .inl h3
    .exact .inr ⟨B,hB,h4,h5.lt,h5.cells,h5.free,.inr (hnew _ B hB)⟩
   .obtain ⟨ad,k,h1,h2,h3⟩:=hpre.own _ _ _ hx;refine⟨ad,k,(hbv b j _ hx).trans h1,h2,?_⟩;rcases h3 with h3|⟨B,hB,h4,h5⟩
    .exact .inl h3
    .have hlt:=(hpre.cllt _ B hB).1;obtain⟨vs,T,h6,h7⟩:=h5.cells;exact .inr ⟨B,hB,h4,h5.lt,⟨vs,T,(hfr.heap B hlt (hno B)).trans h6,h7⟩,λo ho=>(hfr.mem B hlt (hno B) o).trans (h5.free o ho),.inl (.inr (.inl ⟨b,j,hB⟩))⟩
  .cases p with
   |sl t=>
    cases t with
    |zero=>
     cases q with
     |sl u=>
      cases u with
      |zero=>rfl
      |succ u=>cases hq'
     |bx b j=>
      have h1:=hnew _ B hp;have h2:=(hpre.cllt _ B hq').1
      omega
    |succ t=>cases hp
   |bx b j=>
    cases q with
    |sl u=>
     cases u with
     |zero=>
      have h1:=hnew _ B hq';have h2:=(hpre.cllt _ B hp).1
      omega
     |succ u=>cases hq'
    |bx b' j'=>exact hpre.clinj _ _ B hp hq'
  .cases p with
   |sl t=>
    cases t with
    |zero=>
     have h1:=hnew _ B hB;have h2:=hpre.blt hb;intro e;have e':G.σ b=B:=e;have h2':G.σ b<w.heap.size:=h2
     omega
    |succ t=>cases hB
   |bx b' j'=>exact hpre.clbox _ B hB b cs hb
  .cases p with
   |sl t=>
    cases t with
    |zero=>exact⟨(h'.cllt _ B hB).1,.inr (hnew _ B hB)⟩
    |succ t=>cases hB
   |bx b' j'=>exact⟨ZV (hpre.cllt _ B hB).1 hfr.size,.inl (.inr (.inl ⟨b',j',hB⟩))⟩
  .refine ⟨λB o hs=>?_,λb x hb=>?_,hpre.sp.inj,⟨[],rfl,.nil⟩,λb x hb j B o hj=>by
    obtain⟨q1,q2,q3⟩:=hpre.sp.rows b x hb j B o hj;have hlt:=(hpre.cllt _ B q2).1;exact⟨(hfr.heap B hlt (hno B)).trans q1,q2,λk=>(hfr.mem B hlt (hno B) k).trans (q3 k)⟩⟩
   .rcases hs with ⟨b,x,hb,e,ho⟩|⟨hmem,_⟩
    .obtain ⟨h1,h2,_⟩:=hpre.sp.ob B o (.inl ⟨b,x,hb,e,ho⟩);have hlt:=(zi.1 h1).1;refine⟨(hfr.heap B hlt (hno B)).trans h1,λp hp=>?_,.inl (.inr (.inr ⟨b,x,hb,e⟩))⟩
     cases p with
     |sl t=>
      cases t with
      |zero=>have:=hnew _ B hp;omega
      |succ t=>cases hp
     |bx b' j'=>exact h2 _ hp
    .cases hmem
   .obtain ⟨h1,h2,h3⟩:=hpre.sp.base b x hb;exact⟨Hp.le_trans h1 hfr.le,h2,h3⟩
theorem Fun.of{P:Program}{f:FuncId}{ae:List AV}{r:AV}(h:Sem P f ae [] λr' _=>r'=r)(hvals:ae.all (λx=>x.lt 0)=true)(hr:r.lt 0=true):Fun P f ae r:=
 Sem.pure h (by simpa using hvals) (λr' e=>by rw[e];exact hr)
theorem Sem.calls{P:Program}{f:FuncId}{ae:List AV}{Q:AV->List Box->Prop}(h:Sem P f ae [] Q){M:Hp}{w:World}(hM:M.le (Hp.of w))(hK:Kn M w){args:List Value}(hl:args.length=ae.length)(hv:∀j (h:j<ae.length) v,args[j]? =some v->FV M ae[j] v):
  Calls P f args.toArray w λe w'=>∃v r bs' M' σ n,e=.returned v/\Q r bs'/\RV M' σ n r.aG v/\Ext w w'/\M'.le (Hp.of w'):=by
 have h0:RS ⟨λ_=>False,M,w,0,0,λ_=>0,[]⟩ ⟨M,λ_=>0,λ_=>none⟩ ⟨[],[],0⟩ ⟨#[],[]⟩ w:=by
  have hat:∀p x,(⟨[],[],0⟩:St).at p=some x->False:=λp x hp=>by
   cases p with
   |sl t=>simp[St.at,aq] at hp
   |bx b j=>simp[St.at,aa] at hp
  have hbx:∀b cs,aa ([]:List Box) b=some cs->False:=λb cs hb=>by simp[aa] at hb
  exact⟨Fr.refl _ _ _ hK,hM,rfl,λp x hp=>(hat p x hp).elim,λb j x hp=>(hat _ x hp).elim,λb cs hb=>(hbx b cs hb).elim,λb cs hb=>(hbx b cs hb).elim,λb b' cs cs' hb _ _=>(hbx b cs hb).elim,λp z l hp=>(hat p _ hp).elim,(λp q B hp=>by cases hp),(λp B hp=>by cases hp),(λp B hp=>by cases hp),rfl,zG _,(λb hb=>by cases hb),Sp.none _ _ _ _ _ _⟩
 refine(h _ _ _ w args 0 h0 hl (λj hj v hjv=>.flat (hv j hj v hjv))).mono ?_;rintro e w' ⟨v,r,bs',G',rfl,hq,h'⟩
 have hno:∀B,¬eA ⟨M,λ_=>0,λ_=>none⟩ [] B:=λB hB=>by
  rcases hB with ⟨b,cs,hb,_⟩|⟨b,j,hb⟩|⟨b,x,hb,_⟩
  .simp [aa] at hb
  .cases hb
  .exact ej hb
 refine⟨v,r,bs',G'.M,G'.σ,_,rfl,hq,h'.val (.sl 0) r rfl,⟨⟨h'.fr.os,h'.fr.tape,h'.fr.output,h'.fr.size,λB hB=>h'.fr.heap B hB (hno B)⟩⟩,h'.ok⟩
end Go.AM
namespace Go.AM
open Go.CK Go.RowKit
def lits:List Nat:=[0,1,2,3,4,5,6,7,8,9,10,11,12,13,14,15,16,17,18,19,20,21,22,23,24,25,26,27,28,29,30,31,32,33,34,35,36,37,38,39,40]
def yf(n:Nat)(K:Nat->Prop):Prop:=
 match lits[n]? with
 |some m=>K m
 |none=>K n
theorem ye(n:Nat)(K:Nat->Prop):yf n K=K n:=by
 unfold yf;split
 .rename_i m h
  have:m=n:=by
   have hlt:n<lits.length:=by
    rcases zu n lits.length with h1|h1
    .exact h1
    .rw [zS h1] at h;cases h
   have hall:∀k,(hk:k<lits.length)->lits[k]=k:=by decide
   rw[zA hlt] at h;cases h;exact hall n hlt
  rw[this]
 .rfl
def f1(x:AV)(K:AV->Prop):Prop:=
 match x with
 |.top=>K .top
 |.bool b=>K (.bool b)
 |.int k n=>K (.int k n)
 |.str s=>K (.str s)
 |.sl o l=>match o with
  |.no=>K (.sl .no l)
  |.full=>K (.sl .full l)
  |.own z=>K (.sl (.own z) l)
 |.agg cs=>K (.agg cs)
 |.tup vs=>K (.tup vs)
 |.ptr b off=>yf b λb=>yf off λoff=>K (.ptr b off)
 |.cU=>K .cU
 |.ept cs=>K (.ept cs)
 |.fn f xs ys=>K (.fn f xs ys)
 |.yl b=>K (.yl b)
 |.bsl b m k=>yf b λb=>K (.bsl b m k)
 |.elp b i z off=>yf b λb=>K (.elp b i z off)
 |.mpt b=>yf b λb=>K (.mpt b)
 |.nfn=>K .nfn
 |.nmp=>K .nmp
 |.tH=>K .tH
 |.lit a n k=>K (.lit a n k)
theorem JS(x:AV)(K:AV->Prop):f1 x K=K x:=by
 cases x<;>first|(simp only[f1,ye];done)|skip
 rename_i o l;cases o<;>rfl
def fs(l:List AV)(K:List AV->Prop):Prop:=
 match l with
 |[]=>K []
 |x::xs=>f1 x λx=>fs xs λxs=>K (x::xs)
theorem HP:∀(l:List AV) (K:List AV->Prop),fs l K=K l
 |[],_=>rfl
 |x::xs,K=>by rw[fs,JS,HP xs]
def fv(x:AV)(K:AV->Prop):Prop:=
 match x with
 |.agg cs=>fs cs λcs=>K (.agg cs)
 |.tup cs=>fs cs λcs=>K (.tup cs)
 |.ept cs=>fs cs λcs=>K (.ept cs)
 |.fn f xs ys=>fs xs λxs=>fs ys λys=>K (.fn f xs ys)
 |x=>f1 x K
theorem BE(x:AV)(K:AV->Prop):fv x K=K x:=by
 cases x<;>simp only[fv,HP,JS]
def fvs(l:List AV)(K:List AV->Prop):Prop:=
 match l with
 |[]=>K []
 |x::xs=>fv x λx=>fvs xs λxs=>K (x::xs)
theorem HJ:∀(l:List AV) (K:List AV->Prop),fvs l K=K l
 |[],_=>rfl
 |x::xs,K=>by rw[fvs,BE,HJ xs]
def fvq(x:AV)(K:AV->Prop):Prop:=
 match x with
 |.ptr b off=>K (.ptr b off)
 |.bsl b m k=>K (.bsl b m k)
 |.elp b i z off=>K (.elp b i z off)
 |.mpt b=>K (.mpt b)
 |.fn f xs ys=>K (.fn f xs ys)
 |x=>fv x K
theorem HO(x:AV)(K:AV->Prop):fvq x K=K x:=by
 cases x<;>simp only[fvq,BE]
def FD(l:List AV)(K:List AV->Prop):Prop:=
 match l with
 |[]=>K []
 |x::xs=>fvq x λx=>FD xs λxs=>K (x::xs)
theorem pY:∀(l:List AV) (K:List AV->Prop),FD l K=K l
 |[],_=>rfl
 |x::xs,K=>by rw[FD,HO,pY xs]
def fvn(fb:Bool)(x:AV)(K:AV->Prop):Prop:=
 match fb with
 |true=>fv x K
 |false=>fvq x K
theorem KJ(fb:Bool)(x:AV)(K:AV->Prop):fvn fb x K=K x:=by
 cases fb
 .simp only[fvn,HO]
 .simp only[fvn,BE]
def DD(fb:Bool)(e:List (Nat×AV))(K:List (Nat×AV)->Prop):Prop:=
 match e with
 |[]=>K []
 |(t,x)::r=>fvn fb x λx=>DD fb r λr=>K ((t,x)::r)
theorem p8(fb:Bool):∀(e:List (Nat×AV)) (K:List (Nat×AV)->Prop),DD fb e K=K e
 |[],_=>rfl
 |(t,x)::r,K=>by rw[DD,KJ,p8 fb r]
def fBs(e:List Box)(K:List Box->Prop):Prop:=
 match e with
 |[]=>K []
 |.cells cs::r=>fs cs λcs=>fBs r λr=>K (.cells cs::r)
 |.dead::r=>fBs r λr=>K (.dead::r)
 |.loop x::r=>fBs r λr=>K (.loop x::r)
 |.row x::r=>fBs r λr=>K (.row x::r)
 |.mp x::r=>fBs r λr=>K (.mp x::r)
 |.mq x c::r=>fBs r λr=>K (.mq x c::r)
 |.tab x::r=>fBs r λr=>K (.tab x::r)
theorem iY:∀(e:List Box) (K:List Box->Prop),fBs e K=K e
 |[],_=>rfl
 |.cells cs::r,K=>by rw[fBs,HP,iY r]
 |.dead::r,K=>by rw[fBs,iY r]
 |.loop x::r,K=>by rw[fBs,iY r]
 |.row x::r,K=>by rw[fBs,iY r]
 |.mp x::r,K=>by rw[fBs,iY r]
 |.mq x c::r,K=>by rw[fBs,iY r]
 |.tab x::r,K=>by rw[fBs,iY r]
def St.fo(fb:Bool)(s:St)(K:St->Prop):Prop:=match s with
 |⟨e,bs,lo⟩=>DD fb e λe=>match fb with
  |true=>fBs bs λbs=>yf lo λlo=>K ⟨e,bs,lo⟩
  |false=>K ⟨e,bs,lo⟩
theorem St.cX(fb:Bool)(s:St)(K:St->Prop):s.fo fb K=K s:=by
 cases fb<;>simp only[St.fo,p8,iY,ye]
structure ah(P:Program)(f:FuncId)(ae raw:List AV)(bs:List Box)(K:AV->List Box->Prop):Prop where
 sem:∃Q,(Sem P f ae bs Q\/Sem P f raw bs Q)/\∀r bs',Q r bs'->K r bs'
theorem ah.of{P:Program}{f:FuncId}{ae raw:List AV}{bs:List Box}{K:AV->List Box->Prop}{Q:AV->List Box->Prop}(h:Sem P f ae bs Q)(hK:∀r bs',Q r bs'->K r bs'):ah P f ae raw bs K:=⟨Q,.inl h,hK⟩
theorem ah.raw{P:Program}{f:FuncId}{ae raw:List AV}{bs:List Box}{K:AV->List Box->Prop}{Q:AV->List Box->Prop}(h:Sem P f raw bs Q)(hK:∀r bs',Q r bs'->K r bs'):ah P f ae raw bs K:=⟨Q,.inr h,hK⟩
theorem ah.fn{P:Program}{f:FuncId}{ae raw:List AV}{bs:List Box}{K:AV->List Box->Prop}{r:AV}(h:Fun P f ae r)(hK:K r bs):ah P f ae raw bs K:=⟨_,.inl (h bs),λr' bs' ⟨e1,e2⟩=>by subst e1 e2;exact hK⟩
structure bO(P:Program)(f:FuncId)(ae:List AV)(K:AV->Prop):Prop where
 sem:∃r,Fun P f ae r/\K r
theorem bO.fn{P:Program}{f:FuncId}{ae:List AV}{K:AV->Prop}{r:AV}(h:Fun P f ae r)(hK:K r):bO P f ae K:=⟨r,h,hK⟩
structure uZ(P:Program)(b:Nat)(ae:List AV)(bs:List Box)(K:AV->List Box->Prop):Prop where
 sem:∃Q,my P b ae bs Q/\∀r bs',Q r bs'->K r bs'
theorem uZ.of{P:Program}{b:Nat}{ae:List AV}{bs:List Box}{K:AV->List Box->Prop}{Q:AV->List Box->Prop}(h:my P b ae bs Q)(hK:∀r bs',Q r bs'->K r bs'):uZ P b ae bs K:=⟨Q,h,hK⟩
def St.pt(s:St)(d:Option Nat)(x:AV):St:=match s with
 |⟨e,bs,lo⟩=>match d with
  |some k=>⟨aM e k x,bs,lo⟩
  |none=>⟨e,bs,lo⟩
theorem St.om(s:St)(d:Option Nat)(x:AV):s.pt d x=s.put d x:=by cases s;cases d<;>rfl
def St.kp(s:St)(ks:List Nat):St:=match s with
 |⟨e,bs,lo⟩=>⟨eR (λk=>mem k ks) e,bs,lo⟩
def St.wb(s:St)(bs':List Box):St:=match s with
 |⟨e,_,lo⟩=>⟨e,bs',lo⟩
theorem St.DY(s:St)(bs':List Box):s.wb bs'=⟨s.env,bs',s.lo⟩:=by cases s;rfl
def fsq(l:List AV)(K:List AV->Prop):Prop:=FD l K
theorem Dy(l:List AV)(K:List AV->Prop):fsq l K=K l:=pY l K
def uJ(P:Program)(dr:Bool)(s:St)(d:Option Nat)(f:AV)(args:List AV)(K:St->Prop):Prop:=
 match f with
 |.fn (.func f) xs ys=>FD ((xs++args++ys).map AV.norm) λae=>match dr with
  |true=>bO P f ae λr=>K (s.pt d r)
  |false=>match s with
   |⟨e,bs,lo⟩=>ah P f ae (xs++args++ys) bs λr bs'=>K (St.pt ⟨e,bs',lo⟩ d r)
 |.yl b=>match dr with
  |true=>False
  |false=>FD (args.map AV.norm) λae=>match s with
   |⟨e,bs,lo⟩=>uZ P b ae bs λr bs'=>K (St.pt ⟨e,bs',lo⟩ d r)
 |_=>False
theorem uI{P:Program}{dr:Bool}{s:St}{d:Option Nat}{f:AV}{args:List AV}{K:St->Prop}:uJ P dr s d f args K=(match dr with
  |true=>fp P f args λr=>K (s.put d r)
  |false=>jx P s d f args K):=by
 cases dr with
 |true=>
  cases f<;>try rfl
  rename_i f xs ys;cases f<;>try rfl
  simp only[uJ,fp,pY,St.om]
  exact propext ⟨λh=>h.sem,λh=>⟨h⟩⟩
 |false=>
  cases f<;>try rfl
  .rename_i f xs ys;cases f<;>try rfl
   simp only[uJ,jx,pY,St.om,St.DY];exact propext ⟨λh=>h.sem,λh=>⟨h⟩⟩
  .simp only[uJ,jx,pY,St.om,St.DY];exact propext ⟨λh=>h.sem,λh=>⟨h⟩⟩
structure JF(s:St)(rs:List e7)(Q:AV->List Box->Prop):Prop where
 out:∃s',au s s'/\rT s' rs Q
structure az(s t:St):Prop where
 out:au s t
end Go.AM
namespace Go.AM
open Go.CK Go.RowKit
structure K9(s:St)(e:AX)(J:AX->List Box->Prop):Prop where
 out:∃s3 own,au s s3/\s3.bs=own++[.dead]/\J e own
theorem az.KP{s t:St}(b off z:Nat){l:List AV}(h0:s.at (.bx b off)=some (.sl .full l))(hz:∀y∈l,y.cells.length=z)(h:az (s.upd (.bx b off) (.sl (.own z) l)) t):az s t:=
 ⟨au.trans (λ_ G _ _ hs=>⟨G,hs.aV h0 hz⟩) h.out⟩
theorem kz{own:List Box}{n:Nat}(h:own.length=n)(x y:Box):(own++[x]).set n y=own++[y]:=by
 subst h;simp
end Go.AM
