/-
  By an AI agent.
-/
import Derived.Test.YtcjfkbdbcgmomaaGreatDoorQan
set_option linter.unusedSimpArgs false
set_option linter.unusedVariables false
namespace Go.AM
open Go.CK Go.RowKit
inductive RC where
 |skip
 |reg (dr:Bool) (keep:List Nat) (ops:List ROp)
 |solo (p:Nat) (keep:List Nat) (ops:List ROp)
 |mult (keep:List Nat) (ops:List (Nat×ROp))
 |both (keep:List Nat) (qa q1 q2:List (Nat×ROp))
 |seq (a b:RC)
 |cond (c:Opd) (a b:RC)
 |block (id:Nat) (c:RC)
 |loop (c:RC)
 |range (g:Opd) (ps:List Nat) (a b:RC)
 |exit (id:Nat)
 |ret
deriving Inhabited
def mem(k:Nat):List Nat->Bool
 |[]=>false
 |x::xs=>match Nat.beq x k with
  |true=>true
  |false=>mem k xs
def St.keep(s:St)(a:List Nat):St:=⟨eF (λk=>mem k a) s.env,s.bs,s.lo⟩
theorem aD.keep(s:St)(d:List Nat):aD s (s.keep d):=λE G a w hs=>by
 have c:∀p x,(s.keep d).at p=some x->s.at p=some x:=λp x hp=>by
  cases p with
  |sl t=>exact(nU _ _ _ _ hp).1
  |bx b j=>exact hp
 exact⟨G,hs.fr,hs.ok,hs.nt,λp x hp=>hs.val p x (c p x hp),λb j x hp=>hs.one b j x (c _ x hp),hs.box,hs.bmem,hs.inj,λp z l hp=>hs.own p z l (c p _ hp),hs.clinj,hs.clbox,hs.cllt,hs.lo,hs.len,hs.sig,hs.sp⟩
def JI(a b:St->(AX->St->Prop)->Prop)(x:LB)(env:List (Nat×AV))(n:Nat)(ps:List Nat)(y:List AV)(bs:List Box)(R:AV->List Box->Prop):Prop:=
 a ⟨j5 env ps y,bs,bs.length⟩ λe s1=>match e with
  |.normal=>ah s1.bs n=some x/\b ⟨s1.env,s1.bs.set n .dead,s1.lo⟩ λe s2=>∃c,aD s2 c/\um x n R e c
  |_=>False
def RC.wp(P:Program):RC->St->(AX->St->Prop)->Prop
 |.skip,s,Q=>Q .normal s
 |.reg n keep ops,s,Q=>AO P n ops s λd=>Q .normal (d.keep keep)
 |.solo p keep ops,s,Q=>uc P p 0 ops s λd=>Q .normal (d.keep keep)
 |.mult keep ops,s,Q=>iV P (iY ops) ops s λd=>Q .normal (d.keep keep)
 |.both keep h j i,s,Q=>iV P (aX h j i) h s λk=>iV P (aX h j i) j k (λd=>Q .normal (d.keep keep))/\iV P (aX h j i) i k (λd=>Q .normal (d.keep keep))
 |.seq a b,s,Q=>a.wp P s (oS (λd=>b.wp P d Q) Q)
 |.cond c a b,s,Q=>match s.ev c with
  |.bool t=>(t=true->a.wp P s Q)/\(t=false->b.wp P s Q)
  |_=>False
 |.block id c,s,Q=>c.wp P s (wu id Q)
 |.loop c,s,Q=>∃(I:Nat->St->Prop) (m:Nat) (e:St),aD s e/\I m e/\∀m s,I m s->c.wp P s (oS (λd=>∃l f,l<m/\aD d f/\I l f) Q)
 |.range g ps a b,s,Q=>∃e,aD s e/\match e.ev g with
  |.fn (.func gf) [] lb=>dQ P gf=true/\∀x:LB,(∀y bs R,ah bs e.bs.length=some x->y.length=ps.length->JI (λs Q=>a.wp P s Q) (λs Q=>b.wp P s Q) x (eH e.env) e.bs.length ps y bs R->mB P e.bs.length y bs R)->
    ∃QQ,Sem P gf ((.yl e.bs.length::lb).map AV.norm) (e.bs++[.loop x]) QQ/\∀r bs',QQ r bs'->Ll x e bs' Q
  |_=>False
 |.exit id,s,Q=>Q (.exit id) s
 |.ret,s,Q=>Q .ret s
def cc(id:Nat):List (Nat×List Nat)->List Nat
 |[]=>[]
 |(i,l)::r=>match Nat.beq i id with
  |true=>l
  |false=>cc id r
def Jv(id:Nat):List (Nat×Nat)->Option Nat
 |[]=>none
 |(i,p)::r=>match Nat.beq i id with
  |true=>some p
  |false=>Jv id r
def NB(o:Oper):List Nat:=match o.op with
 |.call {callee:=.builtin .append,.. }|.call {callee:=.value _,.. }|.makeSlice .. =>o.dst.toList
 |_=>[]
def NA(o:Oper):List Nat:=match o.op with
 |.call {callee:=.builtin .append,args:=⟨.tmp t::_⟩,.. }=>[t]
 |_=>[]
def Gk(ops:Array Oper)(d t:Nat):Bool:=ops.toList.any (λo=>(NB o).contains t)||ops.toList.any λo=>(NA o).contains d
def hk(keeps:List (Nat×List Nat))(a:Nat->Nat->Bool)(d t:Nat):Bool:=match Nat.beq d t with
 |true=>(cc 1000000 keeps).contains d
 |false=>a d t
def OW:RC:=.cond (.c .top) .skip .skip
def eW(P:Program)(nt:Nat)(keeps:List (Nat×List Nat))(solo:List (Nat×Nat))(fl:Bool):Code->Option RC
  |.skip=>some .skip
  |.label _=>some .skip
  |.region id ops h=>match (cc 1000001 keeps).contains id with
   |true=>some OW
   |false=>match h with
    |false=>match qX P nt (hk keeps λ_ _=>false) ops ops.toList with
      |some rs=>some (.reg false (cc id keeps) rs)
      |none=>none
    |true=>match cc (4000000+id) keeps with
     |x::y::A=>match qX P nt (hk keeps (Gk ops)) ops ops.toList with
      |some rs=>match Bu ops rs (cc (3000000+id) keeps) A x y (cc (5000000+id) keeps) (cc (6000000+id) keeps),cH rs (cc (3000000+id) keeps) A,cH rs (cc (3000000+id) keeps) (x::cc (5000000+id) keeps),cH rs (cc (3000000+id) keeps) (y::cc (6000000+id) keeps) with
        |true,some d,some f,some e=>some (.both (cc id keeps) d f e)
        |_,_,_,_=>none
      |none=>none
     |_=>match cc (2000000+id) keeps with
     |i0::pi=>match qX P nt (hk keeps (Gk ops)) ops ops.toList with
      |some rs=>match x5 ops rs (i0::pi) (cc (3000000+id) keeps),cH rs (cc (3000000+id) keeps) (i0::pi) with
        |true,some q=>some (.mult (cc id keeps) q)
        |_,_=>none
      |none=>none
     |[]=>
      match Jv id solo with
      |some p=>match qX P nt (hk keeps (Gk ops)) ops ops.toList with
       |some rs=>if r7 ops rs p then some (.solo p (cc id keeps) rs) else none
       |none=>none
      |none=>match qX P nt (hk keeps λ_ _=>true) ops ops.toList with
       |some rs=>if qP ops rs then some (.reg true (cc id keeps) rs) else match qX P nt (hk keeps (Gk ops)) ops ops.toList with
         |some rs=>if qP ops rs then some (.reg true (cc id keeps) rs) else none
         |none=>none
       |none=>none
  |.seq a b=>match eW P nt keeps solo fl a,eW P nt keeps solo fl b with
    |some a,some b=>some (.seq a b)
    |_,_=>none
  |.cond c a b=>match opd c,eW P nt keeps solo fl a,eW P nt keeps solo fl b with
    |some c,some a,some b=>some (.cond c a b)
    |_,_,_=>none
  |.block id c=>match eW P nt keeps solo fl c with
    |some c=>some (.block id c)
    |none=>none
  |.loop c=>match eW P nt keeps solo fl c with
    |some c=>some (.loop c)
    |none=>none
  |.rangeFunc g ps a b=>match fl with
    |true=>match opd g,eW P nt keeps solo false a,eW P nt keeps solo false b with
      |some g,some a,some b=>if ps.toList.all (λp=>Nat.blt p nt) then some (.range g ps.toList a b) else none
      |_,_,_=>none
    |false=>none
  |.scope c=>eW P nt keeps solo fl c
  |.exit id=>some (.exit id)
  |.ret=>some .ret
  |_=>none
theorem pd{K K':St->Prop}{Q:AX->St->Prop}(h:∀s,K s->K' s):∀x s,oS K Q x s->oS K' Q x s:=λx s a=>by
 cases x with
 |normal=>exact h s a
 |exit id=>exact a
 |ret=>exact a
theorem DI{P:Program}{nt:Nat}{keeps:List (Nat×List Nat)}{solo:List (Nat×Nat)}(hm:P.follows .mixedOrders=true):∀{c:Code} {fl:Bool} {r:RC},eW P nt keeps solo fl c=some r->∀{s:St} {Q:AX->St->Prop},r.wp P s Q->WP P nt fl c s Q:=by
 intro c
 induction c with
 |skip=>intro fl r d s Q h;cases d;exact WP.skip h
 |label l=>intro fl r d s Q h;cases d;exact WP.label h
 |region id ops W=>
  intro fl r d s Q h;simp only[eW] at d;split at d
  .cases d;exact h.elim
  cases W with
  |false=>
   simp only at d;split at d
   .rename_i rs j;cases d;exact WP.sD (WP.region j (ij (λi f=>⟨_,aD.keep i _,f⟩) h))
   .cases d
  |true=>
   simp only at d;split at d
   .split at d
    .rename_i rs j;split at d
     .rename_i Z q1 q2 u v B w;cases d;exact WP.sD (WP.Ch hm j u v B w (bg (λX f=>⟨bg (λi f=>⟨_,aD.keep i _,f⟩) f.1,bg (λi f=>⟨_,aD.keep i _,f⟩) f.2⟩) h))
     .cases d
    .cases d
   split at d
   .split at d
    .rename_i rs j;split at d
     .rename_i q u z;cases d;exact WP.sD (WP.Cg hm j u z (bg (λi f=>⟨_,aD.keep i _,f⟩) h))
     .cases d
    .cases d
   split at d
   .split at d
    .rename_i rs j;split at d
     .rename_i u;cases d;exact WP.sD (WP.Cf hm j u (lN (λi f=>⟨_,aD.keep i _,f⟩) h))
     .cases d
    .cases d
   .split at d
    .rename_i rs j;split at d
     .rename_i u;cases d;exact WP.sD (WP.ur hm j u (ij (λi f=>⟨_,aD.keep i _,f⟩) h))
     .split at d
      .rename_i M A;split at d
       .rename_i u;cases d;exact WP.sD (WP.ur hm A u (ij (λi f=>⟨_,aD.keep i _,f⟩) h))
       .cases d
      .cases d
    .cases d
 |seq a b n k=>
  intro fl r d s Q h;simp only[eW] at d;split at d
  .rename_i L K v hb;cases d;exact WP.seq ((n v h).mono λx i q=>pd (λs2 w=>k hb w) x i q)
  .cases d
 |cond c a b n k=>
  intro fl r d s Q h;simp only[eW] at d;split at d
  .rename_i rc L K o v hb;cases d;refine WP.cond o ?_;simp only[RC.wp] at h;split at h
   .rename_i t S;rw[S];exact⟨λe=>n v (h.1 e),λe=>k hb (h.2 e)⟩
   .exact h.elim
  .cases d
 |block id c ih=>
  intro fl r d s Q h;simp only[eW] at d;split at d
  .rename_i rc o;cases d;exact WP.block (ih o h)
  .cases d
 |loop c ih=>
  intro fl r d s Q h;simp only[eW] at d;split at d
  .rename_i rc o;cases d;obtain⟨I,m,J,D,V,hr⟩:=h;refine WP.loop (λm s=>∃i,aD s i/\I m i) ⟨J,D,V⟩ λm s ⟨i,hw,U⟩=>?_;refine WP.Oo hw ((ih o (hr m i U)).mono λx s2 q=>pd (λY ⟨N,C,B,w,H⟩=>⟨N,B,C,w,H⟩) x s2 q)
  .cases d
 |exit id=>intro fl r d s Q h;cases d;exact WP.exit h
 |ret=>intro fl r d s Q h;cases d;exact WP.ret h
 |rangeFunc g ps a b n k=>
  intro fl r d s Q h;simp only[eW] at d;split at d
  .split at d
   .rename_i rg L K T v hb;split at d
    .rename_i E;cases d;obtain⟨J,hw,h⟩:=h;refine WP.Oo hw ?_;split at h
     .rename_i gf lb F;obtain⟨G,h⟩:=h;refine WP.range T F G (λp hp=>?_) λx O=>h x λy bs R B w H=>O y bs R B (by simpa using w) ?_
      .have:=zS.1 E p hp;simpa using this
      .refine WP.mono (n v H) λe s1 z=>?_
       cases e with
       |normal=>exact⟨z.1,WP.sD (k hb z.2)⟩
       |ret=>exact z
       |exit id=>exact z
     .exact h.elim
    .cases d
   .cases d
  .cases d
 |scope c ih=>intro fl r d s Q h;exact WP.scope (ih d h)
 |goto=>intro _ r d;cases d
 |refuse=>intro _ r d;cases d
theorem RC.wp_mono{P:Program}:∀{c:RC} {s:St} {Q Q':AX->St->Prop},(∀x s,Q x s->Q' x s)->c.wp P s Q->c.wp P s Q'
 |.skip,_,_,_,d,h=>d _ _ h
 |.reg _ _ _,_,_,_,d,h=>ij (λ_ f=>d _ _ f) h
 |.solo _ _ _,_,_,_,d,h=>lN (λ_ f=>d _ _ f) h
 |.mult _ _,_,_,_,d,h=>bg (λ_ f=>d _ _ f) h
 |.both _ _ _ _,_,_,_,d,h=>bg (λ_ f=>⟨bg (λ_ f=>d _ _ f) f.1,bg (λ_ f=>d _ _ f) f.2⟩) h
 |.seq a b,s,Q,Q',d,h=>by
  refine RC.wp_mono (c:=a) (λx o f=>?_) h
  cases x with
  |normal=>exact RC.wp_mono (c:=b) d f
  |exit id=>exact d _ _ f
  |ret=>exact d _ _ f
 |.cond c a b,s,Q,Q',d,h=>by
  simp only[RC.wp] at h|-;split at h
  .exact ⟨λe=>RC.wp_mono (c:=a) d (h.1 e),λe=>RC.wp_mono (c:=b) d (h.2 e)⟩
  .exact h
 |.block id c,s,Q,Q',d,h=>by
  refine RC.wp_mono (c:=c) (λx o f=>?_) h
  cases x with
  |normal=>exact d _ _ f
  |ret=>exact d _ _ f
  |exit p=>
   simp only[wu] at f|-;split at f
   .exact d _ _ f
   .exact d _ _ f
 |.loop c,s,Q,Q',d,h=>by
  obtain⟨I,m,j,n,l,k⟩:=h;refine⟨I,m,j,n,l,λm s q=>RC.wp_mono (c:=c) (λx o f=>?_) (k m s q)⟩
  cases x with
  |normal=>exact f
  |exit id=>exact d _ _ f
  |ret=>exact d _ _ f
 |.range g ps a b,s,Q,Q',d,h=>by
  obtain⟨j,hw,h⟩:=h;refine⟨j,hw,?_⟩;split at h
  .obtain ⟨n,l⟩:=h;refine⟨n,λx f=>?_⟩;obtain⟨QQ,k,t⟩:=l x f;refine⟨QQ,k,λr bs' hr=>?_⟩;rcases t r bs' hr with ⟨i,k2⟩|⟨i,k2⟩|⟨id,i,k2⟩
   .exact .inl ⟨i,d _ _ k2⟩
   .exact .inr (.inl ⟨i,d _ _ k2⟩)
   .exact .inr (.inr ⟨id,i,d _ _ k2⟩)
  .exact h
 |.exit _,_,_,_,d,h=>d _ _ h
 |.ret,_,_,_,d,h=>d _ _ h
theorem aD.nZ(s:St)(t z:Nat)(l:List AV)(h:au s.env t=some (.sl .full l))(b:∀y∈l,y.cells.length=z):aD s (s.put (some t) (.sl (.own z) l)):=λE G a w hs=>
 ⟨G,hs.nZ (p:=.sl t) (by simp only[St.at];exact h) b⟩
theorem aD.norm(s:St)(t:Nat)(x:AV)(h:au s.env t=some x):aD s (s.put (some t) x.norm):=λE G a w hs=>by
 have b:=hs.val (.sl t) x (by simp only[St.at];exact h)
 exact⟨G,hs.upd (q:=.sl t) (by simp only[St.at];exact h) (by rw[<-FL];exact b.norm)⟩
def fO(n:Nat):List (Nat×AV)->Bool
 |[]=>true
 |(_,x)::r=>x.lt n&&fO n r
def aj(n:Nat):List Box->Bool
 |[]=>true
 |.cells cs::r=>cs.all (λx=>x.lt n)&&aj n r
 |.dead::r=>aj n r
 |.loop _::r=>aj n r
 |.row cs::r=>cs.all (λx=>x.lt n)&&aj n r
 |.mp _::r=>aj n r
 |.mq _ _::r=>aj n r
 |.tab _::r=>aj n r
theorem sc{n:Nat}:∀{e:List (Nat×AV)} {t:Nat} {x:AV},fO n e=true->au e t=some x->x.lt n=true
 |[],_,_,_,h=>by cases h
 |(k,y)::r,t,x,h,a=>by
  simp only[fO,zD] at h;simp only[au] at a;split at a
  .cases a;exact h.1
  .exact sc h.2 a
theorem bK{n:Nat}:∀{bs:List Box} {b j:Nat} {cs:List AV} {x:AV},aj n bs=true->aa bs b=some cs->cs[j]? =some x->x.lt n=true
 |[],_,_,_,_,_,h,_=>by simp[aa] at h
 |.cells ds::r,0,j,cs,x,h,hb,a=>by
  simp only[aj,zD,zS] at h;simp only[aa,Zl,Box.cs?,zN] at hb;subst hb
  exact h.1 x (zE a)
 |.row ds::r,0,j,cs,x,h,hb,a=>by
  simp only[aj,zD,zS] at h;simp only[aa,Zl,dT] at hb;split at hb
  .cases hb
  .cases hb
   exact h.1 x (zE a)
 |.dead::r,0,j,cs,x,h,hb,a=>by simp[aa,Box.cs?] at hb
 |.loop _::r,0,j,cs,x,h,hb,a=>by simp[aa,Box.cs?] at hb
 |.mp _::r,0,j,cs,x,h,hb,a=>by simp[aa,Box.cs?] at hb
 |.mq _ _::r,0,j,cs,x,h,hb,a=>by simp[aa,Box.cs?] at hb
 |.tab _::r,0,j,cs,x,h,hb,a=>by simp[aa,Box.cs?] at hb
 |.cells ds::r,b+1,j,cs,x,h,hb,a=>by
  simp only[aj,zD] at h
  exact bK (b:=b) h.2 (by simpa[aa] using hb) a
 |.row ds::r,b+1,j,cs,x,h,hb,a=>by
  simp only[aj,zD] at h
  exact bK (b:=b) h.2 (by simpa[aa] using hb) a
 |.dead::r,b+1,j,cs,x,h,hb,a=>by
  exact bK (b:=b) (by simpa[aj] using h) (by simpa[aa] using hb) a
 |.loop _::r,b+1,j,cs,x,h,hb,a=>by
  exact bK (b:=b) (by simpa[aj] using h) (by simpa[aa] using hb) a
 |.mp _::r,b+1,j,cs,x,h,hb,a=>by
  exact bK (b:=b) (by simpa[aj] using h) (by simpa[aa] using hb) a
 |.mq _ _::r,b+1,j,cs,x,h,hb,a=>by
  exact bK (b:=b) (by simpa[aj] using h) (by simpa[aa] using hb) a
 |.tab _::r,b+1,j,cs,x,h,hb,a=>by
  exact bK (b:=b) (by simpa[aj] using h) (by simpa[aa] using hb) a
theorem aD.cut(s:St)(n:Nat)(e:s.lo<=n)(h:n<=s.bs.length)(g:fO n s.env=true)(f:aj n (s.bs.take n)=true):aD s ⟨s.env,s.bs.take n,s.lo⟩:=λE G a w hs=>by
 have c:∀b cs,aa (s.bs.take n) b=some cs->aa s.bs b=some cs:=λb cs hb=>by
  simp only[aa,Za] at hb|-;split at hb
  .rename_i q d;split at d
   .rw [d];exact hb
   .cases d
  .cases hb
 refine⟨G,hs.forget (n:=n) (by simp;omega) rfl e (λp x hp=>?_) c (λb x hb=>?_)⟩
 rotate_left
 .simp only[ah,Za] at hb|-;split at hb
  .rename_i q d;split at d
   .rw [d];exact hb
   .cases d
  .cases hb
 cases p with
 |sl t=>exact⟨hp,sc g hp⟩
 |bx b j=>
  simp only[St.at] at hp|-
  cases hb:aa (s.bs.take n) b with
  |none=>rw[hb] at hp;cases hp
  |some cs=>
   rw[hb] at hp;rw[c b cs hb];exact⟨hp,bK f hb hp⟩
inductive eP where
 |slot (t:Nat)
 |cell (t:Nat) (agg:Bool) (n:Nat)
deriving Inhabited
def mX(P:Program):List ResultVar->Option (List eP)
 |[]=>some []
 |.tmp t::r=>match mX P r with
  |some rs=>some (.slot t::rs)
  |none=>none
 |.cell t ty::r=>match mX P r,od P ty,dB P ty with
  |some rs,some agg,some n=>some (.cell t agg n::rs)
  |_,_,_=>none
def ED(s:St):eP->(AV->Prop)->Prop
 |.slot t,K=>K (s.get t).aI
 |.cell t agg n,K=>bV agg n (s.rd (s.ev (.t t))) K
def Cd(s:St):List eP->(List AV->Prop)->Prop
 |[],K=>K []
 |r::rs,K=>ED s r λx=>Cd s rs λxs=>K (x::xs)
def s8(s:St)(rs:List eP)(K:AV->List Box->Prop):Prop:=
 match rs with
 |[.slot t]=>K (s.get t) s.bs
 |[r]=>ED s r λx=>K x s.bs
 |rs=>Cd s rs λxs=>K (.tup xs) s.bs
def OF(rs:List eP)(Q:AV->List Box->Prop):AX->St->Prop
 |.normal,s=>s8 s rs Q
 |.ret,s=>s8 s rs Q
 |_,_=>False
def params:Nat->List AV->List (Nat×AV)
 |_,[]=>[]
 |k,x::xs=>(k,x)::params (k+1) xs
theorem uM:∀(ab:List AV) (k t:Nat),au (params k ab) t=if k<=t then ab[t-k]? else none
 |[],k,t=>by simp[params,au]
 |x::xs,k,t=>by
  simp only[params,au]
  by_cases h:k=t
  .subst h;rw[lI];simp
  .rw [cw h];simp only;rw[uM xs (k+1) t]
   by_cases a:k<=t
   .rw [if_pos (by omega),if_pos a,show t-k=(t-(k+1))+1 by omega];simp
   .rw [if_neg (by omega),if_neg a]
section
variable{P:Program}{E:Entry}{G:Gh}{s:St}{a:Act}{w:World}
theorem RS.enter{bs:List Box}{lo:Nat}(h:RS E G ⟨[],bs,lo⟩ a w){args:List Value}{ab:List AV}(r:args.length=ab.length)(n:∀j (h:j<ab.length) v,args[j]? =some v->RV G.M G.σ bs.length ab[j] v){nt:Nat}(o:ab.length<=nt):
  RS (bR G bs w nt) {G with cl:=fq G.cl} ⟨params 0 ab,bs,bs.length⟩ {tmps:=args.toArray++Array.replicate (nt-args.toArray.size) undef,defers:=[]} w:=by
 have c:=h.sI (bR G bs w nt) {tmps:=args.toArray++Array.replicate (nt-args.toArray.size) undef,defers:=[]} (Fr.refl _ _ _ h.fr.kn) (by simp[bR];omega) bs.length rfl (zG _) (λ_ _=>rfl) (λB hB=>.inl hB) rfl
 have i:∀p x,(⟨params 0 ab,bs,bs.length⟩:St).at p=some x->(∃t,p=.sl t/\ab[t]? =some x)\/(∃b j,p=.bx b j/\(⟨[],bs,bs.length⟩:St).at (.bx b j)=some x):=λp x hp=>by
  cases p with
  |sl t=>
   simp only[St.at,uM] at hp;rw[if_pos (zJ _),yB] at hp
   exact .inl ⟨t,rfl,hp⟩
  |bx b j=>exact .inr ⟨b,j,rfl,hp⟩
 have f:∀t x,ab[t]? =some x->RV G.M G.σ bs.length x ((args.toArray++Array.replicate (nt-args.toArray.size) undef).getD t undef):=λt x d=>by
  have m:t<ab.length:=by
   rcases zt t ab.length with k|k
   .exact k
   .rw [zR k] at d;cases d
  rw[zA m] at d;cases d;have g:t<args.length:=by omega
  refine n t m _ ?_;rw[zA g]
  have:(args.toArray++Array.replicate (nt-args.toArray.size) undef)[t]? =some args[t]:=by
   rw[Array.getElem?_append_left (by simpa using g)]
   simp[g]
  simp only[zT,this,ZS]
 refine⟨c.fr,c.ok,c.nt,λp x hp=>?_,λb j x hp=>?_,c.box,c.bmem,c.inj,λp z l hp=>?_,c.clinj,c.clbox,c.cllt,c.lo,c.len,c.sig,c.sp⟩
 .rcases i p x hp with ⟨t,rfl,d⟩|⟨b,j,rfl,d⟩
  .have:=f t x d;rw[this.cr];exact this
  .exact c.val _ _ d
 .rcases i _ x hp with ⟨t,e,_⟩|⟨s,q,e,d⟩
  .cases e
  .cases e;exact c.one _ _ _ d
 .rcases i p _ hp with ⟨t,rfl,d⟩|⟨b,j,rfl,d⟩
  .have:=(f t _ d).cr;simp[AV.aI] at this
  .exact c.own _ _ _ d
def jL(a:Act)(rv:ResultVar):Go.Sem Value:=match rv with
 |.tmp t=>Pure.pure (a.tmps.getD t undef)
 |.cell q ty=>do loadVar ty (<-asAddr (a.tmps.getD q undef))
theorem Ce(hs:RS E G s a w){rv:ResultVar}{r:eP}(hr:mX P [rv]=some [r]){K:AV->Prop}(h:ED s r K):
  ∃x v,K x/\RV G.M G.σ s.bs.length x v/\(jL a rv).run P w=.ok v w:=by
 cases rv with
 |tmp t=>
  simp only[mX,zN,Zx,and_true] at hr;subst hr
  exact⟨_,_,h,hs.NX t,rfl⟩
 |cell q ty=>
  simp only[mX] at hr;split at hr
  .rename_i rs agg n y p z;simp only[zN,Zx] at hr;obtain⟨rfl,rfl⟩:=hr;simp only[ED] at h;unfold bV at h;split at h
   .rename_i cs f;have m:=hs.ev (o:=.tmp q) (r:=.t q) rfl;split at h
    .obtain ⟨b,i⟩:=af.1 h;have hle:=zr b;obtain⟨B,off,d,g⟩:=hs.rd m f;simp only[Act.eval] at d;have e:=gj P w B off n (λj k=>let ⟨u,h,_⟩:=g j (by omega);⟨u,h⟩)
     refine⟨_,.agg (ct w B off n).toArray,i,?_,?_⟩
     .refine .agg _ _ (by simp[ct];omega) (λu hu=>?_) (λj k u hu=>?_)
      .simp only[ct,zk,zd] at hu;obtain⟨j,k,rfl⟩:=hu;obtain⟨u,b,i,_⟩:=g j (by omega)
       rw[b];exact i
      .simp only[zn] at k;obtain⟨A,b,i,l⟩:=g j (by omega)
       simp[ct,show j<n by omega,b] at hu
       subst hu;rw[Zp];exact l
     .simp only[jL];simp[d,asAddr,loadVar,dy p,aR z,e]
    .split at h
     .rename_i c rest;obtain⟨B,off,d,g⟩:=hs.rd m f;simp only[Act.eval] at d;obtain⟨u,b,_,l⟩:=g 0 (by simp)
      rw[Zf] at b;exact⟨_,u,h,l,by simp only[jL];simp[d,asAddr,loadVar,dy p,b]⟩
     .exact h.elim
   .exact h.elim
  .cases hr
theorem im{rv:ResultVar}{c:List ResultVar}{rs:List eP}(h:mX P (rv::c)=some rs):∃r a,rs=r::a/\mX P [rv]=some [r]/\mX P c=some a:=by
 cases rv with
 |tmp t=>
  simp only[mX] at h|-;split at h
  .rename_i a b;cases h;exact⟨_,_,rfl,rfl,b⟩
  .cases h
 |cell q ty=>
  simp only[mX] at h|-;split at h
  .rename_i a agg n b e d;cases h;exact⟨_,_,rfl,by simp[e,d],b⟩
  .cases h
theorem xC(hs:RS E G s a w):∀{b:List ResultVar} {rs:List eP},mX P b=some rs->∀{K:List AV->Prop},Cd s rs K->
  ∃xs vs,K xs/\vs.length=xs.length/\(∀j (h:j<xs.length) v,vs[j]? =some v->RV G.M G.σ s.bs.length xs[j] v)/\(b.mapM (jL a)).run P w=.ok vs w/\b.length=xs.length
 |[],rs,hr,K,h=>by
  cases hr
  exact⟨[],[],h,rfl,(λj h=>by cases h),by simp,rfl⟩
 |rv::b,rs,hr,K,h=>by
  obtain⟨r,e,rfl,q,p⟩:=im hr;obtain⟨x,v,o,n,m⟩:=Ce (P:=P) hs q h;obtain⟨xs,vs,l,k,i,g,d⟩:=xC hs p o;refine⟨x::xs,v::vs,l,by simp[k],λj f u hu=>?_,?_,by simp[d]⟩
  .cases j with
   |zero=>simp at hu;subst hu;exact n
   |succ j=>exact i j (by simpa using f) u (by simpa using hu)
  .rw [List.mapM_cons];have c:(jL a rv).run P w=.ok v w:=m;simp only[yW,c,yV,g,yX]
theorem RS.leave(hs:RS E G s a w)(hE:E.nb=s.lo){fn:Func}{rs:List eP}(hr:mX P fn.results.toList=some rs){Q:AV->List Box->Prop}(h:s8 s rs Q):
  ∃v r bs' G',(results fn a.tmps).run P w=.ok v w/\Q r bs'/\RS {E with nt:=1,dd:=[]} G' ⟨[(0,r)],bs',s.lo⟩ ⟨#[v],[]⟩ w:=by
 have K:∀u,RS {E with nt:=1,dd:=[]} {G with cl:=fq G.cl} ⟨[],s.bs,s.lo⟩ ⟨#[u],[]⟩ w:=λu=>
  hs.sI {E with nt:=1,dd:=[]} _ hs.fr rfl s.lo hE.symm hs.len hs.sig (λB hB=>(sC hs hB).1) rfl
 have plain:∀x v,RV G.M G.σ s.bs.length x v->RS {E with nt:=1,dd:=[]} {G with cl:=fq G.cl} ⟨[(0,x)],s.bs,s.lo⟩ ⟨#[v],[]⟩ w:=λx v R=>(K undef).put (k:=0) Zw R
 have m:(results fn a.tmps).run P w=((fn.results.toList.mapM (jL a)).run P w).andThen λvs w'=>.ok (if h:vs.length=1 then vs[0] else .tuple vs.toArray) w':=by
  have he:results fn a.tmps=(do let vs<-fn.results.mapM (jL a);Pure.pure (if h:vs.size=1 then vs[0] else .tuple vs)):=by
   unfold results;congr 2
  rw[he,Array.mapM_eq_mapM_toList];simp only[yW,Sem.run_map];generalize (fn.results.toList.mapM (jL a)).run P w=q
  cases q with
  |ok vs w'=>simp
  |halt x w'=>rfl
 unfold s8 at h;split at h
 .rename_i t
  match i:fn.results.toList,hr with
  |[rv],hr=>
   cases rv with
   |cell q ty=>
    simp only[mX] at hr;split at hr
    .simp only[zN,Zx] at hr;cases hr.1
    .cases hr
   |tmp n=>
    simp only[mX,zN,Zx,eP.slot.injEq,and_true] at hr;subst hr
    have o:(results fn a.tmps).run P w=.ok (a.tmps.getD n undef) w:=by
     rw[m,i];simp[jL,List.mapM_cons]
    refine⟨a.tmps.getD n undef,s.get n,s.bs,?_⟩
    by_cases p:∃z l,s.get n=.sl (.own z) l
    .obtain ⟨z,l,V⟩:=p;have L:=Bj V;obtain⟨ad,k,I,hz,A⟩:=hs.own _ _ _ L;have R:=hs.val _ _ L;simp only[AV.aI] at R;obtain⟨ad2,k2,B,off,J⟩:=R.sv hz;have:=J.eq;rw[I] at this;cases this
     have y:Room {E with nt:=1,dd:=[]} {G with cl:=fq G.cl} ⟨[],s.bs,s.lo⟩ w ad z l.length k:=by
      rcases A with A|⟨B1,C,W,f⟩
      .exact .inl A
      .refine .inr ⟨B1,.sl 0,W,⟨⟨f.lt,f.cells,f.free,f.mine⟩,λq hq=>?_,λb cs hb=>hs.clbox _ B1 C b cs hb,(hs.cllt _ B1 C).1,λz' l' e=>by simp[St.at,au] at e,λb j e=>by cases e⟩⟩
       cases q with
       |sl t=>cases hq
       |bx b j=>have:=hs.clinj _ _ B1 C hq;cases this
     obtain⟨G',N⟩:=(K undef).EH (d:=0) Zw J y;refine⟨G',o,h,?_⟩;rw[V];exact N
    .refine ⟨_,o,h,plain _ _ ?_⟩;have:=hs.NX n
     have hd:(s.get n).aI=s.get n:=by
      generalize V:s.get n=g at*
      cases g with
      |sl c l=>cases c with
       |own z=>exact absurd ⟨z,l,rfl⟩ p
       |_=>rfl
      |_=>rfl
     rwa [hd] at this
  |[],hr=>simp[mX] at hr
  |rv::F::D,hr=>
   obtain⟨r,H,e,_,O⟩:=im hr;obtain⟨r2,T,e2,_,_⟩:=im O;rw[e2] at e;cases e
 .rename_i r hnot
  match i:fn.results.toList,hr with
  |[rv],hr=>
   obtain⟨x,v,N,Z,Y⟩:=Ce (P:=P) hs hr h;refine⟨v,x,s.bs,_,?_,N,plain x v Z⟩;rw[m,i];have X:(jL a rv).run P w=.ok v w:=Y
   simp[List.mapM_cons,X]
  |[],hr=>simp[mX] at hr
  |rv::F::D,hr=>
   obtain⟨r,H,e,_,O⟩:=im hr;obtain⟨r2,T,e2,_,_⟩:=im O;rw[e2] at e;cases e
 .rename_i hn1 U;obtain⟨xs,vs,N,Z,Y,h6,S⟩:=xC (P:=P) hs hr h
  have hlen:vs.length≠1:=λe=>by
   match i:fn.results.toList,hr with
   |[],hr=>rw[i] at S;simp at S;omega
   |[rv],hr=>
    obtain⟨r,H,e,_,O⟩:=im hr;cases O
    exact U r e
   |rv::F::D,hr=>rw[i] at S;simp at S;omega
  refine⟨.tuple vs.toArray,.tup xs,s.bs,_,?_,N,plain _ _ (.tup xs vs Z Y)⟩;rw[m,h6];simp[hlen]
end
theorem Sem.of{P:Program}{f:FuncId}{fn:Func}{c:Code}{rc:RC}{keeps:List (Nat×List Nat)}{solo:List (Nat×Nat)}{rs:List eP}(p:P.funcs[f]? =some fn)(hb:fn.body=some c)(hm:P.follows .mixedOrders=true)(t:eW P fn.ntmps keeps solo true c=some rc)(hr:mX P fn.results.toList=some rs)
  {ab:List AV} {bs:List Box} {Q:AV->List Box->Prop} (m:ab.length<=fn.ntmps) (h:rc.wp P ⟨params 0 ab,bs,bs.length⟩ λx s=>∃a,aD s a/\OF rs Q x a):Sem P f ab bs Q:=by
 intro E G a0 w args lo d o l;refine(callsIn_wide (n:=0)).1 (callsIn_of_wp_marks (F:=F0 none) p hb trivial ?_);have z:=d.enter o l m;refine wpIn_mono (WP.sD (DI hm t h) (bR G bs w fn.ntmps) _ _ w none 0 z ⟨rfl,λ_=>rfl⟩) ?_;rintro e k w' ⟨x,a,G',rfl,q,b⟩
 have fin:s8 a rs Q->LeavesInM (F0 none) 0 P fn k.tmps (λe w'=>∃v r bs' G',e=.returned v/\Q r bs'/\RS (bR G bs w 1) G' ⟨[(0,r)],bs',bs.length⟩ ⟨#[v],[]⟩ w') k.defers .returning w':=λq=>by
  refine b.leaves rfl _ rfl λA j=>?_;obtain⟨v,r,bs',G2,y,u,i⟩:=j.leave j.lo.symm hr q;have g:a.lo=bs.length:=b.lo;rw[g] at i;exact⟨v,y,v,r,bs',G2,rfl,u,i⟩
 cases x with
 |normal=>exact fin q
 |ret=>exact fin q
 |exit id=>exact q.elim
theorem Sem.pure{P:Program}{f:FuncId}{ab:List AV}{Q:AV->Prop}(h:Sem P f ab [] λr _=>Q r)(H:∀x∈ab,x.lt 0=true)(hQ:∀r,Q r->r.lt 0=true)(bs:List Box):Sem P f ab bs λr bs'=>Q r/\bs'=bs:=by
 intro E G a0 w args lo a hl hv
 have h0:RS ⟨λ_=>False,G.M,w,0,0,G.σ,[]⟩ ⟨G.M,G.σ,λ_=>none⟩ ⟨[],[],0⟩ ⟨#[],[]⟩ w:=by
  have K:∀p x,(⟨[],[],0⟩:St).at p=some x->False:=λp x hp=>by
   cases p with
   |sl t=>simp[St.at,au] at hp
   |bx b j=>simp[St.at,aa] at hp
  have I:∀b cs,aa ([]:List Box) b=some cs->False:=λb cs hb=>by simp[aa] at hb
  exact⟨Fr.refl _ _ _ a.fr.kn,a.ok,rfl,λp x hp=>(K p x hp).elim,λb j x hp=>(K _ x hp).elim,λb cs hb=>(I b cs hb).elim,λb cs hb=>(I b cs hb).elim,λb O cs cs' hb _ _=>(I b cs hb).elim,λp z l hp=>(K p _ hp).elim,(λp q B hp=>by cases hp),(λp B hp=>by cases hp),(λp B hp=>by cases hp),rfl,zG _,(λb hb=>by cases hb),Sp.none _ _ _ _ _ _⟩
 refine(h _ _ _ w args 0 h0 hl (λj U v X=>?_)).mono ?_
 .exact ((hv j U v X).lt (H _ (zc U))).mono (Hp.le_refl _) (zG _) (λ_ _=>rfl)
 .rintro e w' ⟨v,r,bs',G',rfl,hq,N⟩;refine⟨v,r,bs,⟨G'.M,G.σ,λp=>match p with|.sl 0=>G'.cl (.sl 0)|.sl _=>none|.bx b j=>G.cl (.bx b j)⟩,rfl,⟨hq,rfl⟩,?_⟩
  have d:∀B,¬eo ⟨G.M,G.σ,λ_=>none⟩ [] B:=λB hB=>by
   rcases hB with ⟨b,cs,hb,_⟩|⟨b,j,hb⟩|⟨b,x,hb,_⟩
   .simp [aa] at hb
   .cases hb
   .exact dm hb
  have c:Fr (eo ⟨G.M,G.σ,λ_=>none⟩ []) G.M w G'.M w':=N.fr;have F:(⟨[(0,r)],bs',([]:List Box).length⟩:St).at (.sl 0)=some r:=rfl
  have i:∀q B,G'.cl q=some B->w.heap.size<=B:=λq B hB=>by
   rcases(N.cllt q B hB).2 with g|g
   .exact absurd g (d B)
   .exact g
  have C:∀p x,(⟨[(0,r)],bs,bs.length⟩:St).at p=some x->(p=.sl 0/\x=r)\/(∃b j,p=.bx b j/\(⟨[],bs,lo⟩:St).at (.bx b j)=some x):=λp x hp=>by
   cases p with
   |sl t=>
    simp only[St.at,au] at hp;split at hp
    .rename_i hb;have:=zO hb;subst this;cases hp;exact .inl ⟨rfl,rfl⟩
    .cases hp
   |bx b j=>exact .inr ⟨b,j,rfl,hp⟩
  have J:∀b j x,(⟨[],bs,lo⟩:St).at (.bx b j)=some x->aw G.σ ⟨#[v],[]⟩ w' (.bx b j)=aw G.σ a0 w (.bx b j):=λb j x y=>by
   simp only[St.at] at y
   cases hb:aa bs b with
   |none=>rw[hb] at y;cases y
   |some cs=>simp only[aw];rw[bN (c.heap _ (a.blt hb) (d _))]
  have V:RV G'.M G.σ bs.length r.aI v:=by
   have g:=N.val _ _ F;have s:=g.lt (m:=0) (by rw[lz];exact hQ r hq)
   exact s.mono (Hp.le_refl _) (zJ _) (λb hb=>by cases hb)
  refine⟨⟨c.os,c.tape,c.output,c.size,c.le,λB hB _=>c.heap B hB (d B),λB hB _=>c.mem B hB (d B),c.kn⟩,N.ok,rfl,λp x hp=>?_,λb j x hp=>?_,λb cs hb=>?_,λb cs hb=>?_,a.inj,λp z l hp=>?_,λp q B hp A=>?_,λp B hB b cs hb=>?_,λp B hB=>?_,rfl,zG _,λ_ _=>rfl,?_⟩
  .rcases C p x hp with ⟨rfl,rfl⟩|⟨b,j,rfl,y⟩
   .exact V
   .show RV G'.M G.σ bs.length x.aI _;rw[J b j x y];exact(a.val _ _ y).mono c.le (zG _) (λ_ _=>rfl)
  .rcases C _ x hp with ⟨e,_⟩|⟨O,R,e,y⟩
   .cases e
   .cases e;show (aw G.σ _ w' _).oneCell'=true;rw[J b j x y];exact a.one _ _ _ y
  .obtain ⟨vs,T,g,s⟩:=a.box b cs hb;exact⟨vs,T,(c.heap _ (a.blt hb) (d _)).trans g,s⟩
  .obtain ⟨g,_⟩:=a.bmem b cs hb;exact⟨λo=>(c.mem _ (a.blt hb) (d _) o).trans (g o),.inl (.inl ⟨b,cs,hb,rfl⟩)⟩
  .rcases C p _ hp with ⟨rfl,y⟩|⟨b,j,rfl,y⟩
   .subst y;obtain⟨Z,k,g,s,D⟩:=N.own _ _ _ F;refine⟨Z,k,g,s,?_⟩;rcases D with D|⟨B,hB,Y,L⟩
    .exact .inl D
    .exact .inr ⟨B,hB,Y,L.lt,L.cells,L.free,.inr (i _ B hB)⟩
   .obtain ⟨Z,k,g,s,D⟩:=a.own _ _ _ y;refine⟨Z,k,(J b j _ y).trans g,s,?_⟩;rcases D with D|⟨B,hB,Y,L⟩
    .exact .inl D
    .have n:=(a.cllt _ B hB).1;obtain⟨vs,T,h6,h7⟩:=L.cells;exact .inr ⟨B,hB,Y,L.lt,⟨vs,T,(c.heap B n (d B)).trans h6,h7⟩,λo W=>(c.mem B n (d B) o).trans (L.free o W),.inl (.inr (.inl ⟨b,j,hB⟩))⟩
  .cases p with
   |sl t=>
    cases t with
    |zero=>
     cases q with
     |sl u=>
      cases u with
      |zero=>rfl
      |succ u=>cases A
     |bx b j=>
      have g:=i _ B hp;have s:=(a.cllt _ B A).1
      omega
    |succ t=>cases hp
   |bx b j=>
    cases q with
    |sl u=>
     cases u with
     |zero=>
      have g:=i _ B A;have s:=(a.cllt _ B hp).1
      omega
     |succ u=>cases A
    |bx O R=>exact a.clinj _ _ B hp A
  .cases p with
   |sl t=>
    cases t with
    |zero=>
     have g:=i _ B hB;have s:=a.blt hb;intro e;have e':G.σ b=B:=e;have h2':G.σ b<w.heap.size:=s
     omega
    |succ t=>cases hB
   |bx O R=>exact a.clbox _ B hB b cs hb
  .cases p with
   |sl t=>
    cases t with
    |zero=>exact⟨(N.cllt _ B hB).1,.inr (i _ B hB)⟩
    |succ t=>cases hB
   |bx O R=>exact⟨ZT (a.cllt _ B hB).1 c.size,.inl (.inr (.inl ⟨O,R,hB⟩))⟩
  .refine ⟨λB o hs=>?_,λb x hb=>?_,a.sp.inj,⟨[],rfl,.nil⟩,λb x hb j B o U=>by
    obtain⟨q1,q2,q3⟩:=a.sp.rows b x hb j B o U;have n:=(a.cllt _ B q2).1;exact⟨(c.heap B n (d B)).trans q1,q2,λk=>(c.mem B n (d B) k).trans (q3 k)⟩⟩
   .rcases hs with ⟨b,x,hb,e,W⟩|⟨S,_⟩
    .obtain ⟨g,s,_⟩:=a.sp.ob B o (.inl ⟨b,x,hb,e,W⟩);have n:=(zh.1 g).1;refine⟨(c.heap B n (d B)).trans g,λp hp=>?_,.inl (.inr (.inr ⟨b,x,hb,e⟩))⟩
     cases p with
     |sl t=>
      cases t with
      |zero=>have:=i _ B hp;omega
      |succ t=>cases hp
     |bx O R=>exact s _ hp
    .cases S
   .obtain ⟨g,s,D⟩:=a.sp.base b x hb;exact⟨Hp.le_trans g c.le,s,D⟩
theorem Fun.of{P:Program}{f:FuncId}{ab:List AV}{r:AV}(h:Sem P f ab [] λr' _=>r'=r)(a:ab.all (λx=>x.lt 0)=true)(hr:r.lt 0=true):Fun P f ab r:=
 Sem.pure h (by simpa using a) (λr' e=>by rw[e];exact hr)
theorem Sem.calls{P:Program}{f:FuncId}{ab:List AV}{Q:AV->List Box->Prop}(h:Sem P f ab [] Q){M:Hp}{w:World}(u:M.le (Hp.of w))(y:Kn M w){args:List Value}(o:args.length=ab.length)(k:∀j (h:j<ab.length) v,args[j]? =some v->FV M ab[j] v):
  Calls P f args.toArray w λe w'=>∃v r bs' M' σ n,e=.returned v/\Q r bs'/\RV M' σ n r.aI v/\Ext w w'/\M'.le (Hp.of w'):=by
 have A:RS ⟨λ_=>False,M,w,0,0,λ_=>0,[]⟩ ⟨M,λ_=>0,λ_=>none⟩ ⟨[],[],0⟩ ⟨#[],[]⟩ w:=by
  have c:∀p x,(⟨[],[],0⟩:St).at p=some x->False:=λp x hp=>by
   cases p with
   |sl t=>simp[St.at,au] at hp
   |bx b j=>simp[St.at,aa] at hp
  have a:∀b cs,aa ([]:List Box) b=some cs->False:=λb cs hb=>by simp[aa] at hb
  exact⟨Fr.refl _ _ _ y,u,rfl,λp x hp=>(c p x hp).elim,λb j x hp=>(c _ x hp).elim,λb cs hb=>(a b cs hb).elim,λb cs hb=>(a b cs hb).elim,λb D cs C hb _ _=>(a b cs hb).elim,λp z l hp=>(c p _ hp).elim,(λp q B hp=>by cases hp),(λp B hp=>by cases hp),(λp B hp=>by cases hp),rfl,zG _,(λb hb=>by cases hb),Sp.none _ _ _ _ _ _⟩
 refine(h _ _ _ w args 0 A o (λj s v i=>.flat (k j s v i))).mono ?_;rintro e w' ⟨v,r,bs',G',rfl,m,d⟩
 have g:∀B,¬eo ⟨M,λ_=>0,λ_=>none⟩ [] B:=λB hB=>by
  rcases hB with ⟨b,cs,hb,_⟩|⟨b,j,hb⟩|⟨b,x,hb,_⟩
  .simp [aa] at hb
  .cases hb
  .exact dm hb
 refine⟨v,r,bs',G'.M,G'.σ,_,rfl,m,d.val (.sl 0) r rfl,⟨⟨d.fr.os,d.fr.tape,d.fr.output,d.fr.size,λB hB=>d.fr.heap B hB (g B)⟩⟩,d.ok⟩
end Go.AM
namespace Go.AM
open Go.CK Go.RowKit
def lits:List Nat:=[0,1,2,3,4,5,6,7,8,9,10,11,12,13,14,15,16,17,18,19,20,21,22,23,24,25,26,27,28,29,30,31,32,33,34,35,36,37,38,39,40]
def CI(n:Nat)(K:Nat->Prop):Prop:=
 match lits[n]? with
 |some m=>K m
 |none=>K n
theorem GH(n:Nat)(K:Nat->Prop):CI n K=K n:=by
 unfold CI;split
 .rename_i m h
  have:m=n:=by
   have a:n<lits.length:=by
    rcases zt n lits.length with c|c
    .exact c
    .rw [zR c] at h;cases h
   have b:∀k,(hk:k<lits.length)->lits[k]=k:=by decide
   rw[zA a] at h;cases h;exact b n a
  rw[this]
 .rfl
def f1(x:AV)(K:AV->Prop):Prop:=
 match x with
 |.top=>K .top
 |.bool b=>K (.bool b)
 |.int k n=>K (.int k n)
 |.str s=>K (.str s)
 |.sl o l=>match o with
  |.no=>K (.sl .no l)
  |.full=>K (.sl .full l)
  |.own z=>K (.sl (.own z) l)
 |.agg cs=>K (.agg cs)
 |.tup vs=>K (.tup vs)
 |.ptr b off=>CI b λb=>CI off λoff=>K (.ptr b off)
 |.kB=>K .kB
 |.ept cs=>K (.ept cs)
 |.fn f xs ys=>K (.fn f xs ys)
 |.yl b=>K (.yl b)
 |.bsl b m k=>CI b λb=>K (.bsl b m k)
 |.elp b i z off=>CI b λb=>K (.elp b i z off)
 |.mpt b=>CI b λb=>K (.mpt b)
 |.nfn=>K .nfn
 |.nmp=>K .nmp
 |.vc=>K .vc
 |.lit a n k=>K (.lit a n k)
theorem MX(x:AV)(K:AV->Prop):f1 x K=K x:=by
 cases x<;>first|(simp only[f1,GH];done)|skip
 rename_i o l;cases o<;>rfl
def fs(l:List AV)(K:List AV->Prop):Prop:=
 match l with
 |[]=>K []
 |x::xs=>f1 x λx=>fs xs λxs=>K (x::xs)
theorem KG:∀(l:List AV) (K:List AV->Prop),fs l K=K l
 |[],_=>rfl
 |x::xs,K=>by rw[fs,MX,KG xs]
def fv(x:AV)(K:AV->Prop):Prop:=
 match x with
 |.agg cs=>fs cs λcs=>K (.agg cs)
 |.tup cs=>fs cs λcs=>K (.tup cs)
 |.ept cs=>fs cs λcs=>K (.ept cs)
 |.fn f xs ys=>fs xs λxs=>fs ys λys=>K (.fn f xs ys)
 |x=>f1 x K
theorem Dh(x:AV)(K:AV->Prop):fv x K=K x:=by
 cases x<;>simp only[fv,KG,MX]
def fvs(l:List AV)(K:List AV->Prop):Prop:=
 match l with
 |[]=>K []
 |x::xs=>fv x λx=>fvs xs λxs=>K (x::xs)
theorem KE:∀(l:List AV) (K:List AV->Prop),fvs l K=K l
 |[],_=>rfl
 |x::xs,K=>by rw[fvs,Dh,KE xs]
def fvq(x:AV)(K:AV->Prop):Prop:=
 match x with
 |.ptr b off=>K (.ptr b off)
 |.bsl b m k=>K (.bsl b m k)
 |.elp b i z off=>K (.elp b i z off)
 |.mpt b=>K (.mpt b)
 |.fn f xs ys=>K (.fn f xs ys)
 |x=>fv x K
theorem KF(x:AV)(K:AV->Prop):fvq x K=K x:=by
 cases x<;>simp only[fvq,Dh]
def Ie(l:List AV)(K:List AV->Prop):Prop:=
 match l with
 |[]=>K []
 |x::xs=>fvq x λx=>Ie xs λxs=>K (x::xs)
theorem qQ:∀(l:List AV) (K:List AV->Prop),Ie l K=K l
 |[],_=>rfl
 |x::xs,K=>by rw[Ie,KF,qQ xs]
def fvn(fb:Bool)(x:AV)(K:AV->Prop):Prop:=
 match fb with
 |true=>fv x K
 |false=>fvq x K
theorem NZ(fb:Bool)(x:AV)(K:AV->Prop):fvn fb x K=K x:=by
 cases fb
 .simp only[fvn,KF]
 .simp only[fvn,Dh]
def FF(fb:Bool)(e:List (Nat×AV))(K:List (Nat×AV)->Prop):Prop:=
 match e with
 |[]=>K []
 |(t,x)::r=>fvn fb x λx=>FF fb r λr=>K ((t,x)::r)
theorem qR(fb:Bool):∀(e:List (Nat×AV)) (K:List (Nat×AV)->Prop),FF fb e K=K e
 |[],_=>rfl
 |(t,x)::r,K=>by rw[FF,NZ,qR fb r]
def fBs(e:List Box)(K:List Box->Prop):Prop:=
 match e with
 |[]=>K []
 |.cells cs::r=>fs cs λcs=>fBs r λr=>K (.cells cs::r)
 |.dead::r=>fBs r λr=>K (.dead::r)
 |.loop x::r=>fBs r λr=>K (.loop x::r)
 |.row x::r=>fBs r λr=>K (.row x::r)
 |.mp x::r=>fBs r λr=>K (.mp x::r)
 |.mq x c::r=>fBs r λr=>K (.mq x c::r)
 |.tab x::r=>fBs r λr=>K (.tab x::r)
theorem jd:∀(e:List Box) (K:List Box->Prop),fBs e K=K e
 |[],_=>rfl
 |.cells cs::r,K=>by rw[fBs,KG,jd r]
 |.dead::r,K=>by rw[fBs,jd r]
 |.loop x::r,K=>by rw[fBs,jd r]
 |.row x::r,K=>by rw[fBs,jd r]
 |.mp x::r,K=>by rw[fBs,jd r]
 |.mq x c::r,K=>by rw[fBs,jd r]
 |.tab x::r,K=>by rw[fBs,jd r]
def St.fo(fb:Bool)(s:St)(K:St->Prop):Prop:=match s with
 |⟨e,bs,lo⟩=>FF fb e λe=>match fb with
  |true=>fBs bs λbs=>CI lo λlo=>K ⟨e,bs,lo⟩
  |false=>K ⟨e,bs,lo⟩
theorem St.dj(fb:Bool)(s:St)(K:St->Prop):s.fo fb K=K s:=by
 cases fb<;>simp only[St.fo,qR,jd,GH]
structure ae(P:Program)(f:FuncId)(ab raw:List AV)(bs:List Box)(K:AV->List Box->Prop):Prop where
 sem:∃Q,(Sem P f ab bs Q\/Sem P f raw bs Q)/\∀r bs',Q r bs'->K r bs'
theorem ae.raw{P:Program}{f:FuncId}{ab raw:List AV}{bs:List Box}{K:AV->List Box->Prop}{Q:AV->List Box->Prop}(h:Sem P f raw bs Q)(a:∀r bs',Q r bs'->K r bs'):ae P f ab raw bs K:=⟨Q,.inr h,a⟩
theorem ae.fn{P:Program}{f:FuncId}{ab raw:List AV}{bs:List Box}{K:AV->List Box->Prop}{r:AV}(h:Fun P f ab r)(a:K r bs):ae P f ab raw bs K:=⟨_,.inl (h bs),λr' bs' ⟨c,b⟩=>by subst c b;exact a⟩
structure aW(P:Program)(f:FuncId)(ab:List AV)(K:AV->Prop):Prop where
 sem:∃r,Fun P f ab r/\K r
theorem aW.fn{P:Program}{f:FuncId}{ab:List AV}{K:AV->Prop}{r:AV}(h:Fun P f ab r)(a:K r):aW P f ab K:=⟨r,h,a⟩
structure sw(P:Program)(b:Nat)(ab:List AV)(bs:List Box)(K:AV->List Box->Prop):Prop where
 sem:∃Q,mB P b ab bs Q/\∀r bs',Q r bs'->K r bs'
theorem sw.of{P:Program}{b:Nat}{ab:List AV}{bs:List Box}{K:AV->List Box->Prop}{Q:AV->List Box->Prop}(h:mB P b ab bs Q)(a:∀r bs',Q r bs'->K r bs'):sw P b ab bs K:=⟨Q,h,a⟩
def St.pt(s:St)(d:Option Nat)(x:AV):St:=match s with
 |⟨e,bs,lo⟩=>match d with
  |some k=>⟨aT e k x,bs,lo⟩
  |none=>⟨e,bs,lo⟩
theorem St.oU(s:St)(d:Option Nat)(x:AV):s.pt d x=s.put d x:=by cases s;cases d<;>rfl
def St.kp(s:St)(a:List Nat):St:=match s with
 |⟨e,bs,lo⟩=>⟨eF (λk=>mem k a) e,bs,lo⟩
def St.wb(s:St)(bs':List Box):St:=match s with
 |⟨e,_,lo⟩=>⟨e,bs',lo⟩
theorem St.Gb(s:St)(bs':List Box):s.wb bs'=⟨s.env,bs',s.lo⟩:=by cases s;rfl
def fsq(l:List AV)(K:List AV->Prop):Prop:=Ie l K
theorem FA(l:List AV)(K:List AV->Prop):fsq l K=K l:=qQ l K
def wi(P:Program)(a:Bool)(s:St)(d:Option Nat)(f:AV)(args:List AV)(K:St->Prop):Prop:=
 match f with
 |.fn (.func f) xs ys=>Ie ((xs++args++ys).map AV.norm) λab=>match a with
  |true=>aW P f ab λr=>K (s.pt d r)
  |false=>match s with
   |⟨e,bs,lo⟩=>ae P f ab (xs++args++ys) bs λr bs'=>K (St.pt ⟨e,bs',lo⟩ d r)
 |.yl b=>match a with
  |true=>False
  |false=>Ie (args.map AV.norm) λab=>match s with
   |⟨e,bs,lo⟩=>sw P b ab bs λr bs'=>K (St.pt ⟨e,bs',lo⟩ d r)
 |_=>False
theorem wg{P:Program}{a:Bool}{s:St}{d:Option Nat}{f:AV}{args:List AV}{K:St->Prop}:wi P a s d f args K=(match a with
  |true=>e9 P f args λr=>K (s.put d r)
  |false=>jD P s d f args K):=by
 cases a with
 |true=>
  cases f<;>try rfl
  rename_i f xs ys;cases f<;>try rfl
  simp only[wi,e9,qQ,St.oU]
  exact propext ⟨λh=>h.sem,λh=>⟨h⟩⟩
 |false=>
  cases f<;>try rfl
  .rename_i f xs ys;cases f<;>try rfl
   simp only[wi,jD,qQ,St.oU,St.Gb];exact propext ⟨λh=>h.sem,λh=>⟨h⟩⟩
  .simp only[wi,jD,qQ,St.oU,St.Gb];exact propext ⟨λh=>h.sem,λh=>⟨h⟩⟩
structure Lp(s:St)(rs:List eP)(Q:AV->List Box->Prop):Prop where
 out:∃s',aD s s'/\s8 s' rs Q
structure al(s t:St):Prop where
 out:aD s t
end Go.AM
namespace Go.AM
open Go.CK Go.RowKit
structure Om(s:St)(e:AX)(J:AX->List Box->Prop):Prop where
 out:∃s3 own,aD s s3/\s3.bs=own++[.dead]/\J e own
theorem al.Bn{s t:St}(b off z:Nat){l:List AV}(c:s.at (.bx b off)=some (.sl .full l))(a:∀y∈l,y.cells.length=z)(h:al (s.upd (.bx b off) (.sl (.own z) l)) t):al s t:=
 ⟨aD.trans (λ_ G _ _ hs=>⟨G,hs.nZ c a⟩) h.out⟩
theorem kL{own:List Box}{n:Nat}(h:own.length=n)(x y:Box):(own++[x]).set n y=own++[y]:=by
 subst h;simp
end Go.AM
