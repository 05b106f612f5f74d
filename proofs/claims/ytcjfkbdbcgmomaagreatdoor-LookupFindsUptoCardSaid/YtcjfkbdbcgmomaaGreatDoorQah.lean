/-
  By an AI agent.
-/
import Derived.Test.YtcjfkbdbcgmomaaGreatDoorQag
set_option linter.unusedSimpArgs false
set_option linter.unusedVariables false
namespace Go.AM
open Go.CK Go.RowKit
def eo(G:Gh)(bs:List Box)(B:Nat):Prop:=(∃b cs,aa bs b=some cs/\G.σ b=B)\/(∃b j,G.cl (.bx b j)=some B)\/(∃b x,ah bs b=some x/\G.σ b=B)
def bR(G:Gh)(bs:List Box)(w:World)(nt:Nat):Entry:=⟨eo G bs,G.M,w,nt,bs.length,G.σ,[]⟩
def Sem(P:Program)(f:FuncId)(ab:List AV)(bs:List Box)(Q:AV->List Box->Prop):Prop:=
 ∀(E:Entry) (G:Gh) (a0:Act) (w:World) (args:List Value) (lo:Nat),RS E G ⟨[],bs,lo⟩ a0 w->args.length=ab.length->(∀j (h:j<ab.length) v,args[j]? =some v->RV G.M G.σ bs.length ab[j] v)->
  Calls P f args.toArray w λe w'=>∃v r bs' G',e=.returned v/\Q r bs'/\RS (bR G bs w 1) G' ⟨[(0,r)],bs',bs.length⟩ ⟨#[v],[]⟩ w'
def mB(P:Program)(b:Nat)(ab:List AV)(bs:List Box)(Q:AV->List Box->Prop):Prop:=
 ∀(E:Entry) (G:Gh) (a0:Act) (w:World) (args:List Value) (lo:Nat),RS E G ⟨[],bs,lo⟩ a0 w->args.length=ab.length->(∀j (h:j<ab.length) v,args[j]? =some v->RV G.M G.σ bs.length ab[j] v)->
  ∃f tmps assign body,(Instr.yield (G.σ b) args.toArray).run P w=.ok (.round (G.σ b) f tmps assign body) w/\∀rd n,RoundIn (F0 rd) n P (G.σ b) f tmps assign body w λe w'=>∃v r bs' G',e=.returned v/\Q r bs'/\RS (bR G bs w 1) G' ⟨[(0,r)],bs',bs.length⟩ ⟨#[v],[]⟩ w'
theorem mB.norm{P:Program}{b:Nat}{ab:List AV}{bs:List Box}{Q:AV->List Box->Prop}(h:mB P b (ab.map AV.norm) bs Q):mB P b ab bs Q:=
 λE G a0 w args lo f e d=>h E G a0 w args lo f (by simpa using e) λj a v c=>by
  simp only[zF] at a;rw[ZD];exact(d j a v c).norm
theorem Sem.mono{P:Program}{f:FuncId}{ab:List AV}{bs:List Box}{Q Q':AV->List Box->Prop}(h:Sem P f ab bs Q)(a:∀r b,Q r b->Q' r b):Sem P f ab bs Q':=
 λE G a0 w args lo g d c=>(h E G a0 w args lo g d c).mono λ_ _ ⟨v,r,bs',G',e,q,x⟩=>⟨v,r,bs',G',e,a _ _ q,x⟩
section
variable{E:Entry}{G:Gh}{s:St}{a:Act}{w:World}{P:Program}
theorem RS.boxes(h:RS E G s a w):RS E G ⟨[],s.bs,s.lo⟩ a w:=by
 have c:∀p x,(⟨[],s.bs,s.lo⟩:St).at p=some x->s.at p=some x:=λp x hp=>by
  cases p with
  |sl t=>simp[St.at,au] at hp
  |bx b j=>exact hp
 exact⟨h.fr,h.ok,h.nt,λp x hp=>h.val p x (c p x hp),λb j x hp=>h.one b j x (c _ x hp),h.box,h.bmem,h.inj,λp z l hp=>h.own p z l (c p _ hp),h.clinj,h.clbox,h.cllt,h.lo,h.len,h.sig,h.sp⟩
theorem sC(h:RS E G s a w){B:Nat}(hB:eo G s.bs B):(E.FP B\/E.w.heap.size<=B)/\B<w.heap.size:=by
 rcases hB with ⟨b,cs,hb,rfl⟩|⟨b,j,hb⟩|⟨b,x,hb,e⟩
 .exact ⟨(h.bmem b cs hb).2,h.blt hb⟩
 .exact ⟨(h.cllt _ B hb).2,(h.cllt _ B hb).1⟩
 .obtain ⟨d,_,c⟩:=h.sp.ob B _ (.inl ⟨b,x,hb,e,rfl⟩);exact⟨c,(zh.1 d).1⟩
def jh(G G':Gh)(d:Option Nat):Gh:={G' with cl:=λp=>match p with
 |.sl t=>if d=some t then G'.cl (.sl 0) else G.cl (.sl t)
 |.bx b j=>G'.cl (.bx b j)}
theorem RS.after(h:RS E G s a w){G':Gh}{r:AV}{bs':List Box}{v:Value}{w':World}(i:RS (bR G s.bs w 1) G' ⟨[(0,r)],bs',s.bs.length⟩ ⟨#[v],[]⟩ w'){d:Option Nat}(Y:∀k,d=some k->k<E.nt):
  RS E (jh G G' d) ((⟨s.env,bs',s.lo⟩:St).put d r) (a.put d v) w':=by
 have c:∀B,(eo G s.bs B\/w.heap.size<=B)->(E.FP B\/E.w.heap.size<=B):=λB hB=>by
  rcases hB with hB|hB
  .exact (sC h hB).1
  .exact .inr (ZN h.fr.size hB)
 have hlen:s.bs.length<=bs'.length:=i.len;have L:∀b,b<s.bs.length->G'.σ b=G.σ b:=i.sig;have H:Fr (eo G s.bs) G.M w G'.M w':=i.fr;have D:((⟨s.env,bs',s.lo⟩:St).put d r).bs=bs':=by cases d<;>rfl
 have hlo:((⟨s.env,bs',s.lo⟩:St).put d r).lo=s.lo:=by cases d<;>rfl
 have m:∀t B,G.cl (.sl t)=some B->¬eo G s.bs B:=λt B hB hF=>by
  rcases hF with ⟨b,cs,hb,e⟩|⟨b,j,hb⟩|⟨b,x,hb,e⟩
  .exact h.clbox _ B hB b cs hb e
  .have:=h.clinj _ _ B hB hb;cases this
  .exact (h.sp.ob B _ (.inl ⟨b,x,hb,e,rfl⟩)).2.1 _ hB
 have R:∀p x,((⟨s.env,bs',s.lo⟩:St).put d r).at p=some x->(∃t,p=.sl t/\d=some t/\x=r)\/(∃t,p=.sl t/\d≠some t/\s.at (.sl t)=some x)\/(∃b j,p=.bx b j/\(⟨[(0,r)],bs',s.bs.length⟩:St).at (.bx b j)=some x):=λp x hp=>by
  cases p with
  |sl t=>
   cases d with
   |none=>exact .inr (.inl ⟨t,rfl,by simp,hp⟩)
   |some k=>
    rw[St.dY] at hp
    by_cases e:Pl.sl t=.sl k
    .cases e;rw[if_pos rfl] at hp;cases hp;exact .inl ⟨t,rfl,rfl,rfl⟩
    .rw [if_neg e] at hp
     exact .inr (.inl ⟨t,rfl,λe2=>e (by cases e2;rfl),hp⟩)
  |bx b j=>
   refine .inr (.inr ⟨b,j,rfl,?_⟩);simp only[St.at,D] at hp|-;exact hp
 have S:∀t,d=some t->aw G'.σ (a.put d v) w' (.sl t)=v:=λt f=>by
  subst f;have:=Y t rfl;rw[cT a w' t v _ (by rw[h.nt];exact this),if_pos rfl]
 have hvs:∀t,d≠some t->aw G'.σ (a.put d v) w' (.sl t)=aw G.σ a w (.sl t):=λt f=>by
  cases d with
  |none=>rfl
  |some k=>
   have:=Y k rfl;rw[cT a w' k v _ (by rw[h.nt];exact this),if_neg (λe=>by cases e;exact f rfl)]
   rfl
 have O:(⟨[(0,r)],bs',s.bs.length⟩:St).at (.sl 0)=some r:=rfl;have hv0:aw G'.σ ⟨#[v],[]⟩ w' (.sl 0)=v:=rfl;refine⟨h.fr.trans H (λB hB=>c B (.inl hB)),i.ok,by cases d<;>simp[Act.put,h.nt],λp x hp=>?_,λb j x hp=>?_,λb cs hb=>?_,λb cs hb=>?_,λb W cs cs' hb V e=>?_,λp z l hp=>?_,λp q B hp C=>?_,λp B hB b cs hb=>?_,λp B hB=>?_,hlo.trans h.lo,by rw[D];exact ZN h.len hlen,λb hb=>(L b (ZT hb h.len)).trans (h.sig b hb),?_⟩
 .rw [D];rcases R p x hp with ⟨t,rfl,f,rfl⟩|⟨t,rfl,f,J⟩|⟨b,j,rfl,J⟩
  .show RV G'.M G'.σ bs'.length x.aI (aw G'.σ (a.put d v) w' (.sl t));rw[S t f];have:=i.val _ _ O
   rwa [hv0] at this
  .show RV G'.M G'.σ bs'.length x.aI (aw G'.σ (a.put d v) w' (.sl t));rw[hvs t f];exact(h.val _ _ J).mono H.le hlen L
  .exact i.val _ _ J
 .rcases R _ x hp with ⟨t,e,_⟩|⟨t,e,_⟩|⟨W,j',e,J⟩
  .cases e
  .cases e
  .cases e;exact i.one _ _ _ J
 .rw [D] at hb;exact i.box b cs hb
 .rw [D] at hb;obtain⟨g,y⟩:=i.bmem b cs hb;exact⟨g,c _ y⟩
 .rw [D] at hb V;exact i.inj b W cs cs' hb V e
 .rcases R p _ hp with ⟨t,rfl,f,J⟩|⟨t,rfl,f,J⟩|⟨b,j,rfl,J⟩
  .subst J;obtain⟨X,k,g,y,A⟩:=i.own _ _ _ O;refine⟨X,k,(S t f).trans g,y,?_⟩;rcases A with A|⟨B,hB,n,F⟩
   .exact .inl A
   .exact .inr ⟨B,by simp only[jh,f,if_true];exact hB,n,F.lt,F.cells,F.free,c _ F.mine⟩
  .obtain ⟨X,k,g,y,A⟩:=h.own _ _ _ J;refine⟨X,k,(hvs t f).trans g,y,?_⟩;rcases A with A|⟨B,hB,n,F⟩
   .exact .inl A
   .have hn:=m t B hB;have K:=(h.cllt _ B hB).1;obtain⟨vs,T,h6,h7⟩:=F.cells;exact .inr ⟨B,by simp only[jh,f,if_false];exact hB,n,F.lt,⟨vs,T,(H.heap B K hn).trans h6,h7⟩,λo Q=>(H.mem B K hn o).trans (F.free o Q),F.mine⟩
  .obtain ⟨X,k,g,y,A⟩:=i.own _ _ _ J;refine⟨X,k,g,y,?_⟩;rcases A with A|⟨B,hB,n,F⟩
   .exact .inl A
   .exact .inr ⟨B,hB,n,F.lt,F.cells,F.free,c _ F.mine⟩
 .have I:∀t Z B,G.cl (.sl t)=some B->G'.cl Z=some B->False:=λt Z B g y=>by
   have A:=(h.cllt _ B g).1;rcases(i.cllt Z B y).2 with n|n
   .exact m t B g n
   .have:w.heap.size<=B:=n;omega
  cases p with
  |sl t=>
   cases q with
   |sl u=>
    simp only[jh] at hp C
    by_cases f:d=some t<;>by_cases hu:d=some u
    .rw [f] at hu;cases hu;rfl
    .rw [if_pos f] at hp;rw[if_neg hu] at C;exact(I _ _ _ C hp).elim
    .rw [if_neg f] at hp;rw[if_pos hu] at C;exact(I _ _ _ hp C).elim
    .rw [if_neg f] at hp;rw[if_neg hu] at C
     exact h.clinj _ _ B hp C
   |bx b j=>
    simp only[jh] at hp C
    by_cases f:d=some t
    .rw [if_pos f] at hp;have:=i.clinj _ _ B hp C;cases this
    .rw [if_neg f] at hp;exact(I _ _ _ hp C).elim
  |bx b j=>
   cases q with
   |sl u=>
    simp only[jh] at hp C
    by_cases hu:d=some u
    .rw [if_pos hu] at C;have:=i.clinj _ _ B hp C;cases this
    .rw [if_neg hu] at C;exact(I _ _ _ C hp).elim
   |bx W j'=>exact i.clinj _ _ B hp C
 .rw [D] at hb
  cases p with
  |sl t=>
   simp only[jh] at hB
   by_cases f:d=some t
   .rw [if_pos f] at hB;exact i.clbox _ B hB b cs hb
   .rw [if_neg f] at hB;intro e;have A:=(h.cllt _ B hB).1;rcases(i.bmem b cs hb).2 with n|n
    .exact m t B hB (e▸n)
    .have:w.heap.size<=G'.σ b:=n;have e':G'.σ b=B:=e
     omega
  |bx W j'=>exact i.clbox _ B hB b cs hb
 .cases p with
  |sl t=>
   simp only[jh] at hB
   by_cases f:d=some t
   .rw [if_pos f] at hB;obtain⟨g,y⟩:=i.cllt _ B hB;exact⟨g,c B y⟩
   .rw [if_neg f] at hB;obtain⟨g,y⟩:=h.cllt _ B hB
    exact⟨ZT g H.size,y⟩
  |bx W j'=>
   obtain⟨g,y⟩:=i.cllt _ B hB;exact⟨g,c B y⟩
 .have Y:(a.put d v).defers=a.defers:=put_defers a d v
  have I:∀t B,G.cl (.sl t)=some B->eo G s.bs B\/w.heap.size<=B->False:=λt B g y=>by
   have A:=(h.cllt _ B g).1;rcases y with n|n
   .exact m t B g n
   .omega
  rw[D,Y];refine⟨λB o hs=>?_,i.sp.base,i.sp.inj,h.sp.ds,i.sp.rows⟩;rcases hs with ⟨b,x,hb,e,Q⟩|⟨U,Q⟩
  .obtain ⟨g,y,A⟩:=i.sp.ob B o (.inl ⟨b,x,hb,e,Q⟩);refine⟨g,λp hp=>?_,c B A⟩
   cases p with
   |sl t=>
    simp only[jh] at hp;split at hp
    .exact y _ hp
    .exact I t B hp A
   |bx b j=>exact y _ hp
  .obtain ⟨g,y,A⟩:=h.sp.ob B o (.inr ⟨U,Q⟩);have K:=(zh.1 g).1
   have N:¬eo G s.bs B:=λhF=>by
    rcases hF with ⟨b,cs,hb,e⟩|⟨b,j,hb⟩|⟨b,x,hb,e⟩
    .obtain ⟨vs,T,n,_⟩:=h.box b cs hb;rw[e,g,Q] at n;cases n
    .exact y _ hb
    .have:=(h.sp.ob B _ (.inl ⟨b,x,hb,e,rfl⟩)).1;rw[g,Q] at this;exact(x.ES this).elim
   refine⟨(H.heap B K N).trans g,λp hp=>?_,A⟩
   have P:∀q,G'.cl q=some B->False:=λq C=>by
    rcases(i.cllt q B C).2 with n|n
    .exact N n
    .have:w.heap.size<=B:=n;omega
   cases p with
   |sl t=>
    simp only[jh] at hp;split at hp
    .exact P _ hp
    .exact y _ hp
   |bx b j=>exact P _ hp
theorem wc{P:Program}{rd:Option Nat}{n:Nat}{f:FuncId}{args:Array Value}{w:World}{R:Ending->World->Prop}(h:Calls P f args w R):CallsIn (F0 rd) n P f args w R:=
 (callsIn_wide (n:=n)).2 h
theorem Io(P:Program)(ρ:Operand->Value)(o:Oper){fx:Operand}{args:Array Operand}{ts:Array TypeId}(ho:o.op=.call {callee:=.value fx,args:=args,argTypes:=ts}){f:FuncId}{us vs:List Value}(hf:ρ fx=.func (.func f) us.toArray vs.toArray)
  {fn : Func} (hfn : P.funcs[f]? = some fn) (hb : fn.body.isSome = true) (hnm : fn.name ≠ "runtime.NumGoroutine") (w : World) : (execOp ρ o).run P w = .ok (.enter f (us ++ args.toList.map ρ ++ vs).toArray) w := by
 have hb':fn.body≠none:=λh=>by simp[h] at hb
 unfold execOp;simp[ho,resolve,hf,Deferred.ofValue,invoke,callFunc,hfn,hb',hnm]
theorem FG(P:Program)(ρ:Operand->Value)(o:Oper){a:Operand}{args:Array Operand}{ts:Array TypeId}(b:o.op=.call {callee:=.value a,args:=args,argTypes:=ts}){l:Nat}(c:ρ a=.func (.yield l) #[] #[])
  {w:World} {x:Next} (h:(Instr.yield l (args.toList.map ρ).toArray).run P w=.ok x w):(execOp ρ o).run P w=.ok x w:=by
 unfold execOp;have:(args.toList.map ρ).toArray=args.map ρ:=by rw[<-Array.toList_map]
 rw[this] at h;simp only[b,resolve,c,Deferred.ofValue,invoke];simpa using h
def jD(P:Program)(s:St)(d:Option Nat)(f:AV)(args:List AV)(K:St->Prop):Prop:=
 match f with
 |.fn (.func f) xs ys=>∃Q,(Sem P f ((xs++args++ys).map AV.norm) s.bs Q\/Sem P f (xs++args++ys) s.bs Q)/\∀r bs',Q r bs'->K ((⟨s.env,bs',s.lo⟩:St).put d r)
 |.yl b=>∃Q,mB P b (args.map AV.norm) s.bs Q/\∀r bs',Q r bs'->K ((⟨s.env,bs',s.lo⟩:St).put d r)
 |_=>False
def dQ(P:Program)(f:FuncId):Bool:=match P.funcs[f]? with
 | some fn => fn.body.isSome && decide (fn.name ≠ "runtime.NumGoroutine")
 |none=>false
theorem Sem.norm{P:Program}{f:FuncId}{ab:List AV}{bs:List Box}{Q:AV->List Box->Prop}(h:Sem P f (ab.map AV.norm) bs Q):Sem P f ab bs Q:=
 λE G a0 w args lo e d c=>h E G a0 w args lo e (by simpa using d) λj a v b=>by
  simp only[zF] at a;rw[ZD];exact(c j a v b).norm
theorem we{P:Program}{s:St}{o:Oper}{J:Operand}{args:Array Operand}{ts:Array TypeId}(t:o.op=.call {callee:=.value J,args:=args,argTypes:=ts}){x:Opd}{rs:List Opd}(H:opd J=some x)(hr:bp args.toList=some rs){K:St->Prop}
  (p:∀f xs ys,s.ev x=.fn (.func f) xs ys->dQ P f=true) (h:jD P s o.dst (s.ev x) (evs s.ev rs) K):OpS P o s K:=by
 unfold jD at h;split at h
 .rename_i f xs ys m;obtain⟨Q,q,D⟩:=h;have C:=q.elim (λh=>h.norm) id;intro E G a w rd n next QQ hs i g
  have hb:=p f xs ys m;unfold dQ at hb;split at hb
  .rename_i fn B;simp only[zD,decide_eq_true_eq] at hb;have d:=hs.ev H;rw[m] at d;obtain⟨us,vs,d,y,l2,L,z⟩:=d.rZ;obtain⟨u,a2⟩:=hs.evs hr;refine⟨λ_ _=>trivial,?_⟩;rw[Oper.semAt_eq _ _ _ (λc e=>by rw[t] at e;cases e),Io P _ o t d B hb.1 hb.2]
   show ((F0 rd).depth.isSome=true->1<=n)/\CallsIn (F0 rd) (n-1) P f _ w _;refine⟨(λe=>by cases e),wc ((C E G a w _ s.lo hs.boxes (by simp[y,l2,u]) (λj M v k=>?_)).mono ?_)⟩
   .simp only[zC] at M
    by_cases I:j<xs.length
    .rw [zg,zK (by omega)] at k
     rw[ZH (by simp;omega),ZH I]
     exact L j I v k
    .by_cases N:j<xs.length+(evs s.ev rs).length
     .rw [zK (by simp only[zC];omega),zZ (by omega)] at k
      rw[ZH (by simp;omega),ZW (by omega)]
      rw[y] at k;exact a2 _ (by omega) v k
     .rw [zZ (by simp only[zC];omega)] at k
      rw[ZW (by simp;omega)]
      simp only[zC] at k|-;rw[y,u] at k;exact z _ (by omega) v k
   .rintro e w' ⟨v,r,bs',G',rfl,A,F⟩;exact g _ _ _ w' (D r bs' A) (hs.after F i) (put_defers _ _ _)
  .cases hb
 .rename_i b m;obtain⟨Q,q,D⟩:=h;have C:=q.norm;intro E G a w rd n next QQ hs i g
  have d:=hs.ev H;rw[m] at d;obtain⟨d,_⟩:=d.Km;obtain⟨u,a2⟩:=hs.evs hr;obtain⟨f,tmps,assign,body,z,l⟩:=C E G a w _ s.lo hs.boxes u a2;refine⟨λ_ _=>trivial,?_⟩;rw[Oper.semAt_eq _ _ _ (λc e=>by rw[t] at e;cases e),FG P _ o t d z]
  show ((F0 rd).depth.isSome=true->1<=n)/\RoundIn (F0 rd) (n-1) P _ _ _ _ _ w _;refine⟨(λe=>by cases e),(l rd (n-1)).mono ?_⟩
  rintro e w' ⟨v,r,bs',G',rfl,A,F⟩;exact g _ _ _ w' (D r bs' A) (hs.after F i) (put_defers _ _ _)
 .exact h.elim
end
inductive AX where
 |normal
 |exit (id:Nat)
 |ret
def AX.up:AX->Exit
 |.normal=>.normal
 |.exit id=>.exit id
 |.ret=>.ret
def WP(P:Program)(nt:Nat)(fl:Bool)(c:Code)(s:St)(Q:AX->St->Prop):Prop:=
 ∀(E:Entry) (G:Gh) (a:Act) (w:World) (rd:Option Nat) (n:Nat),RS E G s a w->(E.nt=nt/\(fl=true->rd=none))->
  c.wpIn (F0 rd) n P (λe d w'=>∃x b G',e=x.up/\Q x b/\RS E G' b d w') a w
section
variable{P:Program}{nt:Nat}{fl:Bool}{s:St}{Q:AX->St->Prop}
theorem WP.mono{c:Code}{Q':AX->St->Prop}(h:WP P nt fl c s Q)(d:∀x s,Q x s->Q' x s):WP P nt fl c s Q':=λE G a w rd n hs he=>
 wpIn_mono (h E G a w rd n hs he) λ_ _ _ ⟨x,b,G',e,q,r⟩=>⟨x,b,G',e,d _ _ q,r⟩
theorem WP.skip(h:Q .normal s):WP P nt fl .skip s Q:=λ_ G _ _ _ _ hs _=>wpIn_skip ⟨.normal,s,G,rfl,h,hs⟩
theorem WP.label{l:Nat}(h:Q .normal s):WP P nt fl (.label l) s Q:=λ_ G _ _ _ _ hs _=>wpIn_label ⟨.normal,s,G,rfl,h,hs⟩
theorem WP.exit{id:Nat}(h:Q (.exit id) s):WP P nt fl (.exit id) s Q:=λ_ G _ _ _ _ hs _=>wpIn_exit ⟨.exit id,s,G,rfl,h,hs⟩
theorem WP.ret(h:Q .ret s):WP P nt fl .ret s Q:=λ_ G _ _ _ _ hs _=>wpIn_ret ⟨.ret,s,G,rfl,h,hs⟩
def oS(K:St->Prop)(Q:AX->St->Prop):AX->St->Prop
 |.normal,s=>K s
 |x,s=>Q x s
theorem WP.seq{x y:Code}(h:WP P nt fl x s (oS (λc=>WP P nt fl y c Q) Q)):WP P nt fl (.seq x y) s Q:=λE G a w rd n hs he=>by
 refine wpIn_seq (wpIn_mono (h E G a w rd n hs he) ?_);rintro e k w' ⟨g,c,G',rfl,q,b⟩
 cases g with
 |normal=>
  refine wpIn_mono (q E G' k w' rd n b he) ?_;rintro m a2 l ⟨f,s2,G2,j,i,d⟩
  exact⟨f,s2,G2,j,i,d⟩
 |exit id=>exact⟨.exit id,c,G',rfl,q,b⟩
 |ret=>exact⟨.ret,c,G',rfl,q,b⟩
theorem WP.cond{c:Operand}{r:Opd}(f:opd c=some r){x y:Code}(h:match s.ev r with
  |.bool b=>(b=true->WP P nt fl x s Q)/\(b=false->WP P nt fl y s Q)
  |_=>False):WP P nt fl (.cond c x y) s Q:=λE G a w rd n hs he=>by
 split at h
 .rename_i b hb;have d:=hs.ev f;rw[hb] at d;refine wpIn_cond_split d.cS (λe=>h.1 e E G a w rd n hs he) (λe=>h.2 e E G a w rd n hs he)
 .exact h.elim
def wu(id:Nat)(Q:AX->St->Prop):AX->St->Prop
 |.exit a,s=>match Nat.beq a id with
  |true=>Q .normal s
  |false=>Q (.exit a) s
 |x,s=>Q x s
theorem WP.block{id:Nat}{c:Code}(h:WP P nt fl c s (wu id Q)):WP P nt fl (.block id c) s Q:=λE G a w rd n hs he=>by
 refine wpIn_block (wpIn_mono (h E G a w rd n hs he) ?_);rintro e i w' ⟨g,f,G',rfl,q,d⟩
 cases g with
 |normal=>exact⟨.normal,f,G',rfl,q,d⟩
 |ret=>exact⟨.ret,f,G',rfl,q,d⟩
 |exit b=>
  simp only[wu] at q
  by_cases e:b=id
  .subst e;have:Nat.beq b b=true:=by simp
   rw[this] at q;simp only[AX.up,Exit.inBlock,if_true];exact⟨.normal,f,G',rfl,q,d⟩
  .rw [cw e] at q;simp only[AX.up,Exit.inBlock,if_neg e];exact⟨.exit b,f,G',rfl,q,d⟩
theorem ju{P:Program}{b:Frame}{a:Act}{k:List Item}{cs:List Frame}{w:World}{c:Code}:step P (lone (b.atR a (.code (.scope c)::k)) cs w)=.next (lone (b.atR a (.code c::.inScope c::k)) cs w):=
 step_lone_go (by simp[stepG,stepG.exec,Frame.atR])
theorem wL{P:Program}{b:Frame}{a:Act}{k:List Item}{cs:List Frame}{w:World}{c:Code}:step P (lone (b.atR a (.inScope c::k)) cs w)=.next (lone (b.atR a k) cs w):=
 step_lone_go (by simp[stepG,stepG.exec,Frame.atR])
theorem WP.scope{c:Code}(h:WP P nt fl c s Q):WP P nt fl (.scope c) s Q:=λE G a w rd n hs he b k cs m hb hr=>by
 have i:(lone (b.atR a (.code (.scope c)::k)) cs w).fenced P (F0 rd):=fenced_calm hb hr rfl;obtain⟨e,p,j,u,d⟩:=h E G a w rd n hs he b (.inScope c::k) cs m hb hr;obtain⟨t,l,G',rfl,q,g⟩:=u
 cases t with
 |normal=>exact⟨.normal,p,j,⟨.normal,l,G',rfl,q,g⟩,.head i ju (StepsIn.trans d (.one (fenced_calm hb hr rfl) wL))⟩
 |exit f=>
  have r:exitTo f (.inScope c::k)=exitTo f k:=by simp[exitTo]
  exact⟨.exit f,p,j,⟨.exit f,l,G',rfl,q,g⟩,λk' hk=>.head i ju (d.1 k' (by rw[r];exact hk)),
   λo hk=>let ⟨k₁,x,v⟩:=d.2 o (by rw[r];exact hk);⟨k₁,x,.head i ju v⟩⟩
 |ret=>exact⟨.ret,p,j,⟨.ret,l,G',rfl,q,g⟩,.of_steps (.one i ju) d⟩
def aD(s b:St):Prop:=∀E G a w,RS E G s a w->∃G',RS E G' b a w
theorem aD.refl(s:St):aD s s:=λ_ G _ _ h=>⟨G,h⟩
theorem aD.trans{s1 s2 b:St}(h:aD s1 s2)(k:aD s2 b):aD s1 b:=λE G a w hs=>let ⟨G',c⟩:=h E G a w hs;k E G' a w c
theorem WP.Oo{c:Code}{b:St}(hw:aD s b)(h:WP P nt fl c b Q):WP P nt fl c s Q:=λE G a w rd n hs he=>
 let ⟨G',d⟩:=hw E G a w hs
 h E G' a w rd n d he
theorem WP.sD{c:Code}(h:WP P nt fl c s λx d=>∃b,aD d b/\Q x b):WP P nt fl c s Q:=λE G a w rd n hs he=>
 wpIn_mono (h E G a w rd n hs he) λ_ _ _ ⟨x,_,_,e,⟨b,hw,q⟩,r⟩=>let ⟨G2,f⟩:=hw _ _ _ _ r;⟨x,b,G2,e,q,f⟩
theorem Eh{F:Fence}{n:Nat}{c:Code}{Q:Exit->Act->World->Prop}(I:Nat->Act->World->Prop){m:Nat}{a:Act}{w:World}(h₀:I m a w)
  (round:∀m a w,I m a w->c.wpIn F n P (Exit.then (λo w'=>∃p,p<m/\I p o w') Q) a w):(Code.loop c).wpIn F n P Q a w:=by
 intro b k cs q hb hr
 have key:∀j a w,I j a w->
   ∃e o w',Q e o w'/\ArrivesIn (Machine.fenced P F) P (lone (b.atR a (.code c::.inLoop c::k)) cs w) b k cs e o w':=by
  intro j
  induction j using Nat.strongRecOn with
  |_ j ih=>
   intro a w v;obtain⟨e,i,h,f,d⟩:=round j a w v b (.inLoop c::k) cs q hb hr
   cases e with
   |normal=>
    obtain⟨p,s,t⟩:=f;obtain⟨y,z,u,r,g⟩:=ih p s i h t
    exact⟨y,z,u,r,.of_steps (StepsIn.trans d (.one (fenced_calm hb hr rfl) stepR_inLoop)) g⟩
   |exit id=>exact⟨_,i,h,f,.pass (x:=.inLoop c) rfl (λ_ _=>.inl (by simp)) d⟩
   |goto l=>exact⟨_,i,h,f,.pass (x:=.inLoop c) rfl (λ_ _=>.inl (by simp)) d⟩
   |ret=>exact⟨_,i,h,f,.pass (x:=.inLoop c) rfl (λ_ _=>.inl (by simp)) d⟩
   |panic A=>exact⟨_,i,h,f,.pass (x:=.inLoop c) rfl (λ_ _=>.inl (by simp)) d⟩
   |outgrown=>exact⟨_,i,h,f,.pass (x:=.inLoop c) rfl (λ_ _=>.inl (by simp)) d⟩
 obtain⟨e,o,w',f,d⟩:=key _ a w h₀;exact⟨e,o,w',f,.of_steps (.one (fenced_calm hb hr rfl) stepR_loop) d⟩
theorem WP.loop{c:Code}(I:Nat->St->Prop){m:Nat}(p:I m s)(round:∀m s,I m s->WP P nt fl c s (oS (λb=>∃f,f<m/\I f b) Q)):WP P nt fl (.loop c) s Q:=λE G a w rd n hs he=>by
 refine Eh (λm i w'=>∃b G',I m b/\RS E G' b i w') ⟨s,G,p,hs⟩ ?_;rintro m r k ⟨s1,G1,o,g⟩;refine wpIn_mono (round m s1 o E G1 r k rd n g he) ?_;rintro e i w' ⟨j,b,G',rfl,q,d⟩
 cases j with
 |normal=>obtain⟨f,h,l⟩:=q;exact⟨f,h,b,G',l,d⟩
 |exit id=>exact⟨.exit id,b,G',rfl,q,d⟩
 |ret=>exact⟨.ret,b,G',rfl,q,d⟩
end
end Go.AM
