/-
  Texts of this aV joined (wip/gen/bundle.py),those declarations only that are needed:AmC. By an AI agent.
-/
import Derived.Test.YtcjfkbdbcgmomaaGreatDoorSag
set_option linter.unusedSimpArgs false
set_option linter.unusedVariables false
namespace Go.AM
open Go.CK Go.RowKit
def eA(G:Gh)(bs:List Box)(B:Nat):Prop:=(∃b cs,aa bs b=some cs/\G.σ b=B)\/(∃b j,G.cl (.bx b j)=some B)\/(∃b x,ag bs b=some x/\G.σ b=B)
def bB(G:Gh)(bs:List Box)(w:World)(nt:Nat):Entry:=⟨eA G bs,G.M,w,nt,bs.length,G.σ,[]⟩
def Sem(P:Program)(f:FuncId)(ae:List AV)(bs:List Box)(Q:AV->List Box->Prop):Prop:=
 ∀(E:Entry) (G:Gh) (a0:Act) (w:World) (args:List Value) (lo:Nat),RS E G ⟨[],bs,lo⟩ a0 w->args.length=ae.length->(∀j (h:j<ae.length) v,args[j]? =some v->RV G.M G.σ bs.length ae[j] v)->
  Calls P f args.toArray w λe w'=>∃v r bs' G',e=.returned v/\Q r bs'/\RS (bB G bs w 1) G' ⟨[(0,r)],bs',bs.length⟩ ⟨#[v],[]⟩ w'
def my(P:Program)(b:Nat)(ae:List AV)(bs:List Box)(Q:AV->List Box->Prop):Prop:=
 ∀(E:Entry) (G:Gh) (a0:Act) (w:World) (args:List Value) (lo:Nat),RS E G ⟨[],bs,lo⟩ a0 w->args.length=ae.length->(∀j (h:j<ae.length) v,args[j]? =some v->RV G.M G.σ bs.length ae[j] v)->
  ∃f tmps assign body,(Instr.yield (G.σ b) args.toArray).run P w=.ok (.round (G.σ b) f tmps assign body) w/\∀rd n,RoundIn (F0 rd) n P (G.σ b) f tmps assign body w λe w'=>∃v r bs' G',e=.returned v/\Q r bs'/\RS (bB G bs w 1) G' ⟨[(0,r)],bs',bs.length⟩ ⟨#[v],[]⟩ w'
theorem my.norm{P:Program}{b:Nat}{ae:List AV}{bs:List Box}{Q:AV->List Box->Prop}(h:my P b (ae.map AV.norm) bs Q):my P b ae bs Q:=
 λE G a0 w args lo h1 h2 h3=>h E G a0 w args lo h1 (by simpa using h2) λj hj v hv=>by
  simp only[zF] at hj;rw[ZE];exact(h3 j hj v hv).norm
theorem Sem.mono{P:Program}{f:FuncId}{ae:List AV}{bs:List Box}{Q Q':AV->List Box->Prop}(h:Sem P f ae bs Q)(hq:∀r b,Q r b->Q' r b):Sem P f ae bs Q':=
 λE G a0 w args lo h1 h2 h3=>(h E G a0 w args lo h1 h2 h3).mono λ_ _ ⟨v,r,bs',G',e,q,x⟩=>⟨v,r,bs',G',e,hq _ _ q,x⟩
section
variable{E:Entry}{G:Gh}{s:St}{a:Act}{w:World}{P:Program}
theorem RS.boxes(h:RS E G s a w):RS E G ⟨[],s.bs,s.lo⟩ a w:=by
 have hat:∀p x,(⟨[],s.bs,s.lo⟩:St).at p=some x->s.at p=some x:=λp x hp=>by
  cases p with
  |sl t=>simp[St.at,aq] at hp
  |bx b j=>exact hp
 exact⟨h.fr,h.ok,h.nt,λp x hp=>h.val p x (hat p x hp),λb j x hp=>h.one b j x (hat _ x hp),h.box,h.bmem,h.inj,λp z l hp=>h.own p z l (hat p _ hp),h.clinj,h.clbox,h.cllt,h.lo,h.len,h.sig,h.sp⟩
theorem rC(h:RS E G s a w){B:Nat}(hB:eA G s.bs B):(E.FP B\/E.w.heap.size<=B)/\B<w.heap.size:=by
 rcases hB with ⟨b,cs,hb,rfl⟩|⟨b,j,hb⟩|⟨b,x,hb,e⟩
 .exact ⟨(h.bmem b cs hb).2,h.blt hb⟩
 .exact ⟨(h.cllt _ B hb).2,(h.cllt _ B hb).1⟩
 .obtain ⟨h1,_,h3⟩:=h.sp.ob B _ (.inl ⟨b,x,hb,e,rfl⟩);exact⟨h3,(zi.1 h1).1⟩
def i7(G G':Gh)(d:Option Nat):Gh:={G' with cl:=λp=>match p with
 |.sl t=>if d=some t then G'.cl (.sl 0) else G.cl (.sl t)
 |.bx b j=>G'.cl (.bx b j)}
theorem RS.after(h:RS E G s a w){G':Gh}{r:AV}{bs':List Box}{v:Value}{w':World}(h':RS (bB G s.bs w 1) G' ⟨[(0,r)],bs',s.bs.length⟩ ⟨#[v],[]⟩ w'){d:Option Nat}(hd:∀k,d=some k->k<E.nt):
  RS E (i7 G G' d) ((⟨s.env,bs',s.lo⟩:St).put d r) (a.put d v) w':=by
 have hmine:∀B,(eA G s.bs B\/w.heap.size<=B)->(E.FP B\/E.w.heap.size<=B):=λB hB=>by
  rcases hB with hB|hB
  .exact (rC h hB).1
  .exact .inr (ZP h.fr.size hB)
 have hlen:s.bs.length<=bs'.length:=h'.len;have hsig:∀b,b<s.bs.length->G'.σ b=G.σ b:=h'.sig;have hfr:Fr (eA G s.bs) G.M w G'.M w':=h'.fr;have hbs:((⟨s.env,bs',s.lo⟩:St).put d r).bs=bs':=by cases d<;>rfl
 have hlo:((⟨s.env,bs',s.lo⟩:St).put d r).lo=s.lo:=by cases d<;>rfl
 have hnotFP:∀t B,G.cl (.sl t)=some B->¬eA G s.bs B:=λt B hB hF=>by
  rcases hF with ⟨b,cs,hb,e⟩|⟨b,j,hb⟩|⟨b,x,hb,e⟩
  .exact h.clbox _ B hB b cs hb e
  .have:=h.clinj _ _ B hB hb;cases this
  .exact (h.sp.ob B _ (.inl ⟨b,x,hb,e,rfl⟩)).2.1 _ hB
 have hat:∀p x,((⟨s.env,bs',s.lo⟩:St).put d r).at p=some x->(∃t,p=.sl t/\d=some t/\x=r)\/(∃t,p=.sl t/\d≠some t/\s.at (.sl t)=some x)\/(∃b j,p=.bx b j/\(⟨[(0,r)],bs',s.bs.length⟩:St).at (.bx b j)=some x):=λp x hp=>by
  cases p with
  |sl t=>
   cases d with
   |none=>exact .inr (.inl ⟨t,rfl,by simp,hp⟩)
   |some k=>
    rw[St.ef] at hp
    by_cases e:Pl.sl t=.sl k
    .cases e;rw[if_pos rfl] at hp;cases hp;exact .inl ⟨t,rfl,rfl,rfl⟩
    .rw [if_neg e] at hp
     exact .inr (.inl ⟨t,rfl,λe2=>e (by cases e2;rfl),hp⟩)
  |bx b j=>
   refine .inr (.inr ⟨b,j,rfl,?_⟩);simp only[St.at,hbs] at hp|-;exact hp
 have hvr:∀t,d=some t->aw G'.σ (a.put d v) w' (.sl t)=v:=λt ht=>by
  subst ht;have:=hd t rfl;rw[cQ a w' t v _ (by rw[h.nt];exact this),if_pos rfl]
 have hvs:∀t,d≠some t->aw G'.σ (a.put d v) w' (.sl t)=aw G.σ a w (.sl t):=λt ht=>by
  cases d with
  |none=>rfl
  |some k=>
   have:=hd k rfl;rw[cQ a w' k v _ (by rw[h.nt];exact this),if_neg (λe=>by cases e;exact ht rfl)]
   rfl
 have hat0:(⟨[(0,r)],bs',s.bs.length⟩:St).at (.sl 0)=some r:=rfl;have hv0:aw G'.σ ⟨#[v],[]⟩ w' (.sl 0)=v:=rfl;refine⟨h.fr.trans hfr (λB hB=>hmine B (.inl hB)),h'.ok,by cases d<;>simp[Act.put,h.nt],λp x hp=>?_,λb j x hp=>?_,λb cs hb=>?_,λb cs hb=>?_,λb b' cs cs' hb hb' e=>?_,λp z l hp=>?_,λp q B hp hq=>?_,λp B hB b cs hb=>?_,λp B hB=>?_,hlo.trans h.lo,by rw[hbs];exact ZP h.len hlen,λb hb=>(hsig b (ZV hb h.len)).trans (h.sig b hb),?_⟩
 .rw [hbs];rcases hat p x hp with ⟨t,rfl,ht,rfl⟩|⟨t,rfl,ht,hx⟩|⟨b,j,rfl,hx⟩
  .show RV G'.M G'.σ bs'.length x.aG (aw G'.σ (a.put d v) w' (.sl t));rw[hvr t ht];have:=h'.val _ _ hat0
   rwa [hv0] at this
  .show RV G'.M G'.σ bs'.length x.aG (aw G'.σ (a.put d v) w' (.sl t));rw[hvs t ht];exact(h.val _ _ hx).mono hfr.le hlen hsig
  .exact h'.val _ _ hx
 .rcases hat _ x hp with ⟨t,e,_⟩|⟨t,e,_⟩|⟨b',j',e,hx⟩
  .cases e
  .cases e
  .cases e;exact h'.one _ _ _ hx
 .rw [hbs] at hb;exact h'.box b cs hb
 .rw [hbs] at hb;obtain⟨h1,h2⟩:=h'.bmem b cs hb;exact⟨h1,hmine _ h2⟩
 .rw [hbs] at hb hb';exact h'.inj b b' cs cs' hb hb' e
 .rcases hat p _ hp with ⟨t,rfl,ht,hx⟩|⟨t,rfl,ht,hx⟩|⟨b,j,rfl,hx⟩
  .subst hx;obtain⟨ad,k,h1,h2,h3⟩:=h'.own _ _ _ hat0;refine⟨ad,k,(hvr t ht).trans h1,h2,?_⟩;rcases h3 with h3|⟨B,hB,h4,h5⟩
   .exact .inl h3
   .exact .inr ⟨B,by simp only[i7,ht,if_true];exact hB,h4,h5.lt,h5.cells,h5.free,hmine _ h5.mine⟩
  .obtain ⟨ad,k,h1,h2,h3⟩:=h.own _ _ _ hx;refine⟨ad,k,(hvs t ht).trans h1,h2,?_⟩;rcases h3 with h3|⟨B,hB,h4,h5⟩
   .exact .inl h3
   .have hn:=hnotFP t B hB;have hlt:=(h.cllt _ B hB).1;obtain⟨vs,T,h6,h7⟩:=h5.cells;exact .inr ⟨B,by simp only[i7,ht,if_false];exact hB,h4,h5.lt,⟨vs,T,(hfr.heap B hlt hn).trans h6,h7⟩,λo ho=>(hfr.mem B hlt hn o).trans (h5.free o ho),h5.mine⟩
  .obtain ⟨ad,k,h1,h2,h3⟩:=h'.own _ _ _ hx;refine⟨ad,k,h1,h2,?_⟩;rcases h3 with h3|⟨B,hB,h4,h5⟩
   .exact .inl h3
   .exact .inr ⟨B,hB,h4,h5.lt,h5.cells,h5.free,hmine _ h5.mine⟩
 .have far:∀t q' B,G.cl (.sl t)=some B->G'.cl q'=some B->False:=λt q' B h1 h2=>by
   have h3:=(h.cllt _ B h1).1;rcases(h'.cllt q' B h2).2 with h4|h4
   .exact hnotFP t B h1 h4
   .have:w.heap.size<=B:=h4;omega
  cases p with
  |sl t=>
   cases q with
   |sl u=>
    simp only[i7] at hp hq
    by_cases ht:d=some t<;>by_cases hu:d=some u
    .rw [ht] at hu;cases hu;rfl
    .rw [if_pos ht] at hp;rw[if_neg hu] at hq;exact(far _ _ _ hq hp).elim
    .rw [if_neg ht] at hp;rw[if_pos hu] at hq;exact(far _ _ _ hp hq).elim
    .rw [if_neg ht] at hp;rw[if_neg hu] at hq
     exact h.clinj _ _ B hp hq
   |bx b j=>
    simp only[i7] at hp hq
    by_cases ht:d=some t
    .rw [if_pos ht] at hp;have:=h'.clinj _ _ B hp hq;cases this
    .rw [if_neg ht] at hp;exact(far _ _ _ hp hq).elim
  |bx b j=>
   cases q with
   |sl u=>
    simp only[i7] at hp hq
    by_cases hu:d=some u
    .rw [if_pos hu] at hq;have:=h'.clinj _ _ B hp hq;cases this
    .rw [if_neg hu] at hq;exact(far _ _ _ hq hp).elim
   |bx b' j'=>exact h'.clinj _ _ B hp hq
 .rw [hbs] at hb
  cases p with
  |sl t=>
   simp only[i7] at hB
   by_cases ht:d=some t
   .rw [if_pos ht] at hB;exact h'.clbox _ B hB b cs hb
   .rw [if_neg ht] at hB;intro e;have h3:=(h.cllt _ B hB).1;rcases(h'.bmem b cs hb).2 with h4|h4
    .exact hnotFP t B hB (e▸h4)
    .have:w.heap.size<=G'.σ b:=h4;have e':G'.σ b=B:=e
     omega
  |bx b' j'=>exact h'.clbox _ B hB b cs hb
 .cases p with
  |sl t=>
   simp only[i7] at hB
   by_cases ht:d=some t
   .rw [if_pos ht] at hB;obtain⟨h1,h2⟩:=h'.cllt _ B hB;exact⟨h1,hmine B h2⟩
   .rw [if_neg ht] at hB;obtain⟨h1,h2⟩:=h.cllt _ B hB
    exact⟨ZV h1 hfr.size,h2⟩
  |bx b' j'=>
   obtain⟨h1,h2⟩:=h'.cllt _ B hB;exact⟨h1,hmine B h2⟩
 .have hd:(a.put d v).defers=a.defers:=put_defers a d v
  have far:∀t B,G.cl (.sl t)=some B->eA G s.bs B\/w.heap.size<=B->False:=λt B h1 h2=>by
   have h3:=(h.cllt _ B h1).1;rcases h2 with h4|h4
   .exact hnotFP t B h1 h4
   .omega
  rw[hbs,hd];refine⟨λB o hs=>?_,h'.sp.base,h'.sp.inj,h.sp.ds,h'.sp.rows⟩;rcases hs with ⟨b,x,hb,e,ho⟩|⟨hmem,ho⟩
  .obtain ⟨h1,h2,h3⟩:=h'.sp.ob B o (.inl ⟨b,x,hb,e,ho⟩);refine⟨h1,λp hp=>?_,hmine B h3⟩
   cases p with
   |sl t=>
    simp only[i7] at hp;split at hp
    .exact h2 _ hp
    .exact far t B hp h3
   |bx b j=>exact h2 _ hp
  .obtain ⟨h1,h2,h3⟩:=h.sp.ob B o (.inr ⟨hmem,ho⟩);have hlt:=(zi.1 h1).1
   have hnot:¬eA G s.bs B:=λhF=>by
    rcases hF with ⟨b,cs,hb,e⟩|⟨b,j,hb⟩|⟨b,x,hb,e⟩
    .obtain ⟨vs,T,h4,_⟩:=h.box b cs hb;rw[e,h1,ho] at h4;cases h4
    .exact h2 _ hb
    .have:=(h.sp.ob B _ (.inl ⟨b,x,hb,e,rfl⟩)).1;rw[h1,ho] at this;exact(x.C5 this).elim
   refine⟨(hfr.heap B hlt hnot).trans h1,λp hp=>?_,h3⟩
   have far2:∀q,G'.cl q=some B->False:=λq hq=>by
    rcases(h'.cllt q B hq).2 with h4|h4
    .exact hnot h4
    .have:w.heap.size<=B:=h4;omega
   cases p with
   |sl t=>
    simp only[i7] at hp;split at hp
    .exact far2 _ hp
    .exact h2 _ hp
   |bx b j=>exact far2 _ hp
theorem uG{P:Program}{rd:Option Nat}{n:Nat}{f:FuncId}{args:Array Value}{w:World}{R:Ending->World->Prop}(h:Calls P f args w R):CallsIn (F0 rd) n P f args w R:=
 (callsIn_wide (n:=n)).2 h
theorem FH(P:Program)(ρ:Operand->Value)(o:Oper){fx:Operand}{args:Array Operand}{ts:Array TypeId}(ho:o.op=.call {callee:=.value fx,args:=args,argTypes:=ts}){f:FuncId}{us vs:List Value}(hf:ρ fx=.func (.func f) us.toArray vs.toArray)
  {fn : Func} (hfn : P.funcs[f]? = some fn) (hb : fn.body.isSome = true) (hnm : fn.name ≠ "runtime.NumGoroutine") (w : World) : (execOp ρ o).run P w = .ok (.enter f (us ++ args.toList.map ρ ++ vs).toArray) w := by
 have hb':fn.body≠none:=λh=>by simp[h] at hb
 unfold execOp;simp[ho,resolve,hf,Deferred.ofValue,invoke,callFunc,hfn,hb',hnm]
theorem DE(P:Program)(ρ:Operand->Value)(o:Oper){fx:Operand}{args:Array Operand}{ts:Array TypeId}(ho:o.op=.call {callee:=.value fx,args:=args,argTypes:=ts}){l:Nat}(hf:ρ fx=.func (.yield l) #[] #[])
  {w:World} {x:Next} (h:(Instr.yield l (args.toList.map ρ).toArray).run P w=.ok x w):(execOp ρ o).run P w=.ok x w:=by
 unfold execOp;have:(args.toList.map ρ).toArray=args.map ρ:=by rw[<-Array.toList_map]
 rw[this] at h;simp only[ho,resolve,hf,Deferred.ofValue,invoke];simpa using h
def jx(P:Program)(s:St)(d:Option Nat)(f:AV)(args:List AV)(K:St->Prop):Prop:=
 match f with
 |.fn (.func f) xs ys=>∃Q,(Sem P f ((xs++args++ys).map AV.norm) s.bs Q\/Sem P f (xs++args++ys) s.bs Q)/\∀r bs',Q r bs'->K ((⟨s.env,bs',s.lo⟩:St).put d r)
 |.yl b=>∃Q,my P b (args.map AV.norm) s.bs Q/\∀r bs',Q r bs'->K ((⟨s.env,bs',s.lo⟩:St).put d r)
 |_=>False
def dS(P:Program)(f:FuncId):Bool:=match P.funcs[f]? with
 | some fn => fn.body.isSome && decide (fn.name ≠ "runtime.NumGoroutine")
 |none=>false
theorem Sem.norm{P:Program}{f:FuncId}{ae:List AV}{bs:List Box}{Q:AV->List Box->Prop}(h:Sem P f (ae.map AV.norm) bs Q):Sem P f ae bs Q:=
 λE G a0 w args lo h1 h2 h3=>h E G a0 w args lo h1 (by simpa using h2) λj hj v hv=>by
  simp only[zF] at hj;rw[ZE];exact(h3 j hj v hv).norm
theorem uH{P:Program}{s:St}{o:Oper}{fx:Operand}{args:Array Operand}{ts:Array TypeId}(ho:o.op=.call {callee:=.value fx,args:=args,argTypes:=ts}){rf:Opd}{rs:List Opd}(hf:opd fx=some rf)(hr:bd args.toList=some rs){K:St->Prop}
  (hbody:∀f xs ys,s.ev rf=.fn (.func f) xs ys->dS P f=true) (h:jx P s o.dst (s.ev rf) (evs s.ev rs) K):OpS P o s K:=by
 unfold jx at h;split at h
 .rename_i f xs ys hfe;obtain⟨Q,hS0,hK⟩:=h;have hS:=hS0.elim (λh=>h.norm) id;intro E G a w rd n next QQ hs hdlt hnext
  have hb:=hbody f xs ys hfe;unfold dS at hb;split at hb
  .rename_i fn hfn;simp only[zD,decide_eq_true_eq] at hb;have hfv:=hs.ev hf;rw[hfe] at hfv;obtain⟨us,vs,hfv,l1,l2,hx,hy⟩:=hfv.nx;obtain⟨a1,a2⟩:=hs.evs hr;refine⟨λ_ _=>trivial,?_⟩;rw[Oper.semAt_eq _ _ _ (λc e=>by rw[ho] at e;cases e),FH P _ o ho hfv hfn hb.1 hb.2]
   show ((F0 rd).depth.isSome=true->1<=n)/\CallsIn (F0 rd) (n-1) P f _ w _;refine⟨(λe=>by cases e),uG ((hS E G a w _ s.lo hs.boxes (by simp[l1,l2,a1]) (λj hj v hv=>?_)).mono ?_)⟩
   .simp only[zC] at hj
    by_cases h1:j<xs.length
    .rw [zh,zK (by omega)] at hv
     rw[ZI (by simp;omega),ZI h1]
     exact hx j h1 v hv
    .by_cases h2:j<xs.length+(evs s.ev rs).length
     .rw [zK (by simp only[zC];omega),za (by omega)] at hv
      rw[ZI (by simp;omega),ZZ (by omega)]
      rw[l1] at hv;exact a2 _ (by omega) v hv
     .rw [za (by simp only[zC];omega)] at hv
      rw[ZZ (by simp;omega)]
      simp only[zC] at hv|-;rw[l1,a1] at hv;exact hy _ (by omega) v hv
   .rintro e w' ⟨v,r,bs',G',rfl,hq,h'⟩;exact hnext _ _ _ w' (hK r bs' hq) (hs.after h' hdlt) (put_defers _ _ _)
  .cases hb
 .rename_i b hfe;obtain⟨Q,hS0,hK⟩:=h;have hS:=hS0.norm;intro E G a w rd n next QQ hs hdlt hnext
  have hfv:=hs.ev hf;rw[hfe] at hfv;obtain⟨hfv,_⟩:=hfv.Ht;obtain⟨a1,a2⟩:=hs.evs hr;obtain⟨f,tmps,assign,body,hy,hround⟩:=hS E G a w _ s.lo hs.boxes a1 a2;refine⟨λ_ _=>trivial,?_⟩;rw[Oper.semAt_eq _ _ _ (λc e=>by rw[ho] at e;cases e),DE P _ o ho hfv hy]
  show ((F0 rd).depth.isSome=true->1<=n)/\RoundIn (F0 rd) (n-1) P _ _ _ _ _ w _;refine⟨(λe=>by cases e),(hround rd (n-1)).mono ?_⟩
  rintro e w' ⟨v,r,bs',G',rfl,hq,h'⟩;exact hnext _ _ _ w' (hK r bs' hq) (hs.after h' hdlt) (put_defers _ _ _)
 .exact h.elim
end
inductive AX where
 |normal
 |exit (id:Nat)
 |ret
def AX.up:AX->Exit
 |.normal=>.normal
 |.exit id=>.exit id
 |.ret=>.ret
def WP(P:Program)(nt:Nat)(fl:Bool)(c:Code)(s:St)(Q:AX->St->Prop):Prop:=
 ∀(E:Entry) (G:Gh) (a:Act) (w:World) (rd:Option Nat) (n:Nat),RS E G s a w->(E.nt=nt/\(fl=true->rd=none))->
  c.wpIn (F0 rd) n P (λe a' w'=>∃x s' G',e=x.up/\Q x s'/\RS E G' s' a' w') a w
section
variable{P:Program}{nt:Nat}{fl:Bool}{s:St}{Q:AX->St->Prop}
theorem WP.mono{c:Code}{Q':AX->St->Prop}(h:WP P nt fl c s Q)(hq:∀x s,Q x s->Q' x s):WP P nt fl c s Q':=λE G a w rd n hs he=>
 wpIn_mono (h E G a w rd n hs he) λ_ _ _ ⟨x,s',G',e,q,r⟩=>⟨x,s',G',e,hq _ _ q,r⟩
theorem WP.skip(h:Q .normal s):WP P nt fl .skip s Q:=λ_ G _ _ _ _ hs _=>wpIn_skip ⟨.normal,s,G,rfl,h,hs⟩
theorem WP.label{l:Nat}(h:Q .normal s):WP P nt fl (.label l) s Q:=λ_ G _ _ _ _ hs _=>wpIn_label ⟨.normal,s,G,rfl,h,hs⟩
theorem WP.exit{id:Nat}(h:Q (.exit id) s):WP P nt fl (.exit id) s Q:=λ_ G _ _ _ _ hs _=>wpIn_exit ⟨.exit id,s,G,rfl,h,hs⟩
theorem WP.ret(h:Q .ret s):WP P nt fl .ret s Q:=λ_ G _ _ _ _ hs _=>wpIn_ret ⟨.ret,s,G,rfl,h,hs⟩
def og(K:St->Prop)(Q:AX->St->Prop):AX->St->Prop
 |.normal,s=>K s
 |x,s=>Q x s
theorem WP.seq{x y:Code}(h:WP P nt fl x s (og (λs'=>WP P nt fl y s' Q) Q)):WP P nt fl (.seq x y) s Q:=λE G a w rd n hs he=>by
 refine wpIn_seq (wpIn_mono (h E G a w rd n hs he) ?_);rintro e a' w' ⟨x',s',G',rfl,q,hs'⟩
 cases x' with
 |normal=>
  refine wpIn_mono (q E G' a' w' rd n hs' he) ?_;rintro e2 a2 w2 ⟨x2,s2,G2,e3,q2,hs2⟩
  exact⟨x2,s2,G2,e3,q2,hs2⟩
 |exit id=>exact⟨.exit id,s',G',rfl,q,hs'⟩
 |ret=>exact⟨.ret,s',G',rfl,q,hs'⟩
theorem WP.cond{c:Operand}{r:Opd}(hc:opd c=some r){x y:Code}(h:match s.ev r with
  |.bool b=>(b=true->WP P nt fl x s Q)/\(b=false->WP P nt fl y s Q)
  |_=>False):WP P nt fl (.cond c x y) s Q:=λE G a w rd n hs he=>by
 split at h
 .rename_i b hb;have hv:=hs.ev hc;rw[hb] at hv;refine wpIn_cond_split hv.dm (λe=>h.1 e E G a w rd n hs he) (λe=>h.2 e E G a w rd n hs he)
 .exact h.elim
def uQ(id:Nat)(Q:AX->St->Prop):AX->St->Prop
 |.exit id',s=>match Nat.beq id' id with
  |true=>Q .normal s
  |false=>Q (.exit id') s
 |x,s=>Q x s
theorem WP.block{id:Nat}{c:Code}(h:WP P nt fl c s (uQ id Q)):WP P nt fl (.block id c) s Q:=λE G a w rd n hs he=>by
 refine wpIn_block (wpIn_mono (h E G a w rd n hs he) ?_);rintro e a' w' ⟨x',s',G',rfl,q,hs'⟩
 cases x' with
 |normal=>exact⟨.normal,s',G',rfl,q,hs'⟩
 |ret=>exact⟨.ret,s',G',rfl,q,hs'⟩
 |exit id'=>
  simp only[uQ] at q
  by_cases e:id'=id
  .subst e;have:Nat.beq id' id'=true:=by simp
   rw[this] at q;simp only[AX.up,Exit.inBlock,if_true];exact⟨.normal,s',G',rfl,q,hs'⟩
  .rw [cu e] at q;simp only[AX.up,Exit.inBlock,if_neg e];exact⟨.exit id',s',G',rfl,q,hs'⟩
theorem jn{P:Program}{b:Frame}{a:Act}{k:List Item}{cs:List Frame}{w:World}{c:Code}:step P (lone (b.atR a (.code (.scope c)::k)) cs w)=.next (lone (b.atR a (.code c::.inScope c::k)) cs w):=
 step_lone_go (by simp[stepG,stepG.exec,Frame.atR])
theorem vf{P:Program}{b:Frame}{a:Act}{k:List Item}{cs:List Frame}{w:World}{c:Code}:step P (lone (b.atR a (.inScope c::k)) cs w)=.next (lone (b.atR a k) cs w):=
 step_lone_go (by simp[stepG,stepG.exec,Frame.atR])
theorem WP.scope{c:Code}(h:WP P nt fl c s Q):WP P nt fl (.scope c) s Q:=λE G a w rd n hs he b k cs hro hb hr=>by
 have h0:(lone (b.atR a (.code (.scope c)::k)) cs w).fenced P (F0 rd):=fenced_calm hb hr rfl;obtain⟨e,a₁,w₁,hq,harr⟩:=h E G a w rd n hs he b (.inScope c::k) cs hro hb hr;obtain⟨x',s',G',rfl,q,hs'⟩:=hq
 cases x' with
 |normal=>exact⟨.normal,a₁,w₁,⟨.normal,s',G',rfl,q,hs'⟩,.head h0 jn (StepsIn.trans harr (.one (fenced_calm hb hr rfl) vf))⟩
 |exit id'=>
  have hx:exitTo id' (.inScope c::k)=exitTo id' k:=by simp[exitTo]
  exact⟨.exit id',a₁,w₁,⟨.exit id',s',G',rfl,q,hs'⟩,λk' hk=>.head h0 jn (harr.1 k' (by rw[hx];exact hk)),
   λhr' hk=>let ⟨k₁,h1,h2⟩:=harr.2 hr' (by rw[hx];exact hk);⟨k₁,h1,.head h0 jn h2⟩⟩
 |ret=>exact⟨.ret,a₁,w₁,⟨.ret,s',G',rfl,q,hs'⟩,.of_steps (.one h0 jn) harr⟩
def au(s s':St):Prop:=∀E G a w,RS E G s a w->∃G',RS E G' s' a w
theorem au.refl(s:St):au s s:=λ_ G _ _ h=>⟨G,h⟩
theorem au.trans{s1 s2 s3:St}(h:au s1 s2)(k:au s2 s3):au s1 s3:=λE G a w hs=>let ⟨G',h'⟩:=h E G a w hs;k E G' a w h'
theorem WP.Lb{c:Code}{s':St}(hw:au s s')(h:WP P nt fl c s' Q):WP P nt fl c s Q:=λE G a w rd n hs he=>
 let ⟨G',h'⟩:=hw E G a w hs
 h E G' a w rd n h' he
theorem WP.rD{c:Code}(h:WP P nt fl c s λx s'=>∃s'',au s' s''/\Q x s''):WP P nt fl c s Q:=λE G a w rd n hs he=>
 wpIn_mono (h E G a w rd n hs he) λ_ _ _ ⟨x,_,_,e,⟨s'',hw,q⟩,r⟩=>let ⟨G2,h2⟩:=hw _ _ _ _ r;⟨x,s'',G2,e,q,h2⟩
theorem CC{F:Fence}{n:Nat}{c:Code}{Q:Exit->Act->World->Prop}(I:Nat->Act->World->Prop){m:Nat}{a:Act}{w:World}(h₀:I m a w)
  (round:∀m a w,I m a w->c.wpIn F n P (Exit.then (λa' w'=>∃m',m'<m/\I m' a' w') Q) a w):(Code.loop c).wpIn F n P Q a w:=by
 intro b k cs hro hb hr
 have key:∀j a w,I j a w->
   ∃e a' w',Q e a' w'/\ArrivesIn (Machine.fenced P F) P (lone (b.atR a (.code c::.inLoop c::k)) cs w) b k cs e a' w':=by
  intro j
  induction j using Nat.strongRecOn with
  |_ j ih=>
   intro a w hI;obtain⟨e,a₁,w₁,hq,harr⟩:=round j a w hI b (.inLoop c::k) cs hro hb hr
   cases e with
   |normal=>
    obtain⟨m',hlt,hI₁⟩:=hq;obtain⟨e₂,a₂,w₂,hq₂,harr₂⟩:=ih m' hlt a₁ w₁ hI₁
    exact⟨e₂,a₂,w₂,hq₂,.of_steps (StepsIn.trans harr (.one (fenced_calm hb hr rfl) stepR_inLoop)) harr₂⟩
   |exit id=>exact⟨_,a₁,w₁,hq,.pass (x:=.inLoop c) rfl (λ_ _=>.inl (by simp)) harr⟩
   |goto l=>exact⟨_,a₁,w₁,hq,.pass (x:=.inLoop c) rfl (λ_ _=>.inl (by simp)) harr⟩
   |ret=>exact⟨_,a₁,w₁,hq,.pass (x:=.inLoop c) rfl (λ_ _=>.inl (by simp)) harr⟩
   |panic ch=>exact⟨_,a₁,w₁,hq,.pass (x:=.inLoop c) rfl (λ_ _=>.inl (by simp)) harr⟩
   |outgrown=>exact⟨_,a₁,w₁,hq,.pass (x:=.inLoop c) rfl (λ_ _=>.inl (by simp)) harr⟩
 obtain⟨e,a',w',hq,harr⟩:=key _ a w h₀;exact⟨e,a',w',hq,.of_steps (.one (fenced_calm hb hr rfl) stepR_loop) harr⟩
theorem WP.loop{c:Code}(I:Nat->St->Prop){m:Nat}(h0:I m s)(round:∀m s,I m s->WP P nt fl c s (og (λs'=>∃m',m'<m/\I m' s') Q)):WP P nt fl (.loop c) s Q:=λE G a w rd n hs he=>by
 refine CC (λm a' w'=>∃s' G',I m s'/\RS E G' s' a' w') ⟨s,G,h0,hs⟩ ?_;rintro m a1 w1 ⟨s1,G1,h1,hs1⟩;refine wpIn_mono (round m s1 h1 E G1 a1 w1 rd n hs1 he) ?_;rintro e a' w' ⟨x',s',G',rfl,q,hs'⟩
 cases x' with
 |normal=>obtain⟨m',hlt,hI⟩:=q;exact⟨m',hlt,s',G',hI,hs'⟩
 |exit id=>exact⟨.exit id,s',G',rfl,q,hs'⟩
 |ret=>exact⟨.ret,s',G',rfl,q,hs'⟩
end
end Go.AM
