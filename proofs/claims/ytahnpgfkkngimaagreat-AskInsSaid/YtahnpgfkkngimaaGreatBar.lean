/-
  Texts of this aQ joined (wip/gen/bundle.py),those declarations only that are needed:AmVx AmDf. By an AI agent.
-/
import Derived.Test.YtahnpgfkkngimaaGreatBaq
import Derived.RangeFuncLeaves
set_option linter.unusedSimpArgs false
set_option linter.unusedVariables false
namespace Go.AM
open Go.CK Go.RowKit
theorem aB.cx(s:St)(q:Pl)(h0:s.at q=some (.sl .full []))(h1:(⟨s.env,s.bs++[.row []],s.lo⟩:St).at q=some (.sl .full [])):aB s ((⟨s.env,s.bs++[.row []],s.lo⟩:St).upd q (.bsl s.bs.length 0 0)):=λE G a w hs=>by
 have h2:=hs.Gn;have hv:=h2.val _ _ h1;simp only[AV.aF] at hv;refine⟨G,h2.upd (q:=q) h1 ?_⟩;obtain⟨ad,kk,B,off,sz',e1,_,_,_,e2,_⟩:=hv.ez;have:=e2 rfl;subst this;rw[e1];exact .bsl _ _ _ _ (by simp) (ZG _) (ZJ _) (λh=>absurd rfl h)
theorem ah.cx{s t:St}(q:Pl)(h0:s.at q=some (.sl .full []))(h1:(⟨s.env,s.bs++[.row []],s.lo⟩:St).at q=some (.sl .full []))(h:ah ((⟨s.env,s.bs++[.row []],s.lo⟩:St).upd q (.bsl s.bs.length 0 0)) t):ah s t:=⟨(aB.cx s q h0 h1).trans h.out⟩
end Go.AM
namespace Go.AM
open Go.CK Go.RowKit
section
variable{P:Program}{F:Fence}{n:Nat}
theorem yn{fr:Frame}{cs:List Frame}{w w':World}{d:Deferred}{ds:List Deferred}{b:Builtin}{ts:Array TypeId}{ty:TypeId}{ck:Array Bool}{v:Value}
  (hm:fr.mode≠.run) (hd:fr.defers=d::ds) (ht:d.target=.builtin b ts ty ck) (hi:(invoke d.target d.args).run P w=.ok (.value v) w'):
  step P (lone fr cs w)=.next (lone {fr with defers:=ds} cs w'):=by
 obtain⟨t,a⟩:=d;simp only at ht hi;subst ht;refine step_lone_go ?_
 cases hmode:fr.mode with
 |run=>exact absurd hmode hm
 |returning=>simp[stepG,unwind,callDeferred,hmode,hd,hi]
 |panicking chain=>simp[stepG,unwind,callDeferred,hmode,hd,hi]
def gu(F:Fence)(n:Nat)(P:Program)(fn:Func)(tmps:Array Value)(R:Ending->World->Prop):List Deferred->FrameMode->World->Prop
  |[],u,w=>LeavesIn F n P fn tmps R [] u w
  |d::ds,u,w=>u≠.run/\
      ((∃r w',d.target=.collected r/\(Instr.takeDeferred r).run P w=.ok [] w'/\gu F n P fn tmps R ds u w')\/
       (∃b ts ty ck v w',d.target=.builtin b ts ty ck/\(invoke d.target d.args).run P w=.ok (.value v) w'/\gu F n P fn tmps R ds u w'))
theorem jU{fn:Func}{tmps:Array Value}{R:Ending->World->Prop}:∀(ds:List Deferred) (u:FrameMode) (w:World) (fr:Frame)
  (cs:List Frame),fr.mode=u->fr.defers=ds->fr.tmps=tmps->P.funcs[fr.fn]? =some fn->fr.kind=.normal->F.fn fr.fn->F.room (cs.length+1+n)->gu F n P fn tmps R ds u w->
  ∃e w' fr',R e w'/\ComesIn (Machine.fenced P F) P (lone fr cs w) (lone fr' cs w') e/\fr'.fn=fr.fn/\fr'.leaving P w' e:=by
 intro ds
 induction ds with
 |nil=>exact λu w fr cs hu hd ht hf hk hb hroom h=>leaves_stepsIn [] u w fr cs hu hd ht hf hk hb hroom h
 |cons d ds ih=>
  intro u w fr cs hu hd ht hf hk hb hroom h;obtain⟨hrun,h⟩:=h;rcases h with ⟨r,w',htar,htake,hrest⟩|⟨b,ts,ty,ck,v,w',htar,hinv,hrest⟩
  .have h1:=step_collected (cs:=cs) (hu▸hrun) hd htar htake;have i1:(lone fr cs w).fenced P F:=fenced_out hb hroom (hu▸hrun) hd (λg hg=>by rw[htar] at hg;simp[Target.leads] at hg)
   obtain⟨e',w'',fr',hR',hs',hfn',hl'⟩:=ih u w' {fr with defers:=[]++ds} cs hu rfl ht hf hk hb hroom hrest;exact⟨e',w'',fr',hR',ComesIn.of_steps (.one i1 h1) hs',hfn',hl'⟩
  .have h1:=yn (cs:=cs) (hu▸hrun) hd htar hinv;have i1:(lone fr cs w).fenced P F:=fenced_out hb hroom (hu▸hrun) hd (λg hg=>by rw[htar] at hg;simp[Target.leads] at hg)
   obtain⟨e',w'',fr',hR',hs',hfn',hl'⟩:=ih u w' {fr with defers:=ds} cs hu rfl ht hf hk hb hroom hrest;exact⟨e',w'',fr',hR',ComesIn.of_steps (.one i1 h1) hs',hfn',hl'⟩
def Fv(F:Fence)(n:Nat)(P:Program)(fn:Func)(R:Ending->World->Prop):Exit->Act->World->Prop
 |.normal,a,w|.ret,a,w=>gu F n P fn a.tmps R a.defers .returning w
 |.panic chain,a,w=>gu F n P fn a.tmps R a.defers (.panicking chain) w
 |.outgrown,_,w=>R .outgrown w
 |_,_,_=>False
theorem sV{f:FuncId}{fn:Func}{c:Code}{args:Array Value}{w:World}{R:Ending->World->Prop}
  (hf:P.funcs[f]? =some fn) (hb:fn.body=some c) (hF:F.fn f)
  (h:c.wpIn F n P (Fv F n P fn R) {tmps:=args++Array.replicate (fn.ntmps-args.size) undef,defers:=[]} w) (hro:F.round=none:=by rfl):CallsIn F n P f args w R:=by
 refine⟨hF,λcs hr=>?_⟩
 let b:Frame:={(default:Frame) with fn:=f,kind:=.normal,roundOf:=none}
 have henter:Frame.enter P f args .normal=
   b.atR {tmps:=args++Array.replicate (fn.ntmps-args.size) undef,defers:=[]} [.code c]:=by
  simp[Frame.enter,Frame.atR,hf,hb,b]
 obtain⟨e,a',w',hq,harr⟩:=h b [] cs hro.symm hF hr;rw[<-henter] at harr
 cases e with
 |normal=>
  obtain⟨e',w'',fr',hR,hs,hfn,hl⟩:=jU a'.defers .returning w' {b.atR a' [] with mode:=.returning} cs rfl rfl rfl hf rfl hF hr hq
  exact⟨e',w'',fr',hR,ComesIn.of_steps (StepsIn.trans harr (.one (fenced_calm (fr:=b.atR a' []) hF hr rfl) (stepR_end rfl))) hs,hfn,hl⟩
 |ret=>
  obtain⟨todo,hs₀⟩:=harr.1 rfl;obtain⟨e',w'',fr',hR,hs,hfn,hl⟩:=jU a'.defers .returning w' {b.atR a' todo with mode:=.returning} cs rfl rfl rfl hf rfl hF hr hq
  exact⟨e',w'',fr',hR,ComesIn.of_steps hs₀ hs,hfn,hl⟩
 |panic chain=>
  obtain⟨todo,hs₀⟩:=harr;obtain⟨e',w'',fr',hR,hs,hfn,hl⟩:=jU a'.defers (.panicking chain) w' {b.atR a' todo with mode:=.panicking chain} cs rfl rfl rfl hf rfl hF hr hq
  exact⟨e',w'',fr',hR,ComesIn.of_steps hs₀ hs,hfn,hl⟩
 |exit id=>exact hq.elim
 |goto l=>exact hq.elim
 |outgrown=>exact⟨.outgrown,w',b,hq,harr.resolve_left (by simp[b]),rfl,trivial⟩
end
section
variable{P:Program}{E:Entry}{G:Gh}{s:St}{a:Act}{w:World}
theorem RS.defer(h:RS E G s a w){d:Deferred}(hd:∀B,d≠mark B)(hE:E.dd=[]):RS {E with dd:=d::a.defers} G s ⟨a.tmps,d::a.defers⟩ w:=by
 have hsp:Sp E.FP E.w G.M G.σ G.cl s.bs (d::a.defers) (d::a.defers) w:=by
  obtain⟨Ds,hDs,hnd⟩:=h.sp.ds;refine⟨λB o hs=>?_,h.sp.base,h.sp.inj,[],rfl,Ye.2 ⟨λhm=>?_,hnd⟩⟩
  .refine h.sp.ob B o ?_;rcases hs with hs|⟨hm,ho⟩
   .exact .inl hs
   .rcases ZI.1 hm with hm|hm
    .exact absurd hm.symm (hd B)
    .exact .inr ⟨hm,ho⟩
  .rw [hDs,hE,Zv,Zk] at hm;obtain⟨B,_,e⟩:=hm;exact hd B e.symm
 exact⟨h.fr,h.ok,h.nt,h.val,h.one,h.box,h.bmem,h.inj,h.own,h.clinj,h.clbox,h.cllt,h.lo,h.len,h.sig,hsp⟩
theorem RS.Ig{d:Deferred}{ds:List Deferred}(h:RS E G s a w)(ha:a.defers=d::ds)(hds:∃Ds:List Nat,ds=Ds.map mark):RS {E with dd:=[]} G s ⟨a.tmps,ds⟩ w:=by
 have hsp:Sp E.FP E.w G.M G.σ G.cl s.bs ds [] w:=by
  obtain⟨_,_,hnd⟩:=h.sp.ds;rw[ha] at hnd;obtain⟨Ds,hDs⟩:=hds;refine⟨λB o hs=>?_,h.sp.base,h.sp.inj,Ds,by rw[Zv];exact hDs,(Ye.1 hnd).2⟩
  refine h.sp.ob B o ?_;rcases hs with hs|⟨hm,ho⟩
  .exact .inl hs
  .exact .inr ⟨by rw[ha];exact ZQ _ hm,ho⟩
 exact⟨h.fr,h.ok,h.nt,h.val,h.one,h.box,h.bmem,h.inj,h.own,h.clinj,h.clbox,h.cllt,h.lo,h.len,h.sig,hsp⟩
theorem RS.yX{fn:Func}{R:Ending->World->Prop}:∀(Ds:List Nat) {a:Act} {w:World},RS E G s a w->a.defers=Ds.map mark++E.dd->
  (∀w',RS E G s ⟨a.tmps,E.dd⟩ w'->gu (F0 none) 0 P fn a.tmps R E.dd .returning w')->gu (F0 none) 0 P fn a.tmps R a.defers .returning w
 |[],a,w,h,hd,k=>by
  rw[hd];refine k w ?_
  have:a=⟨a.tmps,E.dd⟩:=by
   obtain⟨t,d⟩:=a;simp at hd;rw[hd]
  rw[<-this];exact h
 |D::Ds,a,w,h,hd,k=>by
  have hd':a.defers=mark D::(Ds.map mark++E.dd):=hd;obtain⟨h1,h2⟩:=h.FY (P:=P) hd' ⟨Ds,rfl⟩;rw[hd'];exact⟨by simp,.inl ⟨D,_,rfl,h1,RS.yX (a:=⟨a.tmps,Ds.map mark++E.dd⟩) Ds h2 rfl k⟩⟩
end
section
variable{P:Program}{nt:Nat}{ops:Array Oper}{E:Entry}{rd:Option Nat}{n:Nat}
theorem ti{dr:Bool}{Q:Exit->Act->World->Prop}{K:St->Prop}{rest:List Nat}:∀{os:List Oper} {rs:List ROp} {k:Nat} {s:St} {G:Gh} {a:Act} {w:World},os.length=rs.length->(∀(i:Nat) (o:Oper),os[i]? =some o->∃r,rs[i]? =some r/\OpC P nt ops o r)->(∀(i:Nat) (o:Oper),os[i]? =some o->ops[k+i]? =some o)->
  tN P dr rs s K->RS E G s a w->E.nt=nt->(∀s' G' a' w',K s'->RS E G' s' a' w'->wpOpsIn (F0 rd) n P ops Q rest a' w')->wpOpsIn (F0 rd) n P ops Q (List.range' k os.length++rest) a w
 |[],[],_,_,_,_,_,_,_,_,h,hs,_,hQ=>hQ _ _ _ _ h hs
 |o::os,r::rs,k,s,G,a,w,hl,hc,hi,h,hs,hnt,hQ=>by
  simp only[ZX,Xe,Ze];rw[wpOpsIn_cons];obtain⟨r',hr,hoc⟩:=hc 0 o rfl;simp at hr;subst hr;refine ft hoc (by simpa using hi 0 o rfl) h hs hnt λs' G' a' w' hK hs' hd=>?_
  exact ti (by simpa using hl) (λi o' ho=>hc (i+1) o' (by simpa using ho)) (λi o' ho=>by
   have:=hi (i+1) o' (by simpa using ho)
   rw[show k+1+i=k+(i+1) by omega];exact this) hK hs' hnt hQ
 |[],_::_,_,_,_,_,_,hl,_,_,_,_,_,_=>by simp at hl
 |_::_,[],_,_,_,_,_,hl,_,_,_,_,_,_=>by simp at hl
end
def JU:List Code->Code->Code
 |[],c=>c
 |x::xs,c=>.seq x (JU xs c)
def Dq:List RC->RC
 |[]=>.skip
 |x::xs=>.seq x (Dq xs)
def zd(P:Program)(nt:Nat)(keeps:List (Nat×List Nat))(solo:List (Nat×Nat)):List Code->Option (List RC)
 |[]=>some []
 |c::cs=>match dR P nt keeps solo true c,zd P nt keeps solo cs with
  |some r,some rs=>some (r::rs)
  |_,_=>none
def Gz(K R:St->Prop):AX->St->Prop
 |.normal,s=>K s
 |.ret,s=>R s
 |.exit _,_=>False
theorem FJ{P:Program}{nt:Nat}{keeps:List (Nat×List Nat)}{solo:List (Nat×Nat)}(hm:P.follows .mixedOrders=true){E:Entry}(hnt:E.nt=nt){n:Nat}{tail:Code}{Q':Exit->Act->World->Prop}{K R:St->Prop}
  (htail:∀s G a w,RS E G s a w->K s->tail.wpIn (F0 none) n P Q' a w) (hret:∀s G a w,RS E G s a w->R s->Q' .ret a w):∀{pre:List Code} {rs:List RC},zd P nt keeps solo pre=some rs->∀{s:St} {G:Gh} {a:Act} {w:World},RS E G s a w->(Dq rs).wp P s (Gz K R)->(JU pre tail).wpIn (F0 none) n P Q' a w
 |[],rs,hc,s,G,a,w,hs,h=>by cases hc;exact htail s G a w hs h
 |c::cs,rs,hc,s,G,a,w,hs,h=>by
  simp only[zd] at hc;split at hc
  .rename_i r rs' h1 h2;cases hc;have h3:r.wp P s (mc (λs'=>(Dq rs').wp P s' (Gz K R)) (Gz K R)):=h;refine wpIn_seq ?_;refine wpIn_mono (nG hm h1 h3 E G a w none n hs ⟨hnt,λ_=>rfl⟩) ?_;rintro e a' w' ⟨x,s',G',rfl,q,hs'⟩
   cases x with
   |normal=>exact FJ hm hnt htail hret h2 hs' q
   |ret=>exact hret s' G' a' w' hs' q
   |exit id=>exact q.elim
  .cases hc
def Kt:Code->Option (Nat×List Oper×Oper)
 |.region id ops false=>match ops.toList.reverse with
  |o::r=>match o.op with
   |.defer _=>some (id,r.reverse,o)
   |_=>none
  |[]=>none
 |_=>none
def yr:Code->Option (List Code×Nat×List Oper×Oper×Code)
 |.seq a b=>match Kt a with
  |some (id,os,o)=>some ([],id,os,o,b)
  |none=>match yr b with
   |some (pre,q)=>some (a::pre,q)
   |none=>none
 |_=>none
theorem EV{c:Code}{id:Nat}{os:List Oper}{o:Oper}(h:Kt c=some (id,os,o)):c=.region id (os++[o]).toArray false:=by
 unfold Kt at h;split at h
 .rename_i id' ops;split at h
  .rename_i o' r hr;split at h
   .cases h;have:=congrArg List.reverse hr;rw[List.reverse_reverse,List.reverse_cons] at this;rw[<-this]
   .cases h
  .cases h
 .cases h
theorem zB:∀{c:Code} {pre:List Code} {id:Nat} {os:List Oper} {o:Oper} {B:Code},yr c=some (pre,id,os,o,B)->c=JU pre (.seq (.region id (os++[o]).toArray false) B):=by
 intro c
 induction c with
 |seq a b iha ihb=>
  intro pre id os o B h;simp only[yr] at h;split at h
  .rename_i id' os' o' h1;cases h;rw[EV h1];rfl
  .split at h
   .rename_i pre' q h2;cases h;rw[ihb h2];rfl
   .cases h
 |_=>intro pre id os o B h;cases h
def cD(P:Program)(nt:Nat)(keeps:List (Nat×List Nat))(solo:List (Nat×Nat))(c:Code):Option (RC×List ROp×Opd×Opd×RC):=
 match yr c with
 |some (pre,_,os,o,B)=>match zd P nt keeps solo pre,pr P nt (λ_ _=>false) (os++[o]).toArray os,dR P nt keeps solo true B with
  |some rp,some ros,some rB=>match o.op,o.guard,o.dst with
   |.defer {callee:=.builtin .delete,args:=⟨[x,k]⟩,argTypes:=⟨[t,_]⟩},none,none=>match opd x,opd k,P.underlying t with
    |some rx,some rk,some (.map kt _)=>match P.underlying kt with
     |some (.int _)=>some (Dq rp,ros,rx,rk,rB)
     |_=>none
    |_,_,_=>none
   |_,_,_=>none
  |_,_,_=>none
 |none=>none
def dfK(x k:AV)(K:Nat->Int->Prop):Prop:=match x,k with
 |.mpt b,.int .i64 n=>K b n
 |_,_=>False
structure Jn(b:Nat)(n:Int)(s:St)(rs:List cm)(Q:AV->List Box->Prop):Prop where
 out:∃s',aB s s'/\∃l c,s'.bs[b]? =some (.mq l c)/\oU ⟨s'.env,s'.bs.set b (.mq (qS l n) c),s'.lo⟩ rs Q
def retD(b:Nat)(n:Int)(rs:List cm)(Q:AV->List Box->Prop):AX->St->Prop
 |.normal,s=>Jn b n s rs Q
 |.ret,s=>Jn b n s rs Q
 |_,_=>False
def HW(P:Program)(ros:List ROp)(rx rk:Opd)(rB:RC)(rs:List cm)(Q:AV->List Box->Prop)(s:St):Prop:=
 tN P false ros s λs2=>dfK (s2.ev rx) (s2.ev rk) λb n=>req (Nat.blt b s2.lo) (rB.wp P s2 (retD b n rs Q))
theorem tz{P:Program}(ρ:Operand->Value)(x k:Operand)(t u ty:TypeId)(w:World):∃ck,(resolve ρ {callee:=.builtin .delete,args:=#[x,k],argTypes:=#[t,u]} ty).run P w=.ok ⟨.builtin .delete #[t,u] ty ck,#[ρ x,ρ k]⟩ w:=by
 have h:(resolve ρ {callee:=.builtin .delete,args:=#[x,k],argTypes:=#[t,u]} ty).run P w=.ok ⟨.builtin .delete #[t,u] ty (#[x,k].map λ|.const _=>true|_=>false),#[ρ x,ρ k]⟩ w:=by
  simp only[resolve,Xj];congr 2;simp
 exact⟨_,h⟩
theorem Sem.ofD{P:Program}{f:FuncId}{fn:Func}{c:Code}{rA rB:RC}{ros:List ROp}{rx rk:Opd}{keeps:List (Nat×List Nat)}{solo:List (Nat×Nat)}{rs:List cm}(hf:P.funcs[f]? =some fn)(hb:fn.body=some c)(hm:P.follows .mixedOrders=true)
  (hc:cD P fn.ntmps keeps solo c=some (rA,ros,rx,rk,rB)) (hr:lX P fn.results.toList=some rs)
  {vals:List AV} {bs:List Box} {Q:AV->List Box->Prop} (hn:vals.length<=fn.ntmps) (h:rA.wp P ⟨params 0 vals,bs,bs.length⟩ (Gz (HW P ros rx rk rB rs Q) λs=>∃s',aB s s'/\Ir rs Q .ret s')):Sem P f vals bs Q:=by
 unfold cD at hc;split at hc
 .rename_i pre id os o B hsp;have hcb:=zB hsp;split at hc
  .rename_i rp ros' rB' hpre hos hB;split at hc
   .rename_i x k t u hop hg hdst;split at hc
    .rename_i rx' rk' kt et hx hk ht;split at hc
     .rename_i ik hkt;cases hc;intro E G a0 w args lo hpreR hl hv;subst hcb;refine(callsIn_wide (n:=0)).1 (sV (F:=F0 none) hf hb trivial ?_);have h1:=hpreR.enter hl hv hn
      have leaveK:∀(s':St) (G':Gh) (a':Act) (w':World),RS (cC G bs w fn.ntmps) G' s' a' w'->oU s' rs Q->gu (F0 none) 0 P fn a'.tmps (λe w'=>∃v r bs' G',e=.returned v/\Q r bs'/\RS (cC G bs w 1) G' ⟨[(0,r)],bs',bs.length⟩ ⟨#[v],[]⟩ w') a'.defers .returning w':=λs' G' a' w' hs' q=>by
       obtain⟨Ds,hDs,_⟩:=hs'.sp.ds;refine hs'.yX Ds hDs λw2 h2=>?_;obtain⟨v,r,bs',G2,h3,h4,h5⟩:=h2.leave h2.lo.symm hr q;have hlo:s'.lo=bs.length:=hs'.lo;rw[hlo] at h5;exact⟨v,h3,v,r,bs',G2,rfl,h4,h5⟩
      refine FJ hm (E:=cC G bs w fn.ntmps) rfl (λs G1 a w1 hs hK=>?_) (λs G1 a w1 hs hR=>?_) hpre h1 h
      rotate_left
      .obtain ⟨s',hw,q⟩:=hR;obtain⟨G2,hs2⟩:=hw _ _ _ _ hs;exact leaveK s' G2 a w1 hs2 q
      refine wpIn_seq (wpIn_region ?_);obtain⟨hol,hoc⟩:=fc hos
      have hlist:List.range (os++[o]).toArray.size=List.range' 0 os.length++[os.length]:=by
       simp[List.range_eq_range',List.range'_concat]
      rw[hlist]
      refine ti (dr:=false) hol hoc (λi o' ho=>by
       have hi:i<os.length:=(ZB.1 ho).1;simp[ZK hi,ho]) hK hs rfl λs2 G2 a2 w2 hK2 hs2=>?_
      rw[wpOpsIn_cons];unfold wpOpIn;have hoo:(os++[o]).toArray[os.length]? =some o:=by simp
      rw[hoo];simp only;have hw:Region.wanted o (yielded (os++[o]).toArray a2.tmps)=true:=by simp[Region.wanted,hg]
      rw[if_pos hw];unfold dfK at hK2;split at hK2
      .rename_i b nn hxe hke;have hxv:=hs2.ev hx;rw[hxe] at hxv;have hkv:=hs2.ev hk;rw[hke] at hkv
       have hrun:∃(d:Deferred) (ck:Array Bool),(o.semAt none a2.eval).run P w2=.ok (.defer d) w2/\d.target=.builtin .delete #[t,u] o.type ck/\d.args=#[.map (some (G2.σ b)),.int .i64 nn]:=by
        obtain⟨ck,hck⟩:=tz (P:=P) a2.eval x k t u o.type w2;refine⟨⟨.builtin .delete #[t,u] o.type ck,#[a2.eval x,a2.eval k]⟩,ck,?_,rfl,?_⟩
        .rw [Oper.semAt_none];unfold execOp;simp only[hop,Xi,hck,Xh,Xj]
        .show #[a2.eval x,a2.eval k]=_;rw[hxv.gh.1,hkv.aC]
       obtain⟨d,ck,hd1,hd2,hd3⟩:=hrun;have hnm:∀B,d≠mark B:=λB e=>by rw[e] at hd2;cases hd2
       refine⟨λg hgl=>by simp[Oper.about,hop,resolve,Target.leads] at hgl,?_⟩
       show (o.uponIn (F0 none) 0 P a2 _ _ ((o.semAt none a2.eval).run P w2));rw[hd1,Oper.uponIn_defer,hdst];have hs3:=hs2.defer hnm rfl;show B.wpIn (F0 none) 0 P _ ⟨a2.tmps,d::a2.defers⟩ w2;obtain⟨hblo,hK2⟩:=ae.1 hK2;have hblo:b<s2.lo:=by simpa[Nat.blt_eq] using hblo
       refine wpIn_mono (nG hm hB hK2 _ _ _ _ none 0 hs3 ⟨rfl,λ_=>rfl⟩) ?_;rintro e a' w' ⟨y,s',G',rfl,q,hs'⟩;have hlo2:s2.lo=bs.length:=hs2.lo;have hsg:∀(G3:Gh) (s3:St) (a3:Act) (w3:World),RS {cC G bs w fn.ntmps with dd:=d::a2.defers} G3 s3 a3 w3->G3.σ b=G2.σ b:=λG3 s3 a3 w3 h3=>(h3.sig b (by show b<bs.length;omega)).trans (hs2.sig b (by show b<bs.length;omega)).symm
       have fin:Jn b nn s' rs Q->gu (F0 none) 0 P fn a'.tmps (λe w'=>∃v r bs' G',e=.returned v/\Q r bs'/\RS (cC G bs w 1) G' ⟨[(0,r)],bs',bs.length⟩ ⟨#[v],[]⟩ w') a'.defers .returning w':=λq=>by
        obtain⟨s3,hw3,l,cc,hbx,hres⟩:=q;obtain⟨G3,hs3'⟩:=hw3 _ _ _ _ hs';obtain⟨Ds,hDs,_⟩:=hs3'.sp.ds;refine hs3'.yX Ds hDs λw4 h4=>?_;have hG3:=hsg _ _ _ _ h4;obtain⟨w5,h5,h6⟩:=CZ h4 hbx nn (P:=P) (t:=t) (u:=u) ht hkt o.type;rw[hG3] at h5;obtain⟨Ds2,hDs2,_⟩:=hs2.sp.ds;have hDs2:a2.defers=Ds2.map mark:=by rw[hDs2];exact Zv _
        have h7:=h6.Ig (d:=d) (ds:=a2.defers) rfl ⟨Ds2,hDs2⟩;refine⟨by simp,.inr ⟨.delete,#[t,u],o.type,_,.tuple #[],w5,hd2,?_,leaveK _ G3 ⟨a'.tmps,a2.defers⟩ w5 h7 hres⟩⟩
        rw[hd2,hd3];simp only[invoke,builtin,Xi,h5,Xh,Xj]
       cases y with
       |normal=>exact fin q
       |ret=>exact fin q
       |exit id=>exact q.elim
      .exact hK2.elim
     .cases hc
    .cases hc
   .cases hc
  .cases hc
 .cases hc
structure fE(b:Nat)(n:Int)(s:St)(rs:List cm)(Q:AV->List Box->Prop):Prop where
 out:Jn b n s rs λr bs=>Q r bs\/Q (o5 r) bs
def KX(b:Nat)(n:Int)(rs:List cm)(Q:AV->List Box->Prop):AX->St->Prop
 |.normal,s=>fE b n s rs Q
 |.ret,s=>fE b n s rs Q
 |_,_=>False
def Ji(P:Program)(ros:List ROp)(rx rk:Opd)(rB:RC)(rs:List cm)(Q:AV->List Box->Prop)(s:St):Prop:=
 IC P true false ros s λs2=>dfK (s2.ev rx) (s2.ev rk) λb n=>req (Nat.blt b s2.lo) (s2.fo true λs2=>rB.gp P true s2 (KX b n rs Q))
def KZ(P:Program)(ros:List ROp)(rx rk:Opd)(rB:RC)(rs:List cm)(Q:AV->List Box->Prop):AX->St->Prop
 |.normal,s=>Ji P ros rx rk rB rs Q s
 |.ret,s=>af s rs Q
 |_,_=>False
abbrev SPD(P:Program)(vals:List AV)(bs:List Box)(rA:RC)(ros:List ROp)(rx rk:Opd)(rB:RC)(rs:List cm)(Q:AV->List Box->Prop):Prop:=(⟨params 0 vals,bs,bs.length⟩:St).fo true λs=>rA.gp P true s (KZ P ros rx rk rB rs Q)
theorem Io{P:Program}{vals:List AV}{bs:List Box}{rA rB:RC}{ros:List ROp}{rx rk:Opd}{rs:List cm}{Q:AV->List Box->Prop}(h:SPD P vals bs rA ros rx rk rB rs Q):
  rA.wp P ⟨params 0 vals,bs,bs.length⟩ (Gz (HW P ros rx rk rB rs λr b=>Q r b\/Q (o5 r) b) λs=>∃s',aB s s'/\Ir rs (λr b=>Q r b\/Q (o5 r) b) .ret s'):=by
 unfold SPD at h;rw[St.c9] at h;refine RC.wp_mono (λx s hx=>?_) (RC.kU h)
 cases x with
 |normal=>
  refine eV (λs2 hs2=>?_) (Cm hx);unfold dfK at hs2|-;split at hs2
  .obtain ⟨h1,h2⟩:=ae.1 hs2;rw[St.c9] at h2;refine ae.2 ⟨h1,RC.wp_mono (λx s hx=>?_) (RC.kU h2)⟩
   cases x with
   |normal=>exact hx.out
   |ret=>exact hx.out
   |exit id=>exact hx.elim
  .exact hs2.elim
 |ret=>exact hx.out
 |exit id=>exact hx.elim
end Go.AM
