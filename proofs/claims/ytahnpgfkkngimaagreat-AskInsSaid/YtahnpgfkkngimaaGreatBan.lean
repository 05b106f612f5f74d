/-
  Texts of this aQ joined (wip/gen/bundle.py),those declarations only that are needed:AmI AmW. By an AI agent.
-/
import Derived.Test.YtahnpgfkkngimaaGreatBam
set_option linter.unusedSimpArgs false
set_option linter.unusedVariables false
namespace Go.AM
open Go.CK Go.RowKit
def Ed(P:Program)(nt:Nat)(body:Code)(x:LB)(b:Nat)(Q:AV->List Box->Prop):AX->St->Prop
 |.normal,s=>ag s.bs b=some x/\WP P nt false body ⟨s.env,s.bs.set b .dead,s.lo⟩ (tu x b Q)
 |_,_=>False
section
variable{E:Entry}{G:Gh}{s:St}{a:Act}{w:World}{P:Program}
theorem RS.busy(h:RS E G s a w){b:Nat}{x:LB}(hb:ag s.bs b=some x)(r:Loop)(ds':List Deferred)(hds:∃Ds:List Nat,ds'=Ds.map mark++E.dd/\ds'.Nodup)(hsub:∀d∈ds',d∈a.defers):RS E G ⟨s.env,s.bs.set b .dead,s.lo⟩ ⟨a.tmps,ds'⟩ (w.putObj (G.σ b) (.loop r)):=by
 obtain⟨h1,h2,h3⟩:=h.sp.ob (G.σ b) _ (.inl ⟨b,x,hb,rfl,rfl⟩);refine h.Ih (.loop r) h1 x.Cr h3 (by simp) (nI rfl (rP hb)) ⟨λB o hs=>?_,λc y hc=>?_,λc c' y y' hc hc' e=>?_,hds⟩
 .have hs':Spc G.σ s.bs a.defers B o/\B≠G.σ b:=by
   rcases hs with ⟨c,y,hc,e,ho⟩|⟨hm,ho⟩
   .rw [cE] at hc;split at hc
    .cases hc
    .rename_i hne;exact⟨.inl ⟨c,y,hc,e,ho⟩,λe2=>hne (h.sp.inj c b y x hc hb (e.trans e2))⟩
   .refine ⟨.inr ⟨hsub _ hm,ho⟩,λe=>?_⟩;have:=(h.sp.ob B _ (.inr ⟨hsub _ hm,ho⟩)).1;rw[e,h1,ho] at this;exact x.Cs this.symm
  obtain⟨h4,h5,h6⟩:=h.sp.ob B o hs'.1;exact⟨by rw[World.putObj_heap_other hs'.2];exact h4,h5,h6⟩
 .rw [cE] at hc;split at hc
  .cases hc
  .exact h.sp.base c y hc
 .rw [cE] at hc hc';split at hc
  .cases hc
  .split at hc'
   .cases hc'
   .exact h.sp.inj c c' y y' hc hc' e
theorem RS.wake(h:RS E G s a w){b:Nat}(hlt:b<s.bs.length){r:Loop}(hr:w.heap[G.σ b]? =some (.loop r))(hm:E.FP (G.σ b)\/E.w.heap.size<=G.σ b)(hcl:∀p,G.cl p≠some (G.σ b))(hne:∀c y,ag s.bs c=some y->G.σ c≠G.σ b)(x:LB)(hx:x.M.le G.M/\x.n<=b/\∀c,c<x.n->G.σ c=x.σ c)(hdd:E.dd=[]):
  RS E G ⟨s.env,s.bs.set b (.loop x),s.lo⟩ ⟨a.tmps,[]⟩ (w.putObj (G.σ b) x.obj):=by
 have hbn:aa s.bs b=none:=by
  cases hb:aa s.bs b with
  |none=>rfl
  |some cs=>
   obtain⟨vs,T,h1,_⟩:=h.box b cs hb;rw[hr] at h1;cases h1
 have hsz:G.σ b<w.heap.size:=(Zh.1 hr).1;refine h.Ih x.obj hr rfl hm (by simp) (nI rfl hbn) ⟨λB o hs=>?_,λc y hc=>?_,λc c' y y' hc hc' e=>?_,[],by rw[hdd];rfl,.nil⟩
 .rcases hs with ⟨c,y,hc,e,ho⟩|⟨hmem,_⟩
  .rw [fJ x hlt] at hc;split at hc
   .rename_i ec;cases hc;subst ec;subst e ho;exact⟨World.putObj_heap_same hsz,hcl,hm⟩
   .obtain ⟨h4,h5,h6⟩:=h.sp.ob B o (.inl ⟨c,y,hc,e,ho⟩);exact⟨by rw[World.putObj_heap_other (e▸hne c y hc)];exact h4,h5,h6⟩
  .cases hmem
 .rw [fJ x hlt] at hc;split at hc
  .rename_i ec;cases hc;subst ec;exact hx
  .exact h.sp.base c y hc
 .rw [fJ x hlt] at hc hc';split at hc
  .rename_i ec;split at hc'
   .rename_i ec';rw[ec,ec']
   .subst ec;exact absurd e.symm (hne c' y' hc')
  .split at hc'
   .rename_i ec';subst ec';exact absurd e (hne c y hc)
   .exact h.sp.inj c c' y y' hc hc' e
theorem mH.of{nt:Nat}{x:LB}{b:Nat}{bs:List Box}{env:List (Nat×AV)}{vals:List AV}{Q:AV->List Box->Prop}(hb:ag bs b=some x)(hmp:x.mp=none)(hst:x.r.state=.ready)(hpe:x.r.pending=none)(hnt:x.r.tmps.size=nt)(hps:∀p∈x.r.params.toList,p<nt)
  (henv:∀t y,ak env t=some y->RV x.M x.σ x.n y (x.r.tmps.getD t undef)) (hl:vals.length=x.r.params.size)
  (h:WP P nt false x.r.assign ⟨lF env x.r.params.toList vals,bs,bs.length⟩ (Ed P nt x.r.body x b Q)):mH P b vals bs Q:=by
 intro E G a0 w args lo hpre hal hav;have hlt:b<bs.length:=aO hb;obtain⟨hM,hn,hσ⟩:=hpre.sp.base b x hb;obtain⟨hob,hocl,hom⟩:=hpre.sp.ob (G.σ b) _ (.inl ⟨b,x,hb,rfl,rfl⟩);rw[LB.p5 hmp] at hob;refine⟨_,_,_,_,run_yield hob (by simp[hal,hl]),λrd n=>?_⟩
 obtain⟨hp1,hp2⟩:=xc x.r.params.toList vals args env x.r.tmps hal (by rw[hnt];exact hps) (λt y hy=>(henv t y hy).mono hM (by omega) hσ) hav
 have htm:(x.r.params.zip args.toArray).foldl (λtmps (t,a)=>tmps.setIfInBounds t a) x.r.tmps=(x.r.params.toList.zip args).foldl (λt (p,v)=>t.setIfInBounds p v) x.r.tmps:=by
  rw[<-Array.foldl_toList,Array.toList_zip]
 rw[htm];generalize hT:(x.r.params.toList.zip args).foldl (λt (p,v)=>t.setIfInBounds p v) x.r.tmps=T at*;have h0:=hpre.w6 (cC G bs w nt) ⟨T,[]⟩ (Fr.refl _ _ _) (hp2.trans hnt) bs.length rfl (ZG _) (λ_ _=>rfl) (λB hB=>.inl hB) rfl;have h1:=h0.bZ (env:=lF env x.r.params.toList vals) hp1;have hfpl:dV G bs (G.σ b):=.inr (.inr ⟨b,x,hb,rfl⟩);refine roundIn_of_wpIn (F:=F0 rd) trivial ?_;show x.r.assign.wpIn (F0 (some (G.σ b))) n P _ _ w;refine wpIn_mono (h _ _ _ w (some (G.σ b)) n h1 ⟨rfl,λe=>by cases e⟩) ?_
 rintro e a1 w1 ⟨y,s1,G1,rfl,hq,hs1⟩
 cases y with
 |ret=>exact hq.elim
 |exit id=>exact hq.elim
 |normal=>
  obtain⟨hb1,hbody⟩:=hq;have hσ1:G1.σ b=G.σ b:=hs1.sig b hlt;obtain⟨ob1,ocl1,om1⟩:=hs1.sp.ob (G1.σ b) _ (.inl ⟨b,x,hb1,rfl,rfl⟩);rw[LB.p5 hmp] at ob1;have hrun:=run_beginRound (P:=P) ob1 hst;rw[hσ1] at hrun;refine⟨_,hrun,?_⟩;have h2:=hs1.busy hb1 {x.r with state:=.busy} a1.defers hs1.sp.ds (λ_ k=>k);rw[hσ1] at h2 ob1;have hl1:G.σ b<w1.heap.size:=(Zh.1 ob1).1;have hbusy:(w1.putObj (G.σ b) (.loop {x.r with state:=.busy})).heap[G.σ b]? =some (.loop {x.r with state:=.busy}):=World.putObj_heap_same hl1;have h3:=h2.J0
  have hnotAll:¬All G1 (s1.bs.set b .dead) a1.defers (G.σ b):=λhA=>by
   rcases hA with ⟨c,cs,hc,e⟩|⟨p,hp⟩|⟨o,hs⟩
   .obtain ⟨vs,T,h4,_⟩:=h2.box c cs hc;rw[e,hbusy] at h4;cases h4
   .exact ocl1 p (by rw[hσ1];exact hp)
   .rcases hs with ⟨c,y,hc,e,_⟩|⟨hm,ho⟩
    .rw [cE] at hc;split at hc
     .cases hc
     .rename_i hne;exact hne (hs1.sp.inj c b y x hc hb1 (e.trans hσ1.symm))
    .have:=(h2.sp.ob _ _ (.inr ⟨hm,ho⟩)).1;rw[hbusy,ho] at this;cases this
  refine wpIn_mono (hbody _ _ _ _ (some (G.σ b)) n h3 ⟨rfl,λe=>by cases e⟩) ?_
  rintro e a3 w3 ⟨y,s3,G3,rfl,hq3,hs3⟩;have hfr3:Fr (All G1 (s1.bs.set b .dead) a1.defers) G1.M (w1.putObj (G.σ b) (.loop {x.r with state:=.busy})) G3.M w3:=hs3.fr;have hl2:G.σ b<(w1.putObj (G.σ b) (.loop {x.r with state:=.busy})).heap.size:=by rw[World.putObj_size];exact hl1
  have hbusy3:w3.heap[G.σ b]? =some (.loop {x.r with state:=.busy}):=(hfr3.heap _ hl2 hnotAll).trans hbusy
  have hmine:∀B,(All G1 (s1.bs.set b .dead) a1.defers B\/(w1.putObj (G.σ b) (.loop {x.r with state:=.busy})).heap.size<=B)->(cC G bs w nt).FP B\/(cC G bs w nt).w.heap.size<=B:=λB hB=>by
   rcases hB with hB|hB
   .exact h2.HR hB
   .exact .inr (YM h2.fr.size hB)
  have h5:RS (cC G bs w nt) G3 s3 a3 w3:=hs3.reE (h2.fr.trans hfr3 λB hB=>hmine B (.inl hB)) hmine rfl rfl rfl rfl;have hσ3:G3.σ b=G.σ b:=h5.sig b hlt;have hlt3:b<s3.bs.length:=YT hlt h5.len
  have far:∀B,(All G1 (s1.bs.set b .dead) a1.defers B\/(w1.putObj (G.σ b) (.loop {x.r with state:=.busy})).heap.size<=B)->B≠G.σ b:=λB hB e=>by
   subst e;rcases hB with hB|hB
   .exact hnotAll hB
   .omega
  obtain⟨hM1,hn1,hσx⟩:=hs1.sp.base b x hb1;have hle3:x.M.le G3.M:=Hp.le_trans hM1 hfr3.le;have hσx3:∀c,c<x.n->G3.σ c=x.σ c:=λc hc=>(h5.sig c (by show c<bs.length;omega)).trans (hσ c hc)
  have fin:∀(x':LB) (bb:Bool),x'.M=x.M->x'.σ=x.σ->x'.n=x.n->x'.mp=none->Q (.bool bb) (s3.bs.set b (.loop x'))->
    ∃v r bs' G',Ending.returned (.bool bb)=.returned v/\Q r bs'/\RS (cC G bs w 1) G' ⟨[(0,r)],bs',bs.length⟩ ⟨#[v],[]⟩ (w3.putObj (G.σ b) (.loop x'.r)):=λx' bb e1 e2 e3 e4 hQ=>by
   have h6:=h5.wake hlt3 (r:={x.r with state:=.busy}) (by rw[hσ3];exact hbusy3) (by rw[hσ3];exact .inl hfpl) (λp hp=>far _ (hs3.cllt p _ hp).2 hσ3) (λc y hc e=>far _ (hs3.sp.ob _ _ (.inl ⟨c,y,hc,rfl,rfl⟩)).2.2 (e.trans hσ3)) x' ⟨by rw[e1];exact hle3,by rw[e3];exact hn,by rw[e3,e2];exact hσx3⟩ rfl
   rw[hσ3,LB.p5 e4] at h6;have h7:=h6.w6 (cC G bs w 1) ⟨#[.bool bb],[]⟩ h6.fr rfl bs.length rfl (by rw[Zm];exact h5.len) h6.sig (λB hB=>(rV h6 hB).1) rfl
   exact⟨_,_,_,_,rfl,hQ,h7.put (k:=0) XF (.flat (.bool bb))⟩
  have hsame:({x with r:={x.r with state:=.ready,pending:=none}}:LB)=x:=by
   obtain⟨M,σ,n,r,mp⟩:=x;obtain⟨st,pe,f,t,p,as,bo,d⟩:=r;simp only at hst hpe;subst hst hpe;rfl
  cases y with
  |normal=>
   refine⟨_,_,run_endRound none hbusy3,?_⟩;have:=fin x true rfl rfl rfl hmp hq3;rw[<-hsame] at this
   exact this
  |ret=>exact⟨_,_,run_endRound (some .ret) hbusy3,fin (x.done .ret) false rfl rfl rfl hmp hq3⟩
  |exit id=>exact⟨_,_,run_endRound (some (.exit id)) hbusy3,fin (x.done (.exit id)) false rfl rfl rfl hmp hq3⟩
def Da(x:LB)(s:St)(bs':List Box)(Q:AX->St->Prop):Prop:=
 (ag bs' s.bs.length=some x/\Q .normal ⟨s.env,bs'.set s.bs.length .dead,s.lo⟩)\/(ag bs' s.bs.length=some (x.done .ret)/\Q .ret ⟨s.env,bs'.set s.bs.length .dead,s.lo⟩)\/
  ∃id,ag bs' s.bs.length=some (x.done (.exit id))/\Q (.exit id) ⟨s.env,bs'.set s.bs.length .dead,s.lo⟩
theorem WP.range{nt:Nat}{g:Operand}{rg:Opd}(hg:opd g=some rg){ps:Array Tmp}{ca cb:Code}{gf:FuncId}{lb:List AV}(hgv:s.ev rg=.fn (.func gf) [] lb)(hbd:dI P gf=true)(hps:∀p∈ps.toList,p<nt){Q:AX->St->Prop}
  (h:∀x:LB,(∀y bs R,ag bs s.bs.length=some x->y.length=ps.size->WP P nt false ca ⟨lF (eF s.env) ps.toList y,bs,bs.length⟩ (Ed P nt cb x s.bs.length R)->mH P s.bs.length y bs R)->
   ∃QQ,Sem P gf ((.yl s.bs.length::lb).map AV.norm) (s.bs++[.loop x]) QQ/\∀r bs',QQ r bs'->Da x s bs' Q):WP P nt true (.rangeFunc g ps ca cb) s Q:=by
 intro E G a w rd n hs he;have hrd:rd=none:=he.2 rfl;subst hrd;refine wpIn_rangeFunc λfn _=>?_;show∃_ _ _ _ _ _ _ _,(Instr.enterLoop fn a.tmps ps ca cb none).run P w=_/\_;obtain⟨rec,hrec⟩:∃rec:Loop,rec={state:=.ready,pending:=none,fn,tmps:=a.tmps,params:=ps,assign:=ca,body:=cb,defers:=w.heap.size}:=⟨_,rfl⟩;have h1:=hs.IL rec;have hent:=run_enterLoop_outer (P:=P) (w:=w) fn a.tmps ps ca cb;rw[<-hrec] at hent;generalize hw1:(w.alloc (.deferred (some []))).alloc (.loop rec)=w1 at*;obtain⟨x,hx⟩:∃x:LB,x=⟨G.M,G.σ,s.bs.length,rec,none⟩:=⟨_,rfl⟩;rw[<-hx] at h1;have hgv':=hs.ev hg;rw[hgv] at hgv';obtain⟨us,vs,hga,hu,hv,_,hvr⟩:=hgv'.pf;have hus:us=[]:=ZL hu;subst hus;have hga':a.eval g=.func (.func gf) #[] vs.toArray:=hga;have hxb:ag (s.bs++[.loop x]) s.bs.length=some x:=by rw[eH,if_pos rfl]
 obtain⟨QQ,hS0,hQQ⟩:=h x λy bs R hb hy hwp=>by
  subst hx;refine mH.of (nt:=nt) (env:=eF s.env) hb rfl (by rw[hrec]) (by rw[hrec]) (by rw[hrec];exact hs.nt.trans he.1) (by rw[hrec];exact hps) (λt z hz=>?_) (by rw[hrec];exact hy) (by rw[hrec] at hwp|-;exact hwp)
  obtain⟨z0,hz0,rfl⟩:=qp _ _ _ hz;rw[hrec];exact hs.val (.sl t) z0 hz0
 have hS:=hS0.norm;unfold dI at hbd;split at hbd
 case h_2=>cases hbd
 rename_i fnc hfn;simp only[ZD,decide_eq_true_eq] at hbd;have hbd':fnc.body≠none:=λk=>by simp[k] at hbd
 refine⟨w.heap.size+1,[mark w.heap.size],w1,{target:=.fn (.func gf) vs.toArray,args:=#[.func (.yield (w.heap.size+1)) #[] #[]]},w1,gf,(.func (.yield (w.heap.size+1)) #[] #[]::vs).toArray,w1,hent,?_,λ_ _=>trivial,?_,(λe=>by cases e),ve ((hS E _ _ w1 _ s.lo h1.boxes (by simp[hv]) (λj hj v hjv=>?_)).mono ?_)⟩
 .simp only[resolve,hga'];simp[go_sem]
 .simp [invoke,callFunc,hfn,hbd',hbd.2]
 .cases j with
  |zero=>
   simp at hjv;subst hjv;have:=RV.yl (M:=G.M) (σ:=λb=>if b=s.bs.length then w.heap.size+1 else G.σ b) (n:=(s.bs++[Box.loop x]).length) s.bs.length (by simp)
   simpa using this
  |succ j=>
   simp only[ZX] at hj;have:=hvr j (by omega) v (by simpa using hjv)
   exact this.mono (Hp.le_refl _) (by simp) (λb hb=>by simp only;rw[if_neg (by omega)])
 .rintro e w2 ⟨v,r,bs',G',rfl,hq,h'⟩;obtain⟨G2,hG2,h2⟩:∃G2:Gh,G2.σ=G'.σ/\RS E G2 ⟨s.env,bs',s.lo⟩ ⟨a.tmps,mark w.heap.size::a.defers⟩ w2:=⟨iB _ G' none,rfl,h1.after (d:=none) h' (λk e=>by cases e)⟩
  have hσ:G'.σ s.bs.length=w.heap.size+1:=by
   have:=h'.sig s.bs.length (by show s.bs.length<(s.bs++[Box.loop x]).length;simp)
   simpa[cC] using this
  have out:∀(x':LB) (y:AX) (jump:Option Code),ag bs' s.bs.length=some x'->x'.mp=none->x'.r.state≠.busy->x'.r.pending=jump->Q y ⟨s.env,bs'.set s.bs.length .dead,s.lo⟩->(match jump with
    |none=>y=.normal
    |some c=>(c=.ret/\y=.ret)\/∃id,c=.exit id/\y=.exit id)->
    rangePost (F0 none) n P (w.heap.size+1) (λe a' w'=>∃x s' G',e=x.up/\Q x s'/\RS E G' s' a' w') {a with defers:=[mark w.heap.size]++a.defers} (.returned v) w2:=λx' y jump hb hm hbz hj hQ hy=>by
   have ob:=(h2.sp.ob (w.heap.size+1) _ (.inl ⟨s.bs.length,x',hb,by rw[hG2];exact hσ,rfl⟩)).1
   rw[LB.p5 hm] at ob;have h3:=h2.busy hb {x'.r with state:=.exhausted} _ h2.sp.ds (λ_ k=>k)
   have h3':RS E G2 ⟨s.env,bs'.set s.bs.length .dead,s.lo⟩ {a with defers:=[mark w.heap.size]++a.defers} (w2.putObj (w.heap.size+1) (.loop {x'.r with state:=.exhausted})):=by
    rw[<-hσ,<-hG2];exact h3
   refine⟨jump,_,by rw[<-hj];exact run_endLoop ob hbz,?_⟩
   cases jump with
   |none=>subst hy;exact⟨.normal,_,_,rfl,hQ,h3'⟩
   |some c=>
    rcases hy with ⟨rfl,rfl⟩|⟨id,rfl,rfl⟩
    .exact wpIn_ret ⟨.ret,_,_,rfl,hQ,h3'⟩
    .exact wpIn_exit ⟨.exit id,_,_,rfl,hQ,h3'⟩
  rcases hQQ r bs' hq with ⟨hb,hQ⟩|⟨hb,hQ⟩|⟨id,hb,hQ⟩
  .exact out _ .normal none hb (by rw[hx]) (by rw[hx,hrec];simp) (by rw[hx,hrec]) hQ rfl
  .exact out _ .ret (some .ret) hb (by rw[hx];rfl) (by simp[LB.done]) rfl hQ (.inl ⟨rfl,rfl⟩)
  .exact out _ (.exit id) (some (.exit id)) hb (by rw[hx];rfl) (by simp[LB.done]) rfl hQ (.inr ⟨id,rfl,rfl⟩)
end
end Go.AM
namespace Go.AM
open Go.CK Go.RowKit
inductive RC where
 |skip
 |reg (dr:Bool) (keep:List Nat) (ops:List ROp)
 |solo (p:Nat) (keep:List Nat) (ops:List ROp)
 |mult (keep:List Nat) (ops:List (Nat×ROp))
 |both (keep:List Nat) (qa q1 q2:List (Nat×ROp))
 |seq (a b:RC)
 |cond (c:Opd) (a b:RC)
 |block (id:Nat) (c:RC)
 |loop (c:RC)
 |range (g:Opd) (ps:List Nat) (a b:RC)
 |exit (id:Nat)
 |ret
deriving Inhabited
def mem(k:Nat):List Nat->Bool
 |[]=>false
 |x::xs=>match Nat.beq x k with
  |true=>true
  |false=>mem k xs
def St.keep(s:St)(ks:List Nat):St:=⟨eC (λk=>mem k ks) s.env,s.bs,s.lo⟩
theorem aB.keep(s:St)(ks:List Nat):aB s (s.keep ks):=λE G a w hs=>by
 have hat:∀p x,(s.keep ks).at p=some x->s.at p=some x:=λp x hp=>by
  cases p with
  |sl t=>exact(ny _ _ _ _ hp).1
  |bx b j=>exact hp
 exact⟨G,hs.fr,hs.ok,hs.nt,λp x hp=>hs.val p x (hat p x hp),λb j x hp=>hs.one b j x (hat _ x hp),hs.box,hs.bmem,hs.inj,λp z l hp=>hs.own p z l (hat p _ hp),hs.clinj,hs.clbox,hs.cllt,hs.lo,hs.len,hs.sig,hs.sp⟩
def Cb(a b:St->(AX->St->Prop)->Prop)(x:LB)(env:List (Nat×AV))(n:Nat)(ps:List Nat)(y:List AV)(bs:List Box)(R:AV->List Box->Prop):Prop:=
 a ⟨lF env ps y,bs,bs.length⟩ λe s1=>match e with
  |.normal=>ag s1.bs n=some x/\b ⟨s1.env,s1.bs.set n .dead,s1.lo⟩ λe s2=>∃s3,aB s2 s3/\tu x n R e s3
  |_=>False
def RC.wp(P:Program):RC->St->(AX->St->Prop)->Prop
 |.skip,s,Q=>Q .normal s
 |.reg dr keep ops,s,Q=>tN P dr ops s λs'=>Q .normal (s'.keep keep)
 |.solo p keep ops,s,Q=>tg P p 0 ops s λs'=>Q .normal (s'.keep keep)
 |.mult keep ops,s,Q=>il P (iq ops) ops s λs'=>Q .normal (s'.keep keep)
 |.both keep qa q1 q2,s,Q=>il P (aX qa q1 q2) qa s λsA=>il P (aX qa q1 q2) q1 sA (λs'=>Q .normal (s'.keep keep))/\il P (aX qa q1 q2) q2 sA (λs'=>Q .normal (s'.keep keep))
 |.seq a b,s,Q=>a.wp P s (mc (λs'=>b.wp P s' Q) Q)
 |.cond c a b,s,Q=>match s.ev c with
  |.bool t=>(t=true->a.wp P s Q)/\(t=false->b.wp P s Q)
  |_=>False
 |.block id c,s,Q=>c.wp P s (vn id Q)
 |.loop c,s,Q=>∃(I:Nat->St->Prop) (m:Nat) (s0:St),aB s s0/\I m s0/\∀m s,I m s->c.wp P s (mc (λs'=>∃m' s'',m'<m/\aB s' s''/\I m' s'') Q)
 |.range g ps a b,s,Q=>∃s0,aB s s0/\match s0.ev g with
  |.fn (.func gf) [] lb=>dI P gf=true/\∀x:LB,(∀y bs R,ag bs s0.bs.length=some x->y.length=ps.length->Cb (λs Q=>a.wp P s Q) (λs Q=>b.wp P s Q) x (eF s0.env) s0.bs.length ps y bs R->mH P s0.bs.length y bs R)->
    ∃QQ,Sem P gf ((.yl s0.bs.length::lb).map AV.norm) (s0.bs++[.loop x]) QQ/\∀r bs',QQ r bs'->Da x s0 bs' Q
  |_=>False
 |.exit id,s,Q=>Q (.exit id) s
 |.ret,s,Q=>Q .ret s
def bV(id:Nat):List (Nat×List Nat)->List Nat
 |[]=>[]
 |(i,l)::r=>match Nat.beq i id with
  |true=>l
  |false=>bV id r
def F9(id:Nat):List (Nat×Nat)->Option Nat
 |[]=>none
 |(i,p)::r=>match Nat.beq i id with
  |true=>some p
  |false=>F9 id r
def J8(o:Oper):List Nat:=match o.op with
 |.call {callee:=.builtin .append,.. }|.call {callee:=.value _,.. }|.makeSlice .. =>o.dst.toList
 |_=>[]
def J7(o:Oper):List Nat:=match o.op with
 |.call {callee:=.builtin .append,args:=⟨.tmp t::_⟩,.. }=>[t]
 |_=>[]
def Dj(ops:Array Oper)(d t:Nat):Bool:=ops.toList.any (λo=>(J8 o).contains t)||ops.toList.any λo=>(J7 o).contains d
def hk(keeps:List (Nat×List Nat))(tk:Nat->Nat->Bool)(d t:Nat):Bool:=match Nat.beq d t with
 |true=>(bV 1000000 keeps).contains d
 |false=>tk d t
def K9:RC:=.cond (.c .top) .skip .skip
def dR(P:Program)(nt:Nat)(keeps:List (Nat×List Nat))(solo:List (Nat×Nat))(fl:Bool):Code->Option RC
  |.skip=>some .skip
  |.label _=>some .skip
  |.region id ops dr=>match (bV 1000001 keeps).contains id with
   |true=>some K9
   |false=>match dr with
    |false=>match pr P nt (hk keeps λ_ _=>false) ops ops.toList with
      |some rs=>some (.reg false (bV id keeps) rs)
      |none=>none
    |true=>match bV (4000000+id) keeps with
     |x::y::A=>match pr P nt (hk keeps (Dj ops)) ops ops.toList with
      |some rs=>match zi ops rs (bV (3000000+id) keeps) A x y (bV (5000000+id) keeps) (bV (6000000+id) keeps),cz rs (bV (3000000+id) keeps) A,cz rs (bV (3000000+id) keeps) (x::bV (5000000+id) keeps),cz rs (bV (3000000+id) keeps) (y::bV (6000000+id) keeps) with
        |true,some qa,some q1,some q2=>some (.both (bV id keeps) qa q1 q2)
        |_,_,_,_=>none
      |none=>none
     |_=>match bV (2000000+id) keeps with
     |i0::pi=>match pr P nt (hk keeps (Dj ops)) ops ops.toList with
      |some rs=>match xH ops rs (i0::pi) (bV (3000000+id) keeps),cz rs (bV (3000000+id) keeps) (i0::pi) with
        |true,some q=>some (.mult (bV id keeps) q)
        |_,_=>none
      |none=>none
     |[]=>
      match F9 id solo with
      |some p=>match pr P nt (hk keeps (Dj ops)) ops ops.toList with
       |some rs=>if rF ops rs p then some (.solo p (bV id keeps) rs) else none
       |none=>none
      |none=>match pr P nt (hk keeps λ_ _=>true) ops ops.toList with
       |some rs=>if qj ops rs then some (.reg true (bV id keeps) rs) else match pr P nt (hk keeps (Dj ops)) ops ops.toList with
         |some rs=>if qj ops rs then some (.reg true (bV id keeps) rs) else none
         |none=>none
       |none=>none
  |.seq a b=>match dR P nt keeps solo fl a,dR P nt keeps solo fl b with
    |some a,some b=>some (.seq a b)
    |_,_=>none
  |.cond c a b=>match opd c,dR P nt keeps solo fl a,dR P nt keeps solo fl b with
    |some c,some a,some b=>some (.cond c a b)
    |_,_,_=>none
  |.block id c=>match dR P nt keeps solo fl c with
    |some c=>some (.block id c)
    |none=>none
  |.loop c=>match dR P nt keeps solo fl c with
    |some c=>some (.loop c)
    |none=>none
  |.rangeFunc g ps a b=>match fl with
    |true=>match opd g,dR P nt keeps solo false a,dR P nt keeps solo false b with
      |some g,some a,some b=>if ps.toList.all (λp=>Nat.blt p nt) then some (.range g ps.toList a b) else none
      |_,_,_=>none
    |false=>none
  |.scope c=>dR P nt keeps solo fl c
  |.exit id=>some (.exit id)
  |.ret=>some .ret
  |_=>none
theorem oL{K K':St->Prop}{Q:AX->St->Prop}(h:∀s,K s->K' s):∀x s,mc K Q x s->mc K' Q x s:=λx s hx=>by
 cases x with
 |normal=>exact h s hx
 |exit id=>exact hx
 |ret=>exact hx
theorem nG{P:Program}{nt:Nat}{keeps:List (Nat×List Nat)}{solo:List (Nat×Nat)}(hm:P.follows .mixedOrders=true):∀{c:Code} {fl:Bool} {r:RC},dR P nt keeps solo fl c=some r->∀{s:St} {Q:AX->St->Prop},r.wp P s Q->WP P nt fl c s Q:=by
 intro c
 induction c with
 |skip=>intro fl r hc s Q h;cases hc;exact WP.skip h
 |label l=>intro fl r hc s Q h;cases hc;exact WP.label h
 |region id ops dr=>
  intro fl r hc s Q h;simp only[dR] at hc;split at hc
  .cases hc;exact h.elim
  cases dr with
  |false=>
   simp only at hc;split at hc
   .rename_i rs hrs;cases hc;exact WP.rX (WP.region hrs (eV (λs' hs'=>⟨_,aB.keep s' _,hs'⟩) h))
   .cases hc
  |true=>
   simp only at hc;split at hc
   .split at hc
    .rename_i rs hrs;split at hc
     .rename_i qa q1 q2 hi ha h1 h2;cases hc;exact WP.rX (WP.zW hm hrs hi ha h1 h2 (aY (λsA hs'=>⟨aY (λs' hs'=>⟨_,aB.keep s' _,hs'⟩) hs'.1,aY (λs' hs'=>⟨_,aB.keep s' _,hs'⟩) hs'.2⟩) h))
     .cases hc
    .cases hc
   split at hc
   .split at hc
    .rename_i rs hrs;split at hc
     .rename_i q hi hq;cases hc;exact WP.rX (WP.zV hm hrs hi hq (aY (λs' hs'=>⟨_,aB.keep s' _,hs'⟩) h))
     .cases hc
    .cases hc
   split at hc
   .split at hc
    .rename_i rs hrs;split at hc
     .rename_i hi;cases hc;exact WP.rX (WP.zU hm hrs hi (lr (λs' hs'=>⟨_,aB.keep s' _,hs'⟩) h))
     .cases hc
    .cases hc
   .split at hc
    .rename_i rs hrs;split at hc
     .rename_i hi;cases hc;exact WP.rX (WP.tA hm hrs hi (eV (λs' hs'=>⟨_,aB.keep s' _,hs'⟩) h))
     .split at hc
      .rename_i rs2 hrs2;split at hc
       .rename_i hi;cases hc;exact WP.rX (WP.tA hm hrs2 hi (eV (λs' hs'=>⟨_,aB.keep s' _,hs'⟩) h))
       .cases hc
      .cases hc
    .cases hc
 |seq a b iha ihb=>
  intro fl r hc s Q h;simp only[dR] at hc;split at hc
  .rename_i ra rb ha hb;cases hc;exact WP.seq ((iha ha h).mono λx s' q=>oL (λs2 h2=>ihb hb h2) x s' q)
  .cases hc
 |cond c a b iha ihb=>
  intro fl r hc s Q h;simp only[dR] at hc;split at hc
  .rename_i rc ra rb hcc ha hb;cases hc;refine WP.cond hcc ?_;simp only[RC.wp] at h;split at h
   .rename_i t ht;rw[ht];exact⟨λe=>iha ha (h.1 e),λe=>ihb hb (h.2 e)⟩
   .exact h.elim
  .cases hc
 |block id c ih=>
  intro fl r hc s Q h;simp only[dR] at hc;split at hc
  .rename_i rc hcc;cases hc;exact WP.block (ih hcc h)
  .cases hc
 |loop c ih=>
  intro fl r hc s Q h;simp only[dR] at hc;split at hc
  .rename_i rc hcc;cases hc;obtain⟨I,m,s0,hw0,h0,hr⟩:=h;refine WP.loop (λm s=>∃s',aB s s'/\I m s') ⟨s0,hw0,h0⟩ λm s ⟨s',hw,hI⟩=>?_;refine WP.KQ hw ((ih hcc (hr m s' hI)).mono λx s2 q=>oL (λs3 ⟨m',s'',h1,h2,h3⟩=>⟨m',h1,s'',h2,h3⟩) x s2 q)
  .cases hc
 |exit id=>intro fl r hc s Q h;cases hc;exact WP.exit h
 |ret=>intro fl r hc s Q h;cases hc;exact WP.ret h
 |rangeFunc g ps a b iha ihb=>
  intro fl r hc s Q h;simp only[dR] at hc;split at hc
  .split at hc
   .rename_i rg ra rb hg ha hb;split at hc
    .rename_i hps;cases hc;obtain⟨s0,hw,h⟩:=h;refine WP.KQ hw ?_;split at h
     .rename_i gf lb hgv;obtain⟨hbd,h⟩:=h;refine WP.range hg hgv hbd (λp hp=>?_) λx hx=>h x λy bs R h1 h2 h3=>hx y bs R h1 (by simpa using h2) ?_
      .have:=ZS.1 hps p hp;simpa using this
      .refine WP.mono (iha ha h3) λe s1 hq=>?_
       cases e with
       |normal=>exact⟨hq.1,WP.rX (ihb hb hq.2)⟩
       |ret=>exact hq
       |exit id=>exact hq
     .exact h.elim
    .cases hc
   .cases hc
  .cases hc
 |scope c ih=>intro fl r hc s Q h;exact WP.scope (ih hc h)
 |goto=>intro _ r hc;cases hc
 |refuse=>intro _ r hc;cases hc
theorem RC.wp_mono{P:Program}:∀{c:RC} {s:St} {Q Q':AX->St->Prop},(∀x s,Q x s->Q' x s)->c.wp P s Q->c.wp P s Q'
 |.skip,_,_,_,hq,h=>hq _ _ h
 |.reg _ _ _,_,_,_,hq,h=>eV (λ_ hx=>hq _ _ hx) h
 |.solo _ _ _,_,_,_,hq,h=>lr (λ_ hx=>hq _ _ hx) h
 |.mult _ _,_,_,_,hq,h=>aY (λ_ hx=>hq _ _ hx) h
 |.both _ _ _ _,_,_,_,hq,h=>aY (λ_ hx=>⟨aY (λ_ hx=>hq _ _ hx) hx.1,aY (λ_ hx=>hq _ _ hx) hx.2⟩) h
 |.seq a b,s,Q,Q',hq,h=>by
  refine RC.wp_mono (c:=a) (λx s' hx=>?_) h
  cases x with
  |normal=>exact RC.wp_mono (c:=b) hq hx
  |exit id=>exact hq _ _ hx
  |ret=>exact hq _ _ hx
 |.cond c a b,s,Q,Q',hq,h=>by
  simp only[RC.wp] at h|-;split at h
  .exact ⟨λe=>RC.wp_mono (c:=a) hq (h.1 e),λe=>RC.wp_mono (c:=b) hq (h.2 e)⟩
  .exact h
 |.block id c,s,Q,Q',hq,h=>by
  refine RC.wp_mono (c:=c) (λx s' hx=>?_) h
  cases x with
  |normal=>exact hq _ _ hx
  |ret=>exact hq _ _ hx
  |exit id'=>
   simp only[vn] at hx|-;split at hx
   .exact hq _ _ hx
   .exact hq _ _ hx
 |.loop c,s,Q,Q',hq,h=>by
  obtain⟨I,m,s0,h1,h2,h3⟩:=h;refine⟨I,m,s0,h1,h2,λm s hI=>RC.wp_mono (c:=c) (λx s' hx=>?_) (h3 m s hI)⟩
  cases x with
  |normal=>exact hx
  |exit id=>exact hq _ _ hx
  |ret=>exact hq _ _ hx
 |.range g ps a b,s,Q,Q',hq,h=>by
  obtain⟨s0,hw,h⟩:=h;refine⟨s0,hw,?_⟩;split at h
  .obtain ⟨h1,h2⟩:=h;refine⟨h1,λx hx=>?_⟩;obtain⟨QQ,h3,h4⟩:=h2 x hx;refine⟨QQ,h3,λr bs' hr=>?_⟩;rcases h4 r bs' hr with ⟨k1,k2⟩|⟨k1,k2⟩|⟨id,k1,k2⟩
   .exact .inl ⟨k1,hq _ _ k2⟩
   .exact .inr (.inl ⟨k1,hq _ _ k2⟩)
   .exact .inr (.inr ⟨id,k1,hq _ _ k2⟩)
  .exact h
 |.exit _,_,_,_,hq,h=>hq _ _ h
 |.ret,_,_,_,hq,h=>hq _ _ h
theorem aB.aQ(s:St)(t z:Nat)(l:List AV)(h:ak s.env t=some (.sl .full l))(hz:∀y∈l,y.cells.length=z):aB s (s.put (some t) (.sl (.own z) l)):=λE G a w hs=>
 ⟨G,hs.aQ (p:=.sl t) (by simp only[St.at];exact h) hz⟩
theorem aB.norm(s:St)(t:Nat)(x:AV)(h:ak s.env t=some x):aB s (s.put (some t) x.norm):=λE G a w hs=>by
 have hv:=hs.val (.sl t) x (by simp only[St.at];exact h)
 exact⟨G,hs.upd (q:=.sl t) (by simp only[St.at];exact h) (by rw[<-CY];exact hv.norm)⟩
def mi(n:Nat):List (Nat×AV)->Bool
 |[]=>true
 |(_,x)::r=>x.lt n&&mi n r
def aj(n:Nat):List Box->Bool
 |[]=>true
 |.cells cs::r=>cs.all (λx=>x.lt n)&&aj n r
 |.dead::r=>aj n r
 |.loop _::r=>aj n r
 |.row cs::r=>cs.all (λx=>x.lt n)&&aj n r
 |.mp _::r=>aj n r
 |.mq _ _::r=>aj n r
theorem xU{n:Nat}:∀{e:List (Nat×AV)} {t:Nat} {x:AV},mi n e=true->ak e t=some x->x.lt n=true
 |[],_,_,_,h=>by cases h
 |(k,y)::r,t,x,h,hg=>by
  simp only[mi,ZD] at h;simp only[ak] at hg;split at hg
  .cases hg;exact h.1
  .exact xU h.2 hg
theorem cw{n:Nat}:∀{bs:List Box} {b j:Nat} {cs:List AV} {x:AV},aj n bs=true->aa bs b=some cs->cs[j]? =some x->x.lt n=true
 |[],_,_,_,_,_,h,_=>by simp[aa] at h
 |.cells ds::r,0,j,cs,x,h,hb,hj=>by
  simp only[aj,ZD,ZS] at h;simp only[aa,Yq,Box.cs?,ZN] at hb;subst hb
  exact h.1 x (ZE hj)
 |.row ds::r,0,j,cs,x,h,hb,hj=>by
  simp only[aj,ZD,ZS] at h;simp only[aa,Yq,lx] at hb;split at hb
  .cases hb
  .cases hb
   exact h.1 x (ZE hj)
 |.dead::r,0,j,cs,x,h,hb,hj=>by simp[aa,Box.cs?] at hb
 |.loop _::r,0,j,cs,x,h,hb,hj=>by simp[aa,Box.cs?] at hb
 |.mp _::r,0,j,cs,x,h,hb,hj=>by simp[aa,Box.cs?] at hb
 |.mq _ _::r,0,j,cs,x,h,hb,hj=>by simp[aa,Box.cs?] at hb
 |.cells ds::r,b+1,j,cs,x,h,hb,hj=>by
  simp only[aj,ZD] at h
  exact cw (b:=b) h.2 (by simpa[aa] using hb) hj
 |.row ds::r,b+1,j,cs,x,h,hb,hj=>by
  simp only[aj,ZD] at h
  exact cw (b:=b) h.2 (by simpa[aa] using hb) hj
 |.dead::r,b+1,j,cs,x,h,hb,hj=>by
  exact cw (b:=b) (by simpa[aj] using h) (by simpa[aa] using hb) hj
 |.loop _::r,b+1,j,cs,x,h,hb,hj=>by
  exact cw (b:=b) (by simpa[aj] using h) (by simpa[aa] using hb) hj
 |.mp _::r,b+1,j,cs,x,h,hb,hj=>by
  exact cw (b:=b) (by simpa[aj] using h) (by simpa[aa] using hb) hj
 |.mq _ _::r,b+1,j,cs,x,h,hb,hj=>by
  exact cw (b:=b) (by simpa[aj] using h) (by simpa[aa] using hb) hj
theorem aB.cut(s:St)(n:Nat)(hlo:s.lo<=n)(hn:n<=s.bs.length)(h1:mi n s.env=true)(h2:aj n (s.bs.take n)=true):aB s ⟨s.env,s.bs.take n,s.lo⟩:=λE G a w hs=>by
 have hbox:∀b cs,aa (s.bs.take n) b=some cs->aa s.bs b=some cs:=λb cs hb=>by
  simp only[aa,Yc] at hb|-;split at hb
  .rename_i q hq;split at hq
   .rw [hq];exact hb
   .cases hq
  .cases hb
 refine⟨G,hs.forget (n:=n) (by simp;omega) rfl hlo (λp x hp=>?_) hbox (λb x hb=>?_)⟩
 rotate_left
 .simp only[ag,Yc] at hb|-;split at hb
  .rename_i q hq;split at hq
   .rw [hq];exact hb
   .cases hq
  .cases hb
 cases p with
 |sl t=>exact⟨hp,xU h1 hp⟩
 |bx b j=>
  simp only[St.at] at hp|-
  cases hb:aa (s.bs.take n) b with
  |none=>rw[hb] at hp;cases hp
  |some cs=>
   rw[hb] at hp;rw[hbox b cs hb];exact⟨hp,cw h2 hb hp⟩
inductive cm where
 |slot (t:Nat)
 |cell (t:Nat) (agg:Bool) (n:Nat)
deriving Inhabited
def lX(P:Program):List ResultVar->Option (List cm)
 |[]=>some []
 |.tmp t::r=>match lX P r with
  |some rs=>some (.slot t::rs)
  |none=>none
 |.cell t ty::r=>match lX P r,nM P ty,dn P ty with
  |some rs,some agg,some n=>some (.cell t agg n::rs)
  |_,_,_=>none
def Ce(s:St):cm->(AV->Prop)->Prop
 |.slot t,K=>K (s.get t).aF
 |.cell t agg n,K=>bM agg n (s.rd (s.ev (.t t))) K
def zS(s:St):List cm->(List AV->Prop)->Prop
 |[],K=>K []
 |r::rs,K=>Ce s r λx=>zS s rs λxs=>K (x::xs)
def oU(s:St)(rs:List cm)(K:AV->List Box->Prop):Prop:=
 match rs with
 |[.slot t]=>K (s.get t) s.bs
 |[r]=>Ce s r λx=>K x s.bs
 |rs=>zS s rs λxs=>K (.tup xs) s.bs
def Ir(rs:List cm)(Q:AV->List Box->Prop):AX->St->Prop
 |.normal,s=>oU s rs Q
 |.ret,s=>oU s rs Q
 |_,_=>False
def params:Nat->List AV->List (Nat×AV)
 |_,[]=>[]
 |k,x::xs=>(k,x)::params (k+1) xs
theorem tM:∀(vals:List AV) (k t:Nat),ak (params k vals) t=if k<=t then vals[t-k]? else none
 |[],k,t=>by simp[params,ak]
 |x::xs,k,t=>by
  simp only[params,ak]
  by_cases h:k=t
  .subst h;rw[kZ];simp
  .rw [cg h];simp only;rw[tM xs (k+1) t]
   by_cases h2:k<=t
   .rw [if_pos (by omega),if_pos h2,show t-k=(t-(k+1))+1 by omega];simp
   .rw [if_neg (by omega),if_neg h2]
section
variable{P:Program}{E:Entry}{G:Gh}{s:St}{a:Act}{w:World}
theorem RS.enter{bs:List Box}{lo:Nat}(h:RS E G ⟨[],bs,lo⟩ a w){args:List Value}{vals:List AV}(hl:args.length=vals.length)(hv:∀j (h:j<vals.length) v,args[j]? =some v->RV G.M G.σ bs.length vals[j] v){nt:Nat}(hnt:vals.length<=nt):
  RS (cC G bs w nt) {G with cl:=nY G.cl} ⟨params 0 vals,bs,bs.length⟩ {tmps:=args.toArray++Array.replicate (nt-args.toArray.size) undef,defers:=[]} w:=by
 have h0:=h.w6 (cC G bs w nt) {tmps:=args.toArray++Array.replicate (nt-args.toArray.size) undef,defers:=[]} (Fr.refl _ _ _) (by simp[cC];omega) bs.length rfl (ZG _) (λ_ _=>rfl) (λB hB=>.inl hB) rfl
 have hat:∀p x,(⟨params 0 vals,bs,bs.length⟩:St).at p=some x->(∃t,p=.sl t/\vals[t]? =some x)\/(∃b j,p=.bx b j/\(⟨[],bs,bs.length⟩:St).at (.bx b j)=some x):=λp x hp=>by
  cases p with
  |sl t=>
   simp only[St.at,tM] at hp;rw[if_pos (ZJ _),XL] at hp
   exact .inl ⟨t,rfl,hp⟩
  |bx b j=>exact .inr ⟨b,j,rfl,hp⟩
 have hslot:∀t x,vals[t]? =some x->RV G.M G.σ bs.length x ((args.toArray++Array.replicate (nt-args.toArray.size) undef).getD t undef):=λt x hx=>by
  have ht:t<vals.length:=by
   rcases Zs t vals.length with h1|h1
   .exact h1
   .rw [ZR h1] at hx;cases hx
  rw[ZA ht] at hx;cases hx;have hta:t<args.length:=by omega
  refine hv t ht _ ?_;rw[ZA hta]
  have:(args.toArray++Array.replicate (nt-args.toArray.size) undef)[t]? =some args[t]:=by
   rw[Array.getElem?_append_left (by simpa using hta)]
   simp[hta]
  simp only[ZT,this,YR]
 refine⟨h0.fr,h0.ok,h0.nt,λp x hp=>?_,λb j x hp=>?_,h0.box,h0.bmem,h0.inj,λp z l hp=>?_,h0.clinj,h0.clbox,h0.cllt,h0.lo,h0.len,h0.sig,h0.sp⟩
 .rcases hat p x hp with ⟨t,rfl,hx⟩|⟨b,j,rfl,hx⟩
  .have:=hslot t x hx;rw[this.bP];exact this
  .exact h0.val _ _ hx
 .rcases hat _ x hp with ⟨t,e,_⟩|⟨b',j',e,hx⟩
  .cases e
  .cases e;exact h0.one _ _ _ hx
 .rcases hat p _ hp with ⟨t,rfl,hx⟩|⟨b,j,rfl,hx⟩
  .have:=(hslot t _ hx).bP;simp[AV.aF] at this
  .exact h0.own _ _ _ hx
def ji(a:Act)(rv:ResultVar):Go.Sem Value:=match rv with
 |.tmp t=>Pure.pure (a.tmps.getD t undef)
 |.cell q ty=>do loadVar ty (<-asAddr (a.tmps.getD q undef))
theorem zT(hs:RS E G s a w){rv:ResultVar}{r:cm}(hr:lX P [rv]=some [r]){K:AV->Prop}(h:Ce s r K):
  ∃x v,K x/\RV G.M G.σ s.bs.length x v/\(ji a rv).run P w=.ok v w:=by
 cases rv with
 |tmp t=>
  simp only[lX,ZN,XG,and_true] at hr;subst hr
  exact⟨_,_,h,hs.Kv t,rfl⟩
 |cell q ty=>
  simp only[lX] at hr;split at hr
  .rename_i rs agg n hrs ha hn;simp only[ZN,XG] at hr;obtain⟨rfl,rfl⟩:=hr;simp only[Ce] at h;unfold bM at h;split at h
   .rename_i cs hcs;have hq:=hs.ev (o:=.tmp q) (r:=.t q) rfl;split at h
    .obtain ⟨h1,h2⟩:=ae.1 h;have hle:=Zr h1;obtain⟨B,off,hv,hc⟩:=hs.rd hq hcs;simp only[Act.eval] at hv;have hrun:=fM P w B off n (λj hj=>let ⟨u,h,_⟩:=hc j (by omega);⟨u,h⟩)
     refine⟨_,.agg (cd w B off n).toArray,h2,?_,?_⟩
     .refine .agg _ _ (by simp[cd];omega) (λu hu=>?_) (λj hj u hu=>?_)
      .simp only[cd,Zk,Zd] at hu;obtain⟨j,hj,rfl⟩:=hu;obtain⟨u,h1,h2,_⟩:=hc j (by omega)
       rw[h1];exact h2
      .simp only[Zn] at hj;obtain⟨u',h1,h2,h3⟩:=hc j (by omega)
       simp[cd,show j<n by omega,h1] at hu
       subst hu;rw[Yv];exact h3
     .simp only[ji];simp[hv,asAddr,loadVar,dk ha,aJ hn,hrun]
    .split at h
     .rename_i c rest;obtain⟨B,off,hv,hc⟩:=hs.rd hq hcs;simp only[Act.eval] at hv;obtain⟨u,h1,_,h3⟩:=hc 0 (by simp)
      rw[Yi] at h1;exact⟨_,u,h,h3,by simp only[ji];simp[hv,asAddr,loadVar,dk ha,h1]⟩
     .exact h.elim
   .exact h.elim
  .cases hr
theorem gR{rv:ResultVar}{rvs:List ResultVar}{rs:List cm}(h:lX P (rv::rvs)=some rs):∃r rs',rs=r::rs'/\lX P [rv]=some [r]/\lX P rvs=some rs':=by
 cases rv with
 |tmp t=>
  simp only[lX] at h|-;split at h
  .rename_i rs' hrs;cases h;exact⟨_,_,rfl,rfl,hrs⟩
  .cases h
 |cell q ty=>
  simp only[lX] at h|-;split at h
  .rename_i rs' agg n hrs ha hn;cases h;exact⟨_,_,rfl,by simp[ha,hn],hrs⟩
  .cases h
theorem wZ(hs:RS E G s a w):∀{rvs:List ResultVar} {rs:List cm},lX P rvs=some rs->∀{K:List AV->Prop},zS s rs K->
  ∃xs vs,K xs/\vs.length=xs.length/\(∀j (h:j<xs.length) v,vs[j]? =some v->RV G.M G.σ s.bs.length xs[j] v)/\(rvs.mapM (ji a)).run P w=.ok vs w/\rvs.length=xs.length
 |[],rs,hr,K,h=>by
  cases hr
  exact⟨[],[],h,rfl,(λj h=>by cases h),by simp,rfl⟩
 |rv::rvs,rs,hr,K,h=>by
  obtain⟨r,rs',rfl,h1,h2⟩:=gR hr;obtain⟨x,v,h3,h4,h5⟩:=zT (P:=P) hs h1 h;obtain⟨xs,vs,h6,h7,h8,h9,h10⟩:=wZ hs h2 h3;refine⟨x::xs,v::vs,h6,by simp[h7],λj hj u hu=>?_,?_,by simp[h10]⟩
  .cases j with
   |zero=>simp at hu;subst hu;exact h4
   |succ j=>exact h8 j (by simpa using hj) u (by simpa using hu)
  .rw [List.mapM_cons];have h5':(ji a rv).run P w=.ok v w:=h5;simp only[Xi,h5',Xh,h9,Xj]
theorem RS.leave(hs:RS E G s a w)(hE:E.nb=s.lo){fn:Func}{rs:List cm}(hr:lX P fn.results.toList=some rs){Q:AV->List Box->Prop}(h:oU s rs Q):
  ∃v r bs' G',(results fn a.tmps).run P w=.ok v w/\Q r bs'/\RS {E with nt:=1,dd:=[]} G' ⟨[(0,r)],bs',s.lo⟩ ⟨#[v],[]⟩ w:=by
 have hre:∀u,RS {E with nt:=1,dd:=[]} {G with cl:=nY G.cl} ⟨[],s.bs,s.lo⟩ ⟨#[u],[]⟩ w:=λu=>
  hs.w6 {E with nt:=1,dd:=[]} _ hs.fr rfl s.lo hE.symm hs.len hs.sig (λB hB=>(rV hs hB).1) rfl
 have plain:∀x v,RV G.M G.σ s.bs.length x v->RS {E with nt:=1,dd:=[]} {G with cl:=nY G.cl} ⟨[(0,x)],s.bs,s.lo⟩ ⟨#[v],[]⟩ w:=λx v hv=>(hre undef).put (k:=0) XF hv
 have hres:(results fn a.tmps).run P w=((fn.results.toList.mapM (ji a)).run P w).andThen λvs w'=>.ok (if h:vs.length=1 then vs[0] else .tuple vs.toArray) w':=by
  have he:results fn a.tmps=(do let vs<-fn.results.mapM (ji a);Pure.pure (if h:vs.size=1 then vs[0] else .tuple vs)):=by
   unfold results;congr 2
  rw[he,Array.mapM_eq_mapM_toList];simp only[Xi,Sem.run_map];generalize (fn.results.toList.mapM (ji a)).run P w=q
  cases q with
  |ok vs w'=>simp
  |halt x w'=>rfl
 unfold oU at h;split at h
 .rename_i t
  match hfr:fn.results.toList,hr with
  |[rv],hr=>
   cases rv with
   |cell q ty=>
    simp only[lX] at hr;split at hr
    .simp only[ZN,XG] at hr;cases hr.1
    .cases hr
   |tmp t'=>
    simp only[lX,ZN,XG,cm.slot.injEq,and_true] at hr;subst hr
    have hrun:(results fn a.tmps).run P w=.ok (a.tmps.getD t' undef) w:=by
     rw[hres,hfr];simp[ji,List.mapM_cons]
    refine⟨a.tmps.getD t' undef,s.get t',s.bs,?_⟩
    by_cases hown:∃z l,s.get t'=.sl (.own z) l
    .obtain ⟨z,l,hg⟩:=hown;have hat:=y4 hg;obtain⟨ad,k,hval,hz,hcl⟩:=hs.own _ _ _ hat;have hv:=hs.val _ _ hat;simp only[AV.aF] at hv;obtain⟨ad2,k2,B,off,hsv⟩:=hv.sv hz;have:=hsv.eq;rw[hval] at this;cases this
     have hroom:Room {E with nt:=1,dd:=[]} {G with cl:=nY G.cl} ⟨[],s.bs,s.lo⟩ w ad z l.length k:=by
      rcases hcl with hcl|⟨B1,hc1,hc2,hrow⟩
      .exact .inl hcl
      .refine .inr ⟨B1,.sl 0,hc2,⟨⟨hrow.lt,hrow.cells,hrow.free,hrow.mine⟩,λq hq=>?_,λb cs hb=>hs.clbox _ B1 hc1 b cs hb,(hs.cllt _ B1 hc1).1,λz' l' e=>by simp[St.at,ak] at e⟩⟩
       cases q with
       |sl t=>cases hq
       |bx b j=>have:=hs.clinj _ _ B1 hc1 hq;cases this
     obtain⟨G',h3⟩:=(hre undef).Ch (d:=0) XF hsv hroom;refine⟨G',hrun,h,?_⟩;rw[hg];exact h3
    .refine ⟨_,hrun,h,plain _ _ ?_⟩;have:=hs.Kv t'
     have hd:(s.get t').aF=s.get t':=by
      generalize hg:s.get t'=g at*
      cases g with
      |sl c l=>cases c with
       |own z=>exact absurd ⟨z,l,rfl⟩ hown
       |_=>rfl
      |_=>rfl
     rwa [hd] at this
  |[],hr=>simp[lX] at hr
  |rv::rv2::rvs,hr=>
   obtain⟨r,rs',e,_,h2⟩:=gR hr;obtain⟨r2,rs2,e2,_,_⟩:=gR h2;rw[e2] at e;cases e
 .rename_i r hnot
  match hfr:fn.results.toList,hr with
  |[rv],hr=>
   obtain⟨x,v,h3,h4,h5⟩:=zT (P:=P) hs hr h;refine⟨v,x,s.bs,_,?_,h3,plain x v h4⟩;rw[hres,hfr];have h5':(ji a rv).run P w=.ok v w:=h5
   simp[List.mapM_cons,h5']
  |[],hr=>simp[lX] at hr
  |rv::rv2::rvs,hr=>
   obtain⟨r,rs',e,_,h2⟩:=gR hr;obtain⟨r2,rs2,e2,_,_⟩:=gR h2;rw[e2] at e;cases e
 .rename_i hn1 hn2;obtain⟨xs,vs,h3,h4,h5,h6,h7⟩:=wZ (P:=P) hs hr h
  have hlen:vs.length≠1:=λe=>by
   match hfr:fn.results.toList,hr with
   |[],hr=>rw[hfr] at h7;simp at h7;omega
   |[rv],hr=>
    obtain⟨r,rs',e,_,h2⟩:=gR hr;cases h2
    exact hn2 r e
   |rv::rv2::rvs,hr=>rw[hfr] at h7;simp at h7;omega
  refine⟨.tuple vs.toArray,.tup xs,s.bs,_,?_,h3,plain _ _ (.tup xs vs h4 h5)⟩;rw[hres,h6];simp[hlen]
end
theorem Sem.of{P:Program}{f:FuncId}{fn:Func}{c:Code}{rc:RC}{keeps:List (Nat×List Nat)}{solo:List (Nat×Nat)}{rs:List cm}(hf:P.funcs[f]? =some fn)(hb:fn.body=some c)(hm:P.follows .mixedOrders=true)(hc:dR P fn.ntmps keeps solo true c=some rc)(hr:lX P fn.results.toList=some rs)
  {vals:List AV} {bs:List Box} {Q:AV->List Box->Prop} (hn:vals.length<=fn.ntmps) (h:rc.wp P ⟨params 0 vals,bs,bs.length⟩ λx s=>∃s',aB s s'/\Ir rs Q x s'):Sem P f vals bs Q:=by
 intro E G a0 w args lo hpre hl hv;refine(callsIn_wide (n:=0)).1 (callsIn_of_wp_marks (F:=F0 none) hf hb trivial ?_);have h1:=hpre.enter hl hv hn;refine wpIn_mono (WP.rX (nG hm hc h) (cC G bs w fn.ntmps) _ _ w none 0 h1 ⟨rfl,λ_=>rfl⟩) ?_;rintro e a' w' ⟨x,s',G',rfl,q,hs'⟩
 have fin:oU s' rs Q->LeavesInM (F0 none) 0 P fn a'.tmps (λe w'=>∃v r bs' G',e=.returned v/\Q r bs'/\RS (cC G bs w 1) G' ⟨[(0,r)],bs',bs.length⟩ ⟨#[v],[]⟩ w') a'.defers .returning w':=λq=>by
  refine hs'.leaves rfl _ rfl λw2 h2=>?_;obtain⟨v,r,bs',G2,h3,h4,h5⟩:=h2.leave h2.lo.symm hr q;have hlo:s'.lo=bs.length:=hs'.lo;rw[hlo] at h5;exact⟨v,h3,v,r,bs',G2,rfl,h4,h5⟩
 cases x with
 |normal=>exact fin q
 |ret=>exact fin q
 |exit id=>exact q.elim
theorem Sem.pure{P:Program}{f:FuncId}{vals:List AV}{Q:AV->Prop}(h:Sem P f vals [] λr _=>Q r)(hvals:∀x∈vals,x.lt 0=true)(hQ:∀r,Q r->r.lt 0=true)(bs:List Box):Sem P f vals bs λr bs'=>Q r/\bs'=bs:=by
 intro E G a0 w args lo hpre hl hv
 have h0:RS ⟨λ_=>False,G.M,w,0,0,G.σ,[]⟩ ⟨G.M,G.σ,λ_=>none⟩ ⟨[],[],0⟩ ⟨#[],[]⟩ w:=by
  have hat:∀p x,(⟨[],[],0⟩:St).at p=some x->False:=λp x hp=>by
   cases p with
   |sl t=>simp[St.at,ak] at hp
   |bx b j=>simp[St.at,aa] at hp
  have hbx:∀b cs,aa ([]:List Box) b=some cs->False:=λb cs hb=>by simp[aa] at hb
  exact⟨Fr.refl _ _ _,hpre.ok,rfl,λp x hp=>(hat p x hp).elim,λb j x hp=>(hat _ x hp).elim,λb cs hb=>(hbx b cs hb).elim,λb cs hb=>(hbx b cs hb).elim,λb b' cs cs' hb _ _=>(hbx b cs hb).elim,λp z l hp=>(hat p _ hp).elim,(λp q B hp=>by cases hp),(λp B hp=>by cases hp),(λp B hp=>by cases hp),rfl,ZG _,(λb hb=>by cases hb),Sp.none _ _ _ _ _ _⟩
 refine(h _ _ _ w args 0 h0 hl (λj hj v hjv=>?_)).mono ?_
 .exact ((hv j hj v hjv).lt (hvals _ (Zc hj))).mono (Hp.le_refl _) (ZG _) (λ_ _=>rfl)
 .rintro e w' ⟨v,r,bs',G',rfl,hq,h'⟩;refine⟨v,r,bs,⟨G'.M,G.σ,λp=>match p with|.sl 0=>G'.cl (.sl 0)|.sl _=>none|.bx b j=>G.cl (.bx b j)⟩,rfl,⟨hq,rfl⟩,?_⟩
  have hno:∀B,¬dV ⟨G.M,G.σ,λ_=>none⟩ [] B:=λB hB=>by
   rcases hB with ⟨b,cs,hb,_⟩|⟨b,j,hb⟩|⟨b,x,hb,_⟩
   .simp [aa] at hb
   .cases hb
   .exact dS hb
  have hfr:Fr (dV ⟨G.M,G.σ,λ_=>none⟩ []) G.M w G'.M w':=h'.fr;have hat0:(⟨[(0,r)],bs',([]:List Box).length⟩:St).at (.sl 0)=some r:=rfl
  have hnew:∀q B,G'.cl q=some B->w.heap.size<=B:=λq B hB=>by
   rcases(h'.cllt q B hB).2 with h1|h1
   .exact absurd h1 (hno B)
   .exact h1
  have hatc:∀p x,(⟨[(0,r)],bs,bs.length⟩:St).at p=some x->(p=.sl 0/\x=r)\/(∃b j,p=.bx b j/\(⟨[],bs,lo⟩:St).at (.bx b j)=some x):=λp x hp=>by
   cases p with
   |sl t=>
    simp only[St.at,ak] at hp;split at hp
    .rename_i hb;have:=ZO hb;subst this;cases hp;exact .inl ⟨rfl,rfl⟩
    .cases hp
   |bx b j=>exact .inr ⟨b,j,rfl,hp⟩
  have hbv:∀b j x,(⟨[],bs,lo⟩:St).at (.bx b j)=some x->al G.σ ⟨#[v],[]⟩ w' (.bx b j)=al G.σ a0 w (.bx b j):=λb j x hx=>by
   simp only[St.at] at hx
   cases hb:aa bs b with
   |none=>rw[hb] at hx;cases hx
   |some cs=>simp only[al];rw[bK (hfr.heap _ (hpre.blt hb) (hno _))]
  have hrv:RV G'.M G.σ bs.length r.aF v:=by
   have h1:=h'.val _ _ hat0;have h2:=h1.lt (m:=0) (by rw[uj];exact hQ r hq)
   exact h2.mono (Hp.le_refl _) (ZJ _) (λb hb=>by cases hb)
  refine⟨⟨hfr.os,hfr.tape,hfr.output,hfr.size,hfr.le,λB hB _=>hfr.heap B hB (hno B),λB hB _=>hfr.mem B hB (hno B)⟩,h'.ok,rfl,λp x hp=>?_,λb j x hp=>?_,λb cs hb=>?_,λb cs hb=>?_,hpre.inj,λp z l hp=>?_,λp q B hp hq'=>?_,λp B hB b cs hb=>?_,λp B hB=>?_,rfl,ZG _,λ_ _=>rfl,?_⟩
  .rcases hatc p x hp with ⟨rfl,rfl⟩|⟨b,j,rfl,hx⟩
   .exact hrv
   .show RV G'.M G.σ bs.length x.aF _;rw[hbv b j x hx];exact(hpre.val _ _ hx).mono hfr.le (ZG _) (λ_ _=>rfl)
  .rcases hatc _ x hp with ⟨e,_⟩|⟨b',j',e,hx⟩
   .cases e
   .cases e;show (al G.σ _ w' _).oneCell'=true;rw[hbv b j x hx];exact hpre.one _ _ _ hx
  .obtain ⟨vs,T,h1,h2⟩:=hpre.box b cs hb;exact⟨vs,T,(hfr.heap _ (hpre.blt hb) (hno _)).trans h1,h2⟩
  .obtain ⟨h1,_⟩:=hpre.bmem b cs hb;exact⟨λo=>(hfr.mem _ (hpre.blt hb) (hno _) o).trans (h1 o),.inl (.inl ⟨b,cs,hb,rfl⟩)⟩
  .rcases hatc p _ hp with ⟨rfl,hx⟩|⟨b,j,rfl,hx⟩
   .subst hx;obtain⟨ad,k,h1,h2,h3⟩:=h'.own _ _ _ hat0;refine⟨ad,k,h1,h2,?_⟩;rcases h3 with h3|⟨B,hB,h4,h5⟩
    .exact .inl h3
    .exact .inr ⟨B,hB,h4,h5.lt,h5.cells,h5.free,.inr (hnew _ B hB)⟩
   .obtain ⟨ad,k,h1,h2,h3⟩:=hpre.own _ _ _ hx;refine⟨ad,k,(hbv b j _ hx).trans h1,h2,?_⟩;rcases h3 with h3|⟨B,hB,h4,h5⟩
    .exact .inl h3
    .have hlt:=(hpre.cllt _ B hB).1;obtain⟨vs,T,h6,h7⟩:=h5.cells;exact .inr ⟨B,hB,h4,h5.lt,⟨vs,T,(hfr.heap B hlt (hno B)).trans h6,h7⟩,λo ho=>(hfr.mem B hlt (hno B) o).trans (h5.free o ho),.inl (.inr (.inl ⟨b,j,hB⟩))⟩
  .cases p with
   |sl t=>
    cases t with
    |zero=>
     cases q with
     |sl u=>
      cases u with
      |zero=>rfl
      |succ u=>cases hq'
     |bx b j=>
      have h1:=hnew _ B hp;have h2:=(hpre.cllt _ B hq').1
      omega
    |succ t=>cases hp
   |bx b j=>
    cases q with
    |sl u=>
     cases u with
     |zero=>
      have h1:=hnew _ B hq';have h2:=(hpre.cllt _ B hp).1
      omega
     |succ u=>cases hq'
    |bx b' j'=>exact hpre.clinj _ _ B hp hq'
  .cases p with
   |sl t=>
    cases t with
    |zero=>
     have h1:=hnew _ B hB;have h2:=hpre.blt hb;intro e;have e':G.σ b=B:=e;have h2':G.σ b<w.heap.size:=h2
     omega
    |succ t=>cases hB
   |bx b' j'=>exact hpre.clbox _ B hB b cs hb
  .cases p with
   |sl t=>
    cases t with
    |zero=>exact⟨(h'.cllt _ B hB).1,.inr (hnew _ B hB)⟩
    |succ t=>cases hB
   |bx b' j'=>exact⟨YT (hpre.cllt _ B hB).1 hfr.size,.inl (.inr (.inl ⟨b',j',hB⟩))⟩
  .refine ⟨λB o hs=>?_,λb x hb=>?_,hpre.sp.inj,[],rfl,.nil⟩
   .rcases hs with ⟨b,x,hb,e,ho⟩|⟨hmem,_⟩
    .obtain ⟨h1,h2,_⟩:=hpre.sp.ob B o (.inl ⟨b,x,hb,e,ho⟩);have hlt:=(Zh.1 h1).1;refine⟨(hfr.heap B hlt (hno B)).trans h1,λp hp=>?_,.inl (.inr (.inr ⟨b,x,hb,e⟩))⟩
     cases p with
     |sl t=>
      cases t with
      |zero=>have:=hnew _ B hp;omega
      |succ t=>cases hp
     |bx b' j'=>exact h2 _ hp
    .cases hmem
   .obtain ⟨h1,h2,h3⟩:=hpre.sp.base b x hb;exact⟨Hp.le_trans h1 hfr.le,h2,h3⟩
theorem Fun.of{P:Program}{f:FuncId}{vals:List AV}{r:AV}(h:Sem P f vals [] λr' _=>r'=r)(hvals:vals.all (λx=>x.lt 0)=true)(hr:r.lt 0=true):Fun P f vals r:=
 Sem.pure h (by simpa using hvals) (λr' e=>by rw[e];exact hr)
theorem Sem.calls{P:Program}{f:FuncId}{vals:List AV}{Q:AV->List Box->Prop}(h:Sem P f vals [] Q){M:Hp}{w:World}(hM:M.le (Hp.of w)){args:List Value}(hl:args.length=vals.length)(hv:∀j (h:j<vals.length) v,args[j]? =some v->FV M vals[j] v):
  Calls P f args.toArray w λe w'=>∃v r bs' M' σ n,e=.returned v/\Q r bs'/\RV M' σ n r.aF v/\Ext w w'/\M'.le (Hp.of w'):=by
 have h0:RS ⟨λ_=>False,M,w,0,0,λ_=>0,[]⟩ ⟨M,λ_=>0,λ_=>none⟩ ⟨[],[],0⟩ ⟨#[],[]⟩ w:=by
  have hat:∀p x,(⟨[],[],0⟩:St).at p=some x->False:=λp x hp=>by
   cases p with
   |sl t=>simp[St.at,ak] at hp
   |bx b j=>simp[St.at,aa] at hp
  have hbx:∀b cs,aa ([]:List Box) b=some cs->False:=λb cs hb=>by simp[aa] at hb
  exact⟨Fr.refl _ _ _,hM,rfl,λp x hp=>(hat p x hp).elim,λb j x hp=>(hat _ x hp).elim,λb cs hb=>(hbx b cs hb).elim,λb cs hb=>(hbx b cs hb).elim,λb b' cs cs' hb _ _=>(hbx b cs hb).elim,λp z l hp=>(hat p _ hp).elim,(λp q B hp=>by cases hp),(λp B hp=>by cases hp),(λp B hp=>by cases hp),rfl,ZG _,(λb hb=>by cases hb),Sp.none _ _ _ _ _ _⟩
 refine(h _ _ _ w args 0 h0 hl (λj hj v hjv=>.flat (hv j hj v hjv))).mono ?_;rintro e w' ⟨v,r,bs',G',rfl,hq,h'⟩
 have hno:∀B,¬dV ⟨M,λ_=>0,λ_=>none⟩ [] B:=λB hB=>by
  rcases hB with ⟨b,cs,hb,_⟩|⟨b,j,hb⟩|⟨b,x,hb,_⟩
  .simp [aa] at hb
  .cases hb
  .exact dS hb
 refine⟨v,r,bs',G'.M,G'.σ,_,rfl,hq,h'.val (.sl 0) r rfl,⟨⟨h'.fr.os,h'.fr.tape,h'.fr.output,h'.fr.size,λB hB=>h'.fr.heap B hB (hno B)⟩⟩,h'.ok⟩
end Go.AM
