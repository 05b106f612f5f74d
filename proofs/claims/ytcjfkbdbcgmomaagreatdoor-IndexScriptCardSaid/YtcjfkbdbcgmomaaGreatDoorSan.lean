/-
  Texts of this aV joined (wip/gen/bundle.py),those declarations only that are needed:AmI. By an AI agent.
-/
import Derived.Test.YtcjfkbdbcgmomaaGreatDoorSam
set_option linter.unusedSimpArgs false
set_option linter.unusedVariables false
namespace Go.AM
open Go.CK Go.RowKit
def EO(P:Program)(nt:Nat)(body:Code)(x:LB)(b:Nat)(Q:AV->List Box->Prop):AX->St->Prop
 |.normal,s=>ag s.bs b=some x/\WP P nt false body ⟨s.env,s.bs.set b .dead,s.lo⟩ (th x b Q)
 |_,_=>False
section
variable{E:Entry}{G:Gh}{s:St}{a:Act}{w:World}{P:Program}
theorem RS.busy(h:RS E G s a w){b:Nat}{x:LB}(hb:ag s.bs b=some x)(r:Loop)(ds':List Deferred)(hds:∃Ds:List Nat,ds'=Ds.map mark++E.dd/\ds'.Nodup)(hsub:∀d∈ds',d∈a.defers):RS E G ⟨s.env,s.bs.set b .dead,s.lo⟩ ⟨a.tmps,ds'⟩ (w.putObj (G.σ b) (.loop r)):=by
 obtain⟨h1,h2,h3⟩:=h.sp.ob (G.σ b) _ (.inl ⟨b,x,hb,rfl,rfl⟩);refine h.E6 (.loop r) h1 x.C4 h3 (by simp) (nM rfl (rq hb)) ⟨λB o hs=>?_,λc y hc=>?_,λc c' y y' hc hc' e=>?_,hds,λc y hc j B o hj=>?_⟩
 .have hs':Spc G.σ s.bs a.defers B o/\B≠G.σ b:=by
   rcases hs with ⟨c,y,hc,e,ho⟩|⟨hm,ho⟩
   .rw [bS] at hc;split at hc
    .cases hc
    .rename_i hne;exact⟨.inl ⟨c,y,hc,e,ho⟩,λe2=>hne (h.sp.inj c b y x hc hb (e.trans e2))⟩
   .refine ⟨.inr ⟨hsub _ hm,ho⟩,λe=>?_⟩;have:=(h.sp.ob B _ (.inr ⟨hsub _ hm,ho⟩)).1;rw[e,h1,ho] at this;exact x.C5 this.symm
  obtain⟨h4,h5,h6⟩:=h.sp.ob B o hs'.1;exact⟨by rw[World.putObj_heap_other hs'.2];exact h4,h5,h6⟩
 .rw [bS] at hc;split at hc
  .cases hc
  .exact h.sp.base c y hc
 .rw [bS] at hc hc';split at hc
  .cases hc
  .split at hc'
   .cases hc'
   .exact h.sp.inj c c' y y' hc hc' e
 .rw [bS] at hc;split at hc
  .cases hc
  .obtain ⟨h4,h5,h6⟩:=h.sp.rows c y hc j B o hj;have hne:B≠G.σ b:=λe=>h2 _ (e▸h5);exact⟨by rw[World.putObj_heap_other hne];exact h4,h5,h6⟩
theorem RS.wake(h:RS E G s a w){b:Nat}(hlt:b<s.bs.length){r:Loop}(hr:w.heap[G.σ b]? =some (.loop r))(hm:E.FP (G.σ b)\/E.w.heap.size<=G.σ b)(hcl:∀p,G.cl p≠some (G.σ b))(hne:∀c y,ag s.bs c=some y->G.σ c≠G.σ b)(x:LB)(hx:x.M.le G.M/\x.n<=b/\∀c,c<x.n->G.σ c=x.σ c)(hxr:x.rs=[])(hdd:E.dd=[]):
  RS E G ⟨s.env,s.bs.set b (.loop x),s.lo⟩ ⟨a.tmps,[]⟩ (w.putObj (G.σ b) x.obj):=by
 have hbn:aa s.bs b=none:=by
  cases hb:aa s.bs b with
  |none=>rfl
  |some cs=>
   obtain⟨vs,T,h1,_⟩:=h.box b cs hb;rw[hr] at h1;cases h1
 have hsz:G.σ b<w.heap.size:=(zi.1 hr).1;refine h.E6 x.obj hr rfl hm (by simp) (nM rfl hbn) ⟨λB o hs=>?_,λc y hc=>?_,λc c' y y' hc hc' e=>?_,⟨[],by rw[hdd];rfl,.nil⟩,λc y hc j B o hj=>?_⟩
 .rcases hs with ⟨c,y,hc,e,ho⟩|⟨hmem,_⟩
  .rw [dV x hlt] at hc;split at hc
   .rename_i ec;cases hc;subst ec;subst e ho;exact⟨World.putObj_heap_same hsz,hcl,hm⟩
   .obtain ⟨h4,h5,h6⟩:=h.sp.ob B o (.inl ⟨c,y,hc,e,ho⟩);exact⟨by rw[World.putObj_heap_other (e▸hne c y hc)];exact h4,h5,h6⟩
  .cases hmem
 .rw [dV x hlt] at hc;split at hc
  .rename_i ec;cases hc;subst ec;exact hx
  .exact h.sp.base c y hc
 .rw [dV x hlt] at hc hc';split at hc
  .rename_i ec;split at hc'
   .rename_i ec';rw[ec,ec']
   .subst ec;exact absurd e.symm (hne c' y' hc')
  .split at hc'
   .rename_i ec';subst ec';exact absurd e (hne c y hc)
   .exact h.sp.inj c c' y y' hc hc' e
 .rw [dV x hlt] at hc;split at hc
  .cases hc;rw[hxr] at hj;cases hj
  .obtain ⟨h4,h5,h6⟩:=h.sp.rows c y hc j B o hj;have hne:B≠G.σ b:=λe=>hcl _ (e▸h5);exact⟨by rw[World.putObj_heap_other hne];exact h4,h5,h6⟩
theorem my.of{nt:Nat}{x:LB}{b:Nat}{bs:List Box}{env:List (Nat×AV)}{ae:List AV}{Q:AV->List Box->Prop}(hb:ag bs b=some x)(hmp:x.mp=none)(hst:x.r.state=.ready)(hpe:x.r.pending=none)(hnt:x.r.tmps.size=nt)(hps:∀p∈x.r.params.toList,p<nt)
  (henv:∀t y,aq env t=some y->RV x.M x.σ x.n y (x.r.tmps.getD t undef)) (hl:ae.length=x.r.params.size)
  (h:WP P nt false x.r.assign ⟨jU env x.r.params.toList ae,bs,bs.length⟩ (EO P nt x.r.body x b Q)):my P b ae bs Q:=by
 intro E G a0 w args lo hpre hal hav;have hlt:b<bs.length:=aI hb;obtain⟨hM,hn,hσ⟩:=hpre.sp.base b x hb;obtain⟨hob,hocl,hom⟩:=hpre.sp.ob (G.σ b) _ (.inl ⟨b,x,hb,rfl,rfl⟩);rw[LB.pF hmp] at hob;refine⟨_,_,_,_,run_yield hob (by simp[hal,hl]),λrd n=>?_⟩
 obtain⟨hp1,hp2⟩:=vU x.r.params.toList ae args env x.r.tmps hal (by rw[hnt];exact hps) (λt y hy=>(henv t y hy).mono hM (by omega) hσ) hav
 have htm:(x.r.params.zip args.toArray).foldl (λtmps (t,a)=>tmps.setIfInBounds t a) x.r.tmps=(x.r.params.toList.zip args).foldl (λt (p,v)=>t.setIfInBounds p v) x.r.tmps:=by
  rw[<-Array.foldl_toList,Array.toList_zip]
 rw[htm];generalize hT:(x.r.params.toList.zip args).foldl (λt (p,v)=>t.setIfInBounds p v) x.r.tmps=T at*;have h0:=hpre.pw (bB G bs w nt) ⟨T,[]⟩ (Fr.refl _ _ _ hpre.fr.kn) (hp2.trans hnt) bs.length rfl (zG _) (λ_ _=>rfl) (λB hB=>.inl hB) rfl;have h1:=h0.ck (env:=jU env x.r.params.toList ae) hp1;have hfpl:eA G bs (G.σ b):=.inr (.inr ⟨b,x,hb,rfl⟩);refine roundIn_of_wpIn (F:=F0 rd) trivial ?_;show x.r.assign.wpIn (F0 (some (G.σ b))) n P _ _ w;refine wpIn_mono (h _ _ _ w (some (G.σ b)) n h1 ⟨rfl,λe=>by cases e⟩) ?_
 rintro e a1 w1 ⟨y,s1,G1,rfl,hq,hs1⟩
 cases y with
 |ret=>exact hq.elim
 |exit id=>exact hq.elim
 |normal=>
  obtain⟨hb1,hbody⟩:=hq;have hσ1:G1.σ b=G.σ b:=hs1.sig b hlt;obtain⟨ob1,ocl1,om1⟩:=hs1.sp.ob (G1.σ b) _ (.inl ⟨b,x,hb1,rfl,rfl⟩);rw[LB.pF hmp] at ob1;have hrun:=run_beginRound (P:=P) ob1 hst;rw[hσ1] at hrun;refine⟨_,hrun,?_⟩;have h2:=hs1.busy hb1 {x.r with state:=.busy} a1.defers hs1.sp.ds (λ_ k=>k);rw[hσ1] at h2 ob1;have hl1:G.σ b<w1.heap.size:=(zi.1 ob1).1;have hbusy:(w1.putObj (G.σ b) (.loop {x.r with state:=.busy})).heap[G.σ b]? =some (.loop {x.r with state:=.busy}):=World.putObj_heap_same hl1;have h3:=h2.Kg
  have hnotAll:¬All G1 (s1.bs.set b .dead) a1.defers (G.σ b):=λhA=>by
   rcases hA with ⟨c,cs,hc,e⟩|⟨p,hp⟩|⟨o,hs⟩
   .obtain ⟨vs,T,h4,_⟩:=h2.box c cs hc;rw[e,hbusy] at h4;cases h4
   .exact ocl1 p (by rw[hσ1];exact hp)
   .rcases hs with ⟨c,y,hc,e,_⟩|⟨hm,ho⟩
    .rw [bS] at hc;split at hc
     .cases hc
     .rename_i hne;exact hne (hs1.sp.inj c b y x hc hb1 (e.trans hσ1.symm))
    .have:=(h2.sp.ob _ _ (.inr ⟨hm,ho⟩)).1;rw[hbusy,ho] at this;cases this
  refine wpIn_mono (hbody _ _ _ _ (some (G.σ b)) n h3 ⟨rfl,λe=>by cases e⟩) ?_
  rintro e a3 w3 ⟨y,s3,G3,rfl,hq3,hs3⟩;have hfr3:Fr (All G1 (s1.bs.set b .dead) a1.defers) G1.M (w1.putObj (G.σ b) (.loop {x.r with state:=.busy})) G3.M w3:=hs3.fr;have hl2:G.σ b<(w1.putObj (G.σ b) (.loop {x.r with state:=.busy})).heap.size:=by rw[World.putObj_size];exact hl1
  have hbusy3:w3.heap[G.σ b]? =some (.loop {x.r with state:=.busy}):=(hfr3.heap _ hl2 hnotAll).trans hbusy
  have hmine:∀B,(All G1 (s1.bs.set b .dead) a1.defers B\/(w1.putObj (G.σ b) (.loop {x.r with state:=.busy})).heap.size<=B)->(bB G bs w nt).FP B\/(bB G bs w nt).w.heap.size<=B:=λB hB=>by
   rcases hB with hB|hB
   .exact h2.Is hB
   .exact .inr (ZP h2.fr.size hB)
  have h5:RS (bB G bs w nt) G3 s3 a3 w3:=hs3.reE (h2.fr.trans hfr3 λB hB=>hmine B (.inl hB)) hmine rfl rfl rfl rfl;have hσ3:G3.σ b=G.σ b:=h5.sig b hlt;have hlt3:b<s3.bs.length:=ZV hlt h5.len
  have far:∀B,(All G1 (s1.bs.set b .dead) a1.defers B\/(w1.putObj (G.σ b) (.loop {x.r with state:=.busy})).heap.size<=B)->B≠G.σ b:=λB hB e=>by
   subst e;rcases hB with hB|hB
   .exact hnotAll hB
   .omega
  obtain⟨hM1,hn1,hσx⟩:=hs1.sp.base b x hb1;have hle3:x.M.le G3.M:=Hp.le_trans hM1 hfr3.le;have hσx3:∀c,c<x.n->G3.σ c=x.σ c:=λc hc=>(h5.sig c (by show c<bs.length;omega)).trans (hσ c hc)
  have fin:∀(x':LB) (bb:Bool),x'.M=x.M->x'.σ=x.σ->x'.n=x.n->x'.mp=none->Q (.bool bb) (s3.bs.set b (.loop x'))->
    ∃v r bs' G',Ending.returned (.bool bb)=.returned v/\Q r bs'/\RS (bB G bs w 1) G' ⟨[(0,r)],bs',bs.length⟩ ⟨#[v],[]⟩ (w3.putObj (G.σ b) (.loop x'.r)):=λx' bb e1 e2 e3 e4 hQ=>by
   have h6:=h5.wake hlt3 (r:={x.r with state:=.busy}) (by rw[hσ3];exact hbusy3) (by rw[hσ3];exact .inl hfpl) (λp hp=>far _ (hs3.cllt p _ hp).2 hσ3) (λc y hc e=>far _ (hs3.sp.ob _ _ (.inl ⟨c,y,hc,rfl,rfl⟩)).2.2 (e.trans hσ3)) x' ⟨by rw[e1];exact hle3,by rw[e3];exact hn,by rw[e3,e2];exact hσx3⟩ (LB.IT e4) rfl
   rw[hσ3,LB.pF e4] at h6;have h7:=h6.pw (bB G bs w 1) ⟨#[.bool bb],[]⟩ h6.fr rfl bs.length rfl (by rw[zn];exact h5.len) h6.sig (λB hB=>(rC h6 hB).1) rfl
   exact⟨_,_,_,_,rfl,hQ,h7.put (k:=0) Zz (.flat (.bool bb))⟩
  have hsame:({x with r:={x.r with state:=.ready,pending:=none}}:LB)=x:=by
   obtain⟨M,σ,n,r,mp⟩:=x;obtain⟨st,pe,f,t,p,as,bo,d⟩:=r;simp only at hst hpe;subst hst hpe;rfl
  cases y with
  |normal=>
   refine⟨_,_,run_endRound none hbusy3,?_⟩;have:=fin x true rfl rfl rfl hmp hq3;rw[<-hsame] at this
   exact this
  |ret=>exact⟨_,_,run_endRound (some .ret) hbusy3,fin (x.done .ret) false rfl rfl rfl hmp hq3⟩
  |exit id=>exact⟨_,_,run_endRound (some (.exit id)) hbusy3,fin (x.done (.exit id)) false rfl rfl rfl hmp hq3⟩
def Iu(x:LB)(s:St)(bs':List Box)(Q:AX->St->Prop):Prop:=
 (ag bs' s.bs.length=some x/\Q .normal ⟨s.env,bs'.set s.bs.length .dead,s.lo⟩)\/(ag bs' s.bs.length=some (x.done .ret)/\Q .ret ⟨s.env,bs'.set s.bs.length .dead,s.lo⟩)\/
  ∃id,ag bs' s.bs.length=some (x.done (.exit id))/\Q (.exit id) ⟨s.env,bs'.set s.bs.length .dead,s.lo⟩
theorem WP.range{nt:Nat}{g:Operand}{rg:Opd}(hg:opd g=some rg){ps:Array Tmp}{ca cb:Code}{gf:FuncId}{lb:List AV}(hgv:s.ev rg=.fn (.func gf) [] lb)(hbd:dS P gf=true)(hps:∀p∈ps.toList,p<nt){Q:AX->St->Prop}
  (h:∀x:LB,(∀y bs R,ag bs s.bs.length=some x->y.length=ps.size->WP P nt false ca ⟨jU (eU s.env) ps.toList y,bs,bs.length⟩ (EO P nt cb x s.bs.length R)->my P s.bs.length y bs R)->
   ∃QQ,Sem P gf ((.yl s.bs.length::lb).map AV.norm) (s.bs++[.loop x]) QQ/\∀r bs',QQ r bs'->Iu x s bs' Q):WP P nt true (.rangeFunc g ps ca cb) s Q:=by
 intro E G a w rd n hs he;have hrd:rd=none:=he.2 rfl;subst hrd;refine wpIn_rangeFunc λfn _=>?_;show∃_ _ _ _ _ _ _ _,(Instr.enterLoop fn a.tmps ps ca cb none).run P w=_/\_;obtain⟨rec,hrec⟩:∃rec:Loop,rec={state:=.ready,pending:=none,fn,tmps:=a.tmps,params:=ps,assign:=ca,body:=cb,defers:=w.heap.size}:=⟨_,rfl⟩;have h1:=hs.I5 rec;have hent:=run_enterLoop_outer (P:=P) (w:=w) fn a.tmps ps ca cb;rw[<-hrec] at hent;generalize hw1:(w.alloc (.deferred (some []))).alloc (.loop rec)=w1 at*;obtain⟨x,hx⟩:∃x:LB,x=⟨G.M,G.σ,s.bs.length,rec,none,[]⟩:=⟨_,rfl⟩;rw[<-hx] at h1;have hgv':=hs.ev hg;rw[hgv] at hgv';obtain⟨us,vs,hga,hu,hv,_,hvr⟩:=hgv'.nx;have hus:us=[]:=zL hu;subst hus;have hga':a.eval g=.func (.func gf) #[] vs.toArray:=hga;have hxb:ag (s.bs++[.loop x]) s.bs.length=some x:=by rw[dC,if_pos rfl]
 obtain⟨QQ,hS0,hQQ⟩:=h x λy bs R hb hy hwp=>by
  subst hx;refine my.of (nt:=nt) (env:=eU s.env) hb rfl (by rw[hrec]) (by rw[hrec]) (by rw[hrec];exact hs.nt.trans he.1) (by rw[hrec];exact hps) (λt z hz=>?_) (by rw[hrec];exact hy) (by rw[hrec] at hwp|-;exact hwp)
  obtain⟨z0,hz0,rfl⟩:=p9 _ _ _ hz;rw[hrec];exact hs.val (.sl t) z0 hz0
 have hS:=hS0.norm;unfold dS at hbd;split at hbd
 case h_2=>cases hbd
 rename_i fnc hfn;simp only[zD,decide_eq_true_eq] at hbd;have hbd':fnc.body≠none:=λk=>by simp[k] at hbd
 refine⟨w.heap.size+1,[mark w.heap.size],w1,{target:=.fn (.func gf) vs.toArray,args:=#[.func (.yield (w.heap.size+1)) #[] #[]]},w1,gf,(.func (.yield (w.heap.size+1)) #[] #[]::vs).toArray,w1,hent,?_,λ_ _=>trivial,?_,(λe=>by cases e),uG ((hS E _ _ w1 _ s.lo h1.boxes (by simp[hv]) (λj hj v hjv=>?_)).mono ?_)⟩
 .simp only[resolve,hga'];simp[go_sem]
 .simp [invoke,callFunc,hfn,hbd',hbd.2]
 .cases j with
  |zero=>
   simp at hjv;subst hjv;have:=RV.yl (M:=G.M) (σ:=λb=>if b=s.bs.length then w.heap.size+1 else G.σ b) (n:=(s.bs++[Box.loop x]).length) s.bs.length (by simp)
   simpa using this
  |succ j=>
   simp only[zY] at hj;have:=hvr j (by omega) v (by simpa using hjv)
   exact this.mono (Hp.le_refl _) (by simp) (λb hb=>by simp only;rw[if_neg (by omega)])
 .rintro e w2 ⟨v,r,bs',G',rfl,hq,h'⟩;obtain⟨G2,hG2,h2⟩:∃G2:Gh,G2.σ=G'.σ/\RS E G2 ⟨s.env,bs',s.lo⟩ ⟨a.tmps,mark w.heap.size::a.defers⟩ w2:=⟨i7 _ G' none,rfl,h1.after (d:=none) h' (λk e=>by cases e)⟩
  have hσ:G'.σ s.bs.length=w.heap.size+1:=by
   have:=h'.sig s.bs.length (by show s.bs.length<(s.bs++[Box.loop x]).length;simp)
   simpa[bB] using this
  have out:∀(x':LB) (y:AX) (jump:Option Code),ag bs' s.bs.length=some x'->x'.mp=none->x'.r.state≠.busy->x'.r.pending=jump->Q y ⟨s.env,bs'.set s.bs.length .dead,s.lo⟩->(match jump with
    |none=>y=.normal
    |some c=>(c=.ret/\y=.ret)\/∃id,c=.exit id/\y=.exit id)->
    rangePost (F0 none) n P (w.heap.size+1) (λe a' w'=>∃x s' G',e=x.up/\Q x s'/\RS E G' s' a' w') {a with defers:=[mark w.heap.size]++a.defers} (.returned v) w2:=λx' y jump hb hm hbz hj hQ hy=>by
   have ob:=(h2.sp.ob (w.heap.size+1) _ (.inl ⟨s.bs.length,x',hb,by rw[hG2];exact hσ,rfl⟩)).1
   rw[LB.pF hm] at ob;have h3:=h2.busy hb {x'.r with state:=.exhausted} _ h2.sp.ds (λ_ k=>k)
   have h3':RS E G2 ⟨s.env,bs'.set s.bs.length .dead,s.lo⟩ {a with defers:=[mark w.heap.size]++a.defers} (w2.putObj (w.heap.size+1) (.loop {x'.r with state:=.exhausted})):=by
    rw[<-hσ,<-hG2];exact h3
   refine⟨jump,_,by rw[<-hj];exact run_endLoop ob hbz,?_⟩
   cases jump with
   |none=>subst hy;exact⟨.normal,_,_,rfl,hQ,h3'⟩
   |some c=>
    rcases hy with ⟨rfl,rfl⟩|⟨id,rfl,rfl⟩
    .exact wpIn_ret ⟨.ret,_,_,rfl,hQ,h3'⟩
    .exact wpIn_exit ⟨.exit id,_,_,rfl,hQ,h3'⟩
  rcases hQQ r bs' hq with ⟨hb,hQ⟩|⟨hb,hQ⟩|⟨id,hb,hQ⟩
  .exact out _ .normal none hb (by rw[hx]) (by rw[hx,hrec];simp) (by rw[hx,hrec]) hQ rfl
  .exact out _ .ret (some .ret) hb (by rw[hx];rfl) (by simp[LB.done]) rfl hQ (.inl ⟨rfl,rfl⟩)
  .exact out _ (.exit id) (some (.exit id)) hb (by rw[hx];rfl) (by simp[LB.done]) rfl hQ (.inr ⟨id,rfl,rfl⟩)
end
end Go.AM
