/-
  By an AI agent.
-/
import Derived.Test.YtcjfkbdbcgmomaaGreatDoorQam
set_option linter.unusedSimpArgs false
set_option linter.unusedVariables false
namespace Go.AM
open Go.CK Go.RowKit
def Hb(P:Program)(nt:Nat)(body:Code)(x:LB)(b:Nat)(Q:AV->List Box->Prop):AX->St->Prop
 |.normal,s=>ah s.bs b=some x/\WP P nt false body ⟨s.env,s.bs.set b .dead,s.lo⟩ (um x b Q)
 |_,_=>False
section
variable{E:Entry}{G:Gh}{s:St}{a:Act}{w:World}{P:Program}
theorem RS.busy(h:RS E G s a w){b:Nat}{x:LB}(hb:ah s.bs b=some x)(r:Loop)(i:List Deferred)(q:∃Ds:List Nat,i=Ds.map mark++E.dd/\i.Nodup)(k:∀d∈i,d∈a.defers):RS E G ⟨s.env,s.bs.set b .dead,s.lo⟩ ⟨a.tmps,i⟩ (w.putObj (G.σ b) (.loop r)):=by
 obtain⟨v,D,C⟩:=h.sp.ob (G.σ b) _ (.inl ⟨b,x,hb,rfl,rfl⟩);refine h.Je (.loop r) v x.ER C (by simp) (n4 rfl (sj hb)) ⟨λB o hs=>?_,λc y f=>?_,λc H y z f g e=>?_,q,λc y f j B o A=>?_⟩
 .have m:Spc G.σ s.bs a.defers B o/\B≠G.σ b:=by
   rcases hs with ⟨c,y,f,e,n⟩|⟨hm,n⟩
   .rw [bX] at f;split at f
    .cases f
    .rename_i l;exact⟨.inl ⟨c,y,f,e,n⟩,λF=>l (h.sp.inj c b y x f hb (e.trans F))⟩
   .refine ⟨.inr ⟨k _ hm,n⟩,λe=>?_⟩;have:=(h.sp.ob B _ (.inr ⟨k _ hm,n⟩)).1;rw[e,v,n] at this;exact x.ES this.symm
  obtain⟨u,p,t⟩:=h.sp.ob B o m.1;exact⟨by rw[World.putObj_heap_other m.2];exact u,p,t⟩
 .rw [bX] at f;split at f
  .cases f
  .exact h.sp.base c y f
 .rw [bX] at f g;split at f
  .cases f
  .split at g
   .cases g
   .exact h.sp.inj c H y z f g e
 .rw [bX] at f;split at f
  .cases f
  .obtain ⟨u,p,t⟩:=h.sp.rows c y f j B o A;have l:B≠G.σ b:=λe=>D _ (e▸p);exact⟨by rw[World.putObj_heap_other l];exact u,p,t⟩
theorem RS.wake(h:RS E G s a w){b:Nat}(i:b<s.bs.length){r:Loop}(hr:w.heap[G.σ b]? =some (.loop r))(hm:E.FP (G.σ b)\/E.w.heap.size<=G.σ b)(q:∀p,G.cl p≠some (G.σ b))(f:∀c y,ah s.bs c=some y->G.σ c≠G.σ b)(x:LB)(L:x.M.le G.M/\x.n<=b/\∀c,c<x.n->G.σ c=x.σ c)(u:x.rs=[])(A:E.dd=[]):
  RS E G ⟨s.env,s.bs.set b (.loop x),s.lo⟩ ⟨a.tmps,[]⟩ (w.putObj (G.σ b) x.obj):=by
 have C:aa s.bs b=none:=by
  cases hb:aa s.bs b with
  |none=>rfl
  |some cs=>
   obtain⟨vs,T,J,_⟩:=h.box b cs hb;rw[hr] at J;cases J
 have v:G.σ b<w.heap.size:=(zh.1 hr).1;refine h.Je x.obj hr rfl hm (by simp) (n4 rfl C) ⟨λB o hs=>?_,λc y d=>?_,λc K y H d g e=>?_,⟨[],by rw[A];rfl,.nil⟩,λc y d j B o z=>?_⟩
 .rcases hs with ⟨c,y,d,e,I⟩|⟨m,_⟩
  .rw [dS x i] at d;split at d
   .rename_i l;cases d;subst l;subst e I;exact⟨World.putObj_heap_same v,q,hm⟩
   .obtain ⟨F,t,D⟩:=h.sp.ob B o (.inl ⟨c,y,d,e,I⟩);exact⟨by rw[World.putObj_heap_other (e▸f c y d)];exact F,t,D⟩
  .cases m
 .rw [dS x i] at d;split at d
  .rename_i l;cases d;subst l;exact L
  .exact h.sp.base c y d
 .rw [dS x i] at d g;split at d
  .rename_i l;split at g
   .rename_i k;rw[l,k]
   .subst l;exact absurd e.symm (f K H g)
  .split at g
   .rename_i k;subst k;exact absurd e (f c y d)
   .exact h.sp.inj c K y H d g e
 .rw [dS x i] at d;split at d
  .cases d;rw[u] at z;cases z
  .obtain ⟨F,t,D⟩:=h.sp.rows c y d j B o z;have f:B≠G.σ b:=λe=>q _ (e▸t);exact⟨by rw[World.putObj_heap_other f];exact F,t,D⟩
theorem mB.of{nt:Nat}{x:LB}{b:Nat}{bs:List Box}{env:List (Nat×AV)}{ab:List AV}{Q:AV->List Box->Prop}(hb:ah bs b=some x)(s:x.mp=none)(L:x.r.state=.ready)(Y:x.r.pending=none)(hnt:x.r.tmps.size=nt)(hps:∀p∈x.r.params.toList,p<nt)
  (henv:∀t y,au env t=some y->RV x.M x.σ x.n y (x.r.tmps.getD t undef)) (hl:ab.length=x.r.params.size)
  (h:WP P nt false x.r.assign ⟨j5 env x.r.params.toList ab,bs,bs.length⟩ (Hb P nt x.r.body x b Q)):mB P b ab bs Q:=by
 intro E G a0 w args lo l hal hav;have R:b<bs.length:=aO hb;obtain⟨hM,hn,hσ⟩:=l.sp.base b x hb;obtain⟨Z,hocl,hom⟩:=l.sp.ob (G.σ b) _ (.inl ⟨b,x,hb,rfl,rfl⟩);rw[LB.qs s] at Z;refine⟨_,_,_,_,run_yield Z (by simp[hal,hl]),λrd n=>?_⟩
 obtain⟨hp1,hp2⟩:=xH x.r.params.toList ab args env x.r.tmps hal (by rw[hnt];exact hps) (λt y hy=>(henv t y hy).mono hM (by omega) hσ) hav
 have htm:(x.r.params.zip args.toArray).foldl (λtmps (t,a)=>tmps.setIfInBounds t a) x.r.tmps=(x.r.params.toList.zip args).foldl (λt (p,v)=>t.setIfInBounds p v) x.r.tmps:=by
  rw[<-Array.foldl_toList,Array.toList_zip]
 rw[htm];generalize hT:(x.r.params.toList.zip args).foldl (λt (p,v)=>t.setIfInBounds p v) x.r.tmps=T at*;have h0:=l.sI (bR G bs w nt) ⟨T,[]⟩ (Fr.refl _ _ _ l.fr.kn) (hp2.trans hnt) bs.length rfl (zG _) (λ_ _=>rfl) (λB hB=>.inl hB) rfl;have h1:=h0.cn (env:=j5 env x.r.params.toList ab) hp1;have hfpl:eo G bs (G.σ b):=.inr (.inr ⟨b,x,hb,rfl⟩);refine roundIn_of_wpIn (F:=F0 rd) trivial ?_;show x.r.assign.wpIn (F0 (some (G.σ b))) n P _ _ w;refine wpIn_mono (h _ _ _ w (some (G.σ b)) n h1 ⟨rfl,λe=>by cases e⟩) ?_
 rintro e a1 V ⟨y,s1,G1,rfl,hq,m⟩
 cases y with
 |ret=>exact hq.elim
 |exit id=>exact hq.elim
 |normal=>
  obtain⟨I,S⟩:=hq;have D:G1.σ b=G.σ b:=m.sig b R;obtain⟨C,W,om1⟩:=m.sp.ob (G1.σ b) _ (.inl ⟨b,x,I,rfl,rfl⟩);rw[LB.qs s] at C;have K:=run_beginRound (P:=P) C L;rw[D] at K;refine⟨_,K,?_⟩;have U:=m.busy I {x.r with state:=.busy} a1.defers m.sp.ds (λ_ k=>k);rw[D] at U C;have hl1:G.σ b<V.heap.size:=(zh.1 C).1;have j:(V.putObj (G.σ b) (.loop {x.r with state:=.busy})).heap[G.σ b]? =some (.loop {x.r with state:=.busy}):=World.putObj_heap_same hl1;have h3:=U.Ns
  have i:¬All G1 (s1.bs.set b .dead) a1.defers (G.σ b):=λhA=>by
   rcases hA with ⟨c,cs,A,e⟩|⟨p,hp⟩|⟨o,hs⟩
   .obtain ⟨vs,T,h4,_⟩:=U.box c cs A;rw[e,j] at h4;cases h4
   .exact W p (by rw[D];exact hp)
   .rcases hs with ⟨c,y,A,e,_⟩|⟨hm,ho⟩
    .rw [bX] at A;split at A
     .cases A
     .rename_i hne;exact hne (m.sp.inj c b y x A I (e.trans D.symm))
    .have:=(U.sp.ob _ _ (.inr ⟨hm,ho⟩)).1;rw[j,ho] at this;cases this
  refine wpIn_mono (S _ _ _ _ (some (G.σ b)) n h3 ⟨rfl,λe=>by cases e⟩) ?_
  rintro e a3 w3 ⟨y,s3,G3,rfl,O,H⟩;have z:Fr (All G1 (s1.bs.set b .dead) a1.defers) G1.M (V.putObj (G.σ b) (.loop {x.r with state:=.busy})) G3.M w3:=H.fr;have hl2:G.σ b<(V.putObj (G.σ b) (.loop {x.r with state:=.busy})).heap.size:=by rw[World.putObj_size];exact hl1
  have g:w3.heap[G.σ b]? =some (.loop {x.r with state:=.busy}):=(z.heap _ hl2 i).trans j
  have u:∀B,(All G1 (s1.bs.set b .dead) a1.defers B\/(V.putObj (G.σ b) (.loop {x.r with state:=.busy})).heap.size<=B)->(bR G bs w nt).FP B\/(bR G bs w nt).w.heap.size<=B:=λB hB=>by
   rcases hB with hB|hB
   .exact U.Lj hB
   .exact .inr (ZN U.fr.size hB)
  have h5:RS (bR G bs w nt) G3 s3 a3 w3:=H.reE (U.fr.trans z λB hB=>u B (.inl hB)) u rfl rfl rfl rfl;have q:G3.σ b=G.σ b:=h5.sig b R;have hlt3:b<s3.bs.length:=ZT R h5.len
  have far:∀B,(All G1 (s1.bs.set b .dead) a1.defers B\/(V.putObj (G.σ b) (.loop {x.r with state:=.busy})).heap.size<=B)->B≠G.σ b:=λB hB e=>by
   subst e;rcases hB with hB|hB
   .exact i hB
   .omega
  obtain⟨hM1,hn1,hσx⟩:=m.sp.base b x I;have hle3:x.M.le G3.M:=Hp.le_trans hM1 z.le;have X:∀c,c<x.n->G3.σ c=x.σ c:=λc A=>(h5.sig c (by show c<bs.length;omega)).trans (hσ c A)
  have fin:∀(J:LB) (bb:Bool),J.M=x.M->J.σ=x.σ->J.n=x.n->J.mp=none->Q (.bool bb) (s3.bs.set b (.loop J))->
    ∃v r bs' G',Ending.returned (.bool bb)=.returned v/\Q r bs'/\RS (bR G bs w 1) G' ⟨[(0,r)],bs',bs.length⟩ ⟨#[v],[]⟩ (w3.putObj (G.σ b) (.loop J.r)):=λJ bb e1 e2 e3 e4 hQ=>by
   have h6:=h5.wake hlt3 (r:={x.r with state:=.busy}) (by rw[q];exact g) (by rw[q];exact .inl hfpl) (λp hp=>far _ (H.cllt p _ hp).2 q) (λc y A e=>far _ (H.sp.ob _ _ (.inl ⟨c,y,A,rfl,rfl⟩)).2.2 (e.trans q)) J ⟨by rw[e1];exact hle3,by rw[e3];exact hn,by rw[e3,e2];exact X⟩ (LB.LM e4) rfl
   rw[q,LB.qs e4] at h6;have h7:=h6.sI (bR G bs w 1) ⟨#[.bool bb],[]⟩ h6.fr rfl bs.length rfl (by rw[zm];exact h5.len) h6.sig (λB hB=>(sC h6 hB).1) rfl
   exact⟨_,_,_,_,rfl,hQ,h7.put (k:=0) Zw (.flat (.bool bb))⟩
  have N:({x with r:={x.r with state:=.ready,pending:=none}}:LB)=x:=by
   obtain⟨M,σ,n,r,mp⟩:=x;obtain⟨st,pe,f,t,p,as,bo,d⟩:=r;simp only at L Y;subst L Y;rfl
  cases y with
  |normal=>
   refine⟨_,_,run_endRound none g,?_⟩;have:=fin x true rfl rfl rfl s O;rw[<-N] at this
   exact this
  |ret=>exact⟨_,_,run_endRound (some .ret) g,fin (x.done .ret) false rfl rfl rfl s O⟩
  |exit id=>exact⟨_,_,run_endRound (some (.exit id)) g,fin (x.done (.exit id)) false rfl rfl rfl s O⟩
def Ll(x:LB)(s:St)(bs':List Box)(Q:AX->St->Prop):Prop:=
 (ah bs' s.bs.length=some x/\Q .normal ⟨s.env,bs'.set s.bs.length .dead,s.lo⟩)\/(ah bs' s.bs.length=some (x.done .ret)/\Q .ret ⟨s.env,bs'.set s.bs.length .dead,s.lo⟩)\/
  ∃id,ah bs' s.bs.length=some (x.done (.exit id))/\Q (.exit id) ⟨s.env,bs'.set s.bs.length .dead,s.lo⟩
theorem WP.range{nt:Nat}{g:Operand}{rg:Opd}(hg:opd g=some rg){ps:Array Tmp}{J I:Code}{gf:FuncId}{lb:List AV}(X:s.ev rg=.fn (.func gf) [] lb)(i:dQ P gf=true)(V:∀p∈ps.toList,p<nt){Q:AX->St->Prop}
  (h:∀x:LB,(∀y bs R,ah bs s.bs.length=some x->y.length=ps.size->WP P nt false J ⟨j5 (eH s.env) ps.toList y,bs,bs.length⟩ (Hb P nt I x s.bs.length R)->mB P s.bs.length y bs R)->
   ∃QQ,Sem P gf ((.yl s.bs.length::lb).map AV.norm) (s.bs++[.loop x]) QQ/\∀r bs',QQ r bs'->Ll x s bs' Q):WP P nt true (.rangeFunc g ps J I) s Q:=by
 intro E G a w rd n hs he;have U:rd=none:=he.2 rfl;subst U;refine wpIn_rangeFunc λfn _=>?_;show∃_ _ _ _ _ _ _ _,(Instr.enterLoop fn a.tmps ps J I none).run P w=_/\_;obtain⟨rec,f⟩:∃rec:Loop,rec={state:=.ready,pending:=none,fn,tmps:=a.tmps,params:=ps,assign:=J,body:=I,defers:=w.heap.size}:=⟨_,rfl⟩;have h1:=hs.L3 rec;have q:=run_enterLoop_outer (P:=P) (w:=w) fn a.tmps ps J I;rw[<-f] at q;generalize hw1:(w.alloc (.deferred (some []))).alloc (.loop rec)=K at*;obtain⟨x,u⟩:∃x:LB,x=⟨G.M,G.σ,s.bs.length,rec,none,[]⟩:=⟨_,rfl⟩;rw[<-u] at h1;have o:=hs.ev hg;rw[X] at o;obtain⟨us,vs,Y,hu,hv,_,S⟩:=o.rZ;have T:us=[]:=zL hu;subst T;have D:a.eval g=.func (.func gf) #[] vs.toArray:=Y;have hxb:ah (s.bs++[.loop x]) s.bs.length=some x:=by rw[dx,if_pos rfl]
 obtain⟨QQ,hS0,hQQ⟩:=h x λy bs R hb L C=>by
  subst u;refine mB.of (nt:=nt) (env:=eH s.env) hb rfl (by rw[f]) (by rw[f]) (by rw[f];exact hs.nt.trans he.1) (by rw[f];exact V) (λt z hz=>?_) (by rw[f];exact L) (by rw[f] at C|-;exact C)
  obtain⟨z0,O,rfl⟩:=qT _ _ _ hz;rw[f];exact hs.val (.sl t) z0 O
 have hS:=hS0.norm;unfold dQ at i;split at i
 case h_2=>cases i
 rename_i fnc Z;simp only[zD,decide_eq_true_eq] at i;have F:fnc.body≠none:=λk=>by simp[k] at i
 refine⟨w.heap.size+1,[mark w.heap.size],K,{target:=.fn (.func gf) vs.toArray,args:=#[.func (.yield (w.heap.size+1)) #[] #[]]},K,gf,(.func (.yield (w.heap.size+1)) #[] #[]::vs).toArray,K,q,?_,λ_ _=>trivial,?_,(λe=>by cases e),wc ((hS E _ _ K _ s.lo h1.boxes (by simp[hv]) (λj W v A=>?_)).mono ?_)⟩
 .simp only[resolve,D];simp[go_sem]
 .simp [invoke,callFunc,Z,F,i.2]
 .cases j with
  |zero=>
   simp at A;subst A;have:=RV.yl (M:=G.M) (σ:=λb=>if b=s.bs.length then w.heap.size+1 else G.σ b) (n:=(s.bs++[Box.loop x]).length) s.bs.length (by simp)
   simpa using this
  |succ j=>
   simp only[zX] at W;have:=S j (by omega) v (by simpa using A)
   exact this.mono (Hp.le_refl _) (by simp) (λb hb=>by simp only;rw[if_neg (by omega)])
 .rintro e N ⟨v,r,bs',G',rfl,hq,h'⟩;obtain⟨G2,H,h2⟩:∃G2:Gh,G2.σ=G'.σ/\RS E G2 ⟨s.env,bs',s.lo⟩ ⟨a.tmps,mark w.heap.size::a.defers⟩ N:=⟨jh _ G' none,rfl,h1.after (d:=none) h' (λk e=>by cases e)⟩
  have hσ:G'.σ s.bs.length=w.heap.size+1:=by
   have:=h'.sig s.bs.length (by show s.bs.length<(s.bs++[Box.loop x]).length;simp)
   simpa[bR] using this
  have out:∀(m:LB) (y:AX) (jump:Option Code),ah bs' s.bs.length=some m->m.mp=none->m.r.state≠.busy->m.r.pending=jump->Q y ⟨s.env,bs'.set s.bs.length .dead,s.lo⟩->(match jump with
    |none=>y=.normal
    |some c=>(c=.ret/\y=.ret)\/∃id,c=.exit id/\y=.exit id)->
    rangePost (F0 none) n P (w.heap.size+1) (λe a' w'=>∃x s' G',e=x.up/\Q x s'/\RS E G' s' a' w') {a with defers:=[mark w.heap.size]++a.defers} (.returned v) N:=λm y jump hb hm hbz W l L=>by
   have ob:=(h2.sp.ob (w.heap.size+1) _ (.inl ⟨s.bs.length,m,hb,by rw[H];exact hσ,rfl⟩)).1
   rw[LB.qs hm] at ob;have h3:=h2.busy hb {m.r with state:=.exhausted} _ h2.sp.ds (λ_ k=>k)
   have B:RS E G2 ⟨s.env,bs'.set s.bs.length .dead,s.lo⟩ {a with defers:=[mark w.heap.size]++a.defers} (N.putObj (w.heap.size+1) (.loop {m.r with state:=.exhausted})):=by
    rw[<-hσ,<-H];exact h3
   refine⟨jump,_,by rw[<-W];exact run_endLoop ob hbz,?_⟩
   cases jump with
   |none=>subst L;exact⟨.normal,_,_,rfl,l,B⟩
   |some c=>
    rcases L with ⟨rfl,rfl⟩|⟨id,rfl,rfl⟩
    .exact wpIn_ret ⟨.ret,_,_,rfl,l,B⟩
    .exact wpIn_exit ⟨.exit id,_,_,rfl,l,B⟩
  rcases hQQ r bs' hq with ⟨hb,l⟩|⟨hb,l⟩|⟨id,hb,l⟩
  .exact out _ .normal none hb (by rw[u]) (by rw[u,f];simp) (by rw[u,f]) l rfl
  .exact out _ .ret (some .ret) hb (by rw[u];rfl) (by simp[LB.done]) rfl l (.inl ⟨rfl,rfl⟩)
  .exact out _ (.exit id) (some (.exit id)) hb (by rw[u];rfl) (by simp[LB.done]) rfl l (.inr ⟨id,rfl,rfl⟩)
end
end Go.AM
