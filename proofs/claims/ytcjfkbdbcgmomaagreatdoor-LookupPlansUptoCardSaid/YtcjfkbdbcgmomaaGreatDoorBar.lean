/-
  Texts of this bj joined (wip/gen/bundle.py),those declarations only that are needed:Av AmVw AmTa Cmp TrmA TrmB TrmC. By an AI agent.
-/
import Derived.Test.YtcjfkbdbcgmomaaGreatDoorBaq
set_option linter.unusedSimpArgs false
set_option linter.unusedVariables false
set_option maxRecDepth 100000
namespace Go.CK
open Go.RowKit Go.AM
abbrev aK(n:Int):AV:=.int .i64 n
abbrev slA{α:Type}(f:α->AV)(l:List α):AV:=.sl .no (l.map f)
def CF(M:Hp)(cs:List AV)(c:List Value):Prop:=c.length=cs.length/\∀j (h:j<cs.length) v,c[j]? =some v->FV M cs[j] v
theorem CF.nil{M:Hp}:CF M [] []:=⟨rfl,λj h=>by cases h⟩
theorem CF.cons{M:Hp}{x:AV}{cs:List AV}{v:Value}{c:List Value}(h:FV M x v)(k:CF M cs c):CF M (x::cs) (v::c):=
 ⟨by simp[k.1],λj hj u hu=>by
  cases j with
  |zero=>simp only[Zi,zO] at hu;subst hu;exact h
  |succ j=>exact k.2 j (by simpa using hj) u (by simpa using hu)⟩
theorem CF.agg{M:Hp}{cs:List AV}{c:List Value}(h:CF M cs c)(h1:∀u∈c,u.oneCell'=true):FV M (.agg cs) (.agg c.toArray):=.agg cs c h.1 h1 h.2
theorem Sl.fv{α:Type}{R:Hp->List Value->α->Prop}{f:α->AV}{M:Hp}{sz:Nat}{a:Option Addr}{l:List α}{k:Nat}(h:Sl M sz (R M) a l)(hk:l.length<=k)(hR:∀x∈l,∀c,R M c x->CF M (f x).cells c/\∀u∈c,u.oneCell'=true):FV M (.sl .no (l.map f)) (.slice a l.length k):=by
 have hlen:(l.map f).length=l.length:=by simp
 rw[<-hlen]
 by_cases h0:0<l.length
 .obtain ⟨b,o,ha⟩:=h.addr h0;refine FV.lB (B:=b) (off:=o) (sz:=sz) (λz e=>by cases e) (by rw[hlen];exact hk) (by rw[hlen];exact h.le) (λe=>by cases e) (λ_=>ha) (λi hi=>?_)
  rw[hlen] at hi;obtain⟨b',o',cs,h1,h2,h3,h4⟩:=h.at_ i hi;rw[ha] at h1;simp only[zO,Addr.mk.injEq,and_true] at h1;obtain⟨rfl,rfl⟩:=h1;obtain⟨⟨h5,h6⟩,h7⟩:=hR _ (zc hi) cs h4;rw[ZD];refine⟨by rw[<-h5,h2],λj hj=>?_⟩
  have hj2:j<cs.length:=by rw[h5];exact hj
  have hj3:cs[j]? =some cs[j]:=zA hj2;exact⟨cs[j],h3 j _ hj3,h7 _ (zc hj2),h6 j hj _ hj3⟩
 .have:l=[]:=ZV.1 (by omega)
  subst this;exact FV.lB (B:=0) (off:=0) (sz:=0) (λz e=>by cases e) (by simp) (by simp) (λe=>by cases e) (λe=>absurd rfl e) (λi hi=>by cases hi)
mutual
def Tm.av:Tm->AV
 |.mk k n s l=>.agg [.int .i64 k,.int .i64 n,.str s,.sl .no (Tm.avs l)]
def Tm.avs:List Tm->List AV
 |[]=>[]
 |t::l=>Tm.av t::Tm.avs l
end
theorem Tm.xf:∀l:List Tm,Tm.avs l=l.map Tm.av
 |[]=>rfl
 |t::l=>by rw[Tm.avs,Tm.xf l];rfl
def Tm.avw(t:Tm):AV:=.agg [.int .i64 t.kind,.int .i64 t.num,.str t.name,.sl .no (t.args.map Tm.av)]
theorem Tm.tJ(t:Tm):t.av=t.avw:=by
 obtain⟨k,n,s,l⟩:=t;rw[Tm.av,Tm.xf];rfl
theorem Tm.oX(t:Tm):t.av.cells.length=4:=by rw[Tm.tJ];rfl
theorem RTm.cf{M:Hp}{c:List Value}{t:Tm}(h:RTm M c t):CF M t.av.cells c/\∀u∈c,u.oneCell'=true:=by
 refine⟨?_,h.one⟩
 induction t using Tm.dO generalizing c with
 |h k n s l ih=>
  obtain⟨a,cap,rfl,ik,iN,is,ic,hsl⟩:=h.inv;rw[Tm.av,Tm.xf];exact .cons (.int _ _) (.cons (.int _ _) (.cons (.str _ is) (.cons (hsl.fv ic λx hx c hc=>⟨ih x hx hc,hc.one⟩) .nil)))
end Go.CK
namespace Go.AM
def AV.good(x:AV):Prop:=∃M v,FV M x v
end Go.AM
namespace Go.CK
open Go.RowKit Go.AM
theorem ml{s:ByteArray}(h:(AV.str s).good):s.size<=4294967296:=by
 obtain⟨M,v,h⟩:=h
 cases h with
 |str _ h=>exact h
theorem bM{cs:List AV}(h:(AV.agg cs).good):∀c∈cs,c.good:=by
 obtain⟨M,v,h⟩:=h
 cases h with
 |agg _ vs hl h1 hv=>
  intro c hc;obtain⟨j,hj,rfl⟩:=Zm hc;exact⟨M,vs[j],hv j hj _ (zA (by omega))⟩
theorem Gp{o:Cap}{l:List AV}(h:(AV.sl o l).good):l.length<=4294967296/\∀y∈l,y.good:=by
 obtain⟨M,v,h⟩:=h;obtain⟨a,k,B,off,sz,_,_,_,hl,_,_,he⟩:=h.dN;refine⟨hl,λy hy=>?_⟩;obtain⟨i,hi,rfl⟩:=Zm hy;obtain⟨_,hc⟩:=he i hi;generalize l[i]=y at hc
 by_cases ha:∃cs,y=.agg cs
 .obtain ⟨cs,rfl⟩:=ha
  have hx:∀j,∃v:Value,∀(h:j<cs.length),v.oneCell'=true/\FV M cs[j] v:=λj=>by
   by_cases hj:j<cs.length
   .obtain ⟨v,_,h2,h3⟩:=hc j hj;exact⟨v,λ_=>⟨h2,h3⟩⟩
   .exact ⟨undef,λh=>absurd h hj⟩
  refine⟨M,.agg (List.ofFn λj:Fin cs.length=>(hx j).choose).toArray,.agg cs _ (by simp) (λv hv=>?_) (λj hj v hjv=>?_)⟩
  .obtain ⟨j,rfl⟩:=List.mem_ofFn.1 hv;exact((hx j).choose_spec j.2).1
  .rw [List.getElem?_ofFn,dif_pos hj] at hjv;cases hjv;exact((hx j).choose_spec hj).2
 .have h1:y.cells=[y]:=by
   cases y<;>first|rfl|exact absurd ⟨_,rfl⟩ ha
  obtain⟨v,_,_,h3⟩:=hc 0 (by rw[h1];simp)
  have:y.cells[0]'(by rw[h1];simp)=y:=by simp[h1]
  rw[this] at h3;exact⟨M,v,h3⟩
theorem aU{α:Type}{f:α->AV}{l:List α}(h:(AV.sl .no (l.map f)).good):l.length<=4294967296/\∀y∈l,(f y).good:=by
 obtain⟨h1,h2⟩:=Gp h;exact⟨by simpa using h1,λy hy=>h2 _ (zk.2 ⟨y,hy,rfl⟩)⟩
theorem re{t:Tm}(h:t.avw.good):t.name.size<=4294967296/\t.args.length<=4294967296/\∀x∈t.args,x.avw.good:=by
 have hs:=aU (bM h (.sl .no (t.args.map Tm.av)) (by simp))
 exact⟨ml (bM h (.str t.name) (by simp)),hs.1,λx hx=>by rw[<-Tm.tJ];exact hs.2 x hx⟩
theorem tb{t:Tm}(h:t.av.good):t.avw.good:=by rw[<-Tm.tJ];exact h
theorem Fun.assume{P:Program}{f:FuncId}{ab:List AV}{r:AV}(hf:ab.all AV.flat=true)(h:(∀x∈ab,x.good)->Fun P f ab r):Fun P f ab r:=λbs E G a0 w args lo h1 h2 h3=>by
 refine h (λx hx=>?_) bs E G a0 w args lo h1 h2 h3;obtain⟨j,hj,rfl⟩:=Zm hx;have hjv:args[j]? =some (args[j]'(by omega)):=zA (by omega)
 exact⟨G.M,_,(h3 j hj _ hjv).FH (zT.1 hf _ (zc hj))⟩
theorem di.tmK{l:List Tm}{n:Nat}{K:AV->Prop}{x:Tm}(h:l[n]? =some x)(k:K x.avw):di 4 (l.map Tm.av) (n:Int) K:=.known (by simpa using h) (by omega) Tm.oX (by rw[Tm.tJ];exact k)
theorem di.tmKI{l:List Tm}{n:Int}{K:AV->Prop}{x:Tm}(h:l[n.toNat]? =some x)(h0:0<=n)(k:K x.avw):di 4 (l.map Tm.av) n K:=.known h h0 Tm.oX (by rw[Tm.tJ];exact k)
theorem di.tm{l:List Tm}{n:Nat}{K:AV->Prop}(h1:n<l.length)(k:∀x,l[n]? =some x->K x.avw):di 4 (l.map Tm.av) (n:Int) K:=.H9 h1 Tm.oX λx hx=>by rw[Tm.tJ];exact k x hx
theorem Szs.tm{l:List Tm}:Szs 4 (l.map Tm.av):=.map Tm.oX
def At.av(x:At):AV:=.agg [.str x.name,.sl .no (x.args.map Tm.av)]
theorem RAt.cf{M:Hp}{c:List Value}{x:At}(h:RAt M c x):CF M x.av.cells c/\∀u∈c,u.oneCell'=true:=by
 refine⟨?_,h.one⟩;obtain⟨a1,k1,rfl,q0,q1,q2⟩:=h;exact(.cons (.str x.name q0) (.cons (q2.fv q1 (λ_ _ _ hc=>RTm.cf hc)) .nil))
theorem At.good{x:At}(h:x.av.good):x.name.size<=4294967296/\(x.args.length<=4294967296/\∀y∈x.args,y.avw.good):=⟨ml (bM h (.str x.name) (by simp)),⟨(aU (bM h (.sl .no (x.args.map Tm.av)) (by simp))).1,λy hy=>tb ((aU (bM h (.sl .no (x.args.map Tm.av)) (by simp))).2 y hy)⟩⟩
def Gl.av(x:Gl):AV:=.agg [.int .i64 x.op,.str x.name,.sl .no (x.args.map Tm.av)]
theorem RGl.cf{M:Hp}{c:List Value}{x:Gl}(h:RGl M c x):CF M x.av.cells c/\∀u∈c,u.oneCell'=true:=by
 refine⟨?_,h.one⟩;obtain⟨a1,k1,rfl,_,q1,q2,q3⟩:=h;exact(.cons (.int .i64 x.op) (.cons (.str x.name q1) (.cons (q3.fv q2 (λ_ _ _ hc=>RTm.cf hc)) .nil)))
theorem Gl.good{x:Gl}(h:x.av.good):x.name.size<=4294967296/\(x.args.length<=4294967296/\∀y∈x.args,y.avw.good):=⟨ml (bM h (.str x.name) (by simp)),⟨(aU (bM h (.sl .no (x.args.map Tm.av)) (by simp))).1,λy hy=>tb ((aU (bM h (.sl .no (x.args.map Tm.av)) (by simp))).2 y hy)⟩⟩
def Dc.av(x:Dc):AV:=.agg [.str x.name,.int .i64 x.arity]
theorem RDc.cf{M:Hp}{c:List Value}{x:Dc}(h:RDc M c x):CF M x.av.cells c/\∀u∈c,u.oneCell'=true:=by
 refine⟨?_,h.one⟩;obtain⟨rfl,q0,_⟩:=h;exact(.cons (.str x.name q0) (.cons (.int .i64 x.arity) .nil))
def Rl.av(x:Rl):AV:=.agg [.str x.name,.sl .no (x.aE.map At.av),.sl .no (x.remove.map At.av),.sl .no (x.guard.map Gl.av),.sl .no (x.body.map Gl.av),.int .i64 x.vars]
theorem RRl.cf{M:Hp}{c:List Value}{x:Rl}(h:RRl M c x):CF M x.av.cells c/\∀u∈c,u.oneCell'=true:=by
 refine⟨?_,h.one⟩;obtain⟨a1,k1,a2,k2,a3,k3,a4,k4,rfl,q0,q1,q2,q3,q4,q5,q6,q7,q8,_⟩:=h;exact(.cons (.str x.name q0) (.cons (q2.fv q1 (λ_ _ _ hc=>RAt.cf hc)) (.cons (q4.fv q3 (λ_ _ _ hc=>RAt.cf hc)) (.cons (q6.fv q5 (λ_ _ _ hc=>RGl.cf hc)) (.cons (q8.fv q7 (λ_ _ _ hc=>RGl.cf hc)) (.cons (.int .i64 x.vars) .nil))))))
theorem Rl.good{x:Rl}(h:x.av.good):x.name.size<=4294967296/\(x.aE.length<=4294967296/\∀y∈x.aE,(At.av y).good)/\(x.remove.length<=4294967296/\∀y∈x.remove,(At.av y).good)/\(x.guard.length<=4294967296/\∀y∈x.guard,(Gl.av y).good)/\(x.body.length<=4294967296/\∀y∈x.body,(Gl.av y).good):=⟨ml (bM h (.str x.name) (by simp)),aU (bM h (.sl .no (x.aE.map At.av)) (by simp)),aU (bM h (.sl .no (x.remove.map At.av)) (by simp)),aU (bM h (.sl .no (x.guard.map Gl.av)) (by simp)),aU (bM h (.sl .no (x.body.map Gl.av)) (by simp))⟩
def Pg.av(x:Pg):AV:=.agg [.sl .no (x.decls.map Dc.av),.sl .no (x.rules.map Rl.av)]
theorem RPg.cf{M:Hp}{c:List Value}{x:Pg}(h:RPg M c x):CF M x.av.cells c/\∀u∈c,u.oneCell'=true:=by
 refine⟨?_,h.one⟩;obtain⟨a1,k1,a2,k2,rfl,q0,q1,q2,q3⟩:=h;exact(.cons (q1.fv q0 (λ_ _ _ hc=>RDc.cf hc)) (.cons (q3.fv q2 (λ_ _ _ hc=>RRl.cf hc)) .nil))
theorem Pg.good{x:Pg}(h:x.av.good):(x.decls.length<=4294967296/\∀y∈x.decls,(Dc.av y).good)/\(x.rules.length<=4294967296/\∀y∈x.rules,(Rl.av y).good):=⟨aU (bM h (.sl .no (x.decls.map Dc.av)) (by simp)),aU (bM h (.sl .no (x.rules.map Rl.av)) (by simp))⟩
theorem RPg.fv{M:Hp}{c:List Value}{x:Pg}(h:RPg M c x):FV M x.av (.agg c.toArray):=h.cf.1.agg h.cf.2
def Oc.av(x:Oc):AV:=.agg [.int .i64 x.rule,.int .i64 x.head,.bool x.kept]
def Pl.av(x:Pl):AV:=.agg [.int .i64 x.occ.rule,.int .i64 x.occ.head,.bool x.occ.kept,.sl .no (x.order.map aK),.sl .no (x.known.map (slA aK)),.sl .no (x.tests.map (slA aK))]
def Ac.av(x:Ac):AV:=.agg [.str x.name,.int .i64 x.arity,.sl .no (x.positions.map aK)]
def Ky.av(x:Ky):AV:=.agg [.str x.name,.int .i64 x.arity,.sl .no (x.positions.map aK)]
end Go.CK
namespace Go.AM
open Go.CK Go.RowKit
def scalar:AV->Bool
 |.bool _=>true
 |.int _ _=>true
 |.str _=>true
 |_=>false
def Vw(bs:List Box)(x y:AV):Prop:=∀(E:Entry) (G:Gh) (a:Act) (w:World) (lo:Nat),RS E G ⟨[],bs,lo⟩ a w->∀v,RV G.M G.σ bs.length x v->RV (Hp.of w) G.σ 0 y v
theorem Vw.same{bs:List Box}{x:AV}(h:x.flat=true):Vw bs x x:=λ_ _ _ _ _ hs _ hv=>.flat ((hv.FH h).mono hs.ok)
theorem Vw.row{α:Type}{f:α->AV}{z:Nat}(hp:Plain f z){bs:List Box}{b m k:Nat}{l:List α}(hb:bs[b]? =some (bh f z k l))(hm:m=l.length):Vw bs (.bsl b m k) (.sl .no (l.map f)):=λE G a w lo hs v hv=>by
 refine .flat ?_;subst hm;obtain⟨ad,rfl,hbl,hmk,hml,had⟩:=hv.c6;have hz:∀y∈l.map f,y.cells.length=z:=λy hy=>by obtain⟨x,_,rfl⟩:=zk.1 hy;exact hp.sz x
 have hlm:(l.map f).length=l.length:=by simp
 by_cases hk:k=0
 .subst hk;have hl:l=[]:=zL (by omega)
  subst hl;exact FV.lB (l:=[]) (B:=0) (off:=0) (sz:=z) (by simp) (zG _) (zJ _) (by simp) (λh=>absurd rfl h) (λi hi=>by cases hi)
 .have hne:cellsOf (l.map f)++List.replicate ((k-l.length)*z) .top≠[]:=λe=>by
   have:=congrArg List.length e;rw[zC,hp.len,zf,<-ZL,ZP] at this;have h2:0<(l.length+(k-l.length))*z:=Nat.mul_pos (by omega) hp.pos
   omega
  have hbc:aa bs b=some (cellsOf (l.map f)++List.replicate ((k-l.length)*z) .top):=dC (fY hb) hne;rw[had hk]
  have hel:iq (Hp.of w) (G.σ b) 0 z (l.map f):=iq.wL (p:=List.replicate ((k-l.length)*z) .top) hz λj hj=>by
   obtain⟨u,h1,h2,h3⟩:=hs.w8 (s:=⟨[],bs,lo⟩) hbc j hj;refine⟨u,by rw[ZI];exact h1,h2,?_⟩
   have hc:(cellsOf (l.map f)++List.replicate ((k-l.length)*z) AV.top)[j].aF=(cellsOf (l.map f)++List.replicate ((k-l.length)*z) AV.top)[j]/\(cellsOf (l.map f)++List.replicate ((k-l.length)*z) AV.top)[j].aW=true:=by
    have:=zc hj;rcases zY.1 this with hx|hx
    .exact hp.mem hx
    .rw [(ZY.1 hx).2];exact⟨rfl,rfl⟩
   rw[hc.1] at h3;exact(h3.aW hc.2).mono hs.ok
  have:=FV.lB (M:=Hp.of w) (o:=.no) (l:=l.map f) (a:=some ⟨G.σ b,0,none⟩) (k:=k) (B:=G.σ b) (off:=0) (sz:=z) (by simp) (by rw[hlm];exact hmk) (by rw[hlm];exact hml) (by simp) (λ_=>rfl) hel
  rw[hlm] at this;exact this
inductive Vws (bs:List Box):List AV->List AV->Prop
 |nil:Vws bs [] []
 |cons {x y:AV} {xs ys:List AV} (h:Vw bs x y) (k:Vws bs xs ys):Vws bs (x::xs) (y::ys)
theorem Vws.len{bs:List Box}{xs ys:List AV}(h:Vws bs xs ys):ys.length=xs.length:=by
 induction h with
 |nil=>rfl
 |cons _ _ ih=>simp[ih]
theorem Vws.get{bs:List Box}{xs ys:List AV}(h:Vws bs xs ys):∀j (hj:j<xs.length) (hj':j<ys.length),Vw bs xs[j] ys[j]:=by
 induction h with
 |nil=>intro j hj;cases hj
 |cons h _ ih=>
  intro j hj hj'
  cases j with
  |zero=>exact h
  |succ j=>exact ih j (by simpa using hj) (by simpa using hj')
theorem Fun.view{P:Program}{f:FuncId}{ab vals':List AV}{r:AV}{bs:List Box}(h:Fun P f vals' r)(hr:scalar r=true)(hv:Vws bs ab vals'):Sem P f ab bs λr' bs'=>r'=r/\bs'=bs:=by
 intro E G a0 w args lo hpre hl hval
 have h0:RS ⟨λ_=>False,Hp.of w,w,0,0,G.σ,[]⟩ ⟨Hp.of w,G.σ,λ_=>none⟩ ⟨[],[],0⟩ ⟨#[],[]⟩ w:=by
  have hat:∀p x,(⟨[],[],0⟩:St).at p=some x->False:=λp x hp=>by
   cases p with
   |sl t=>simp[St.at,au] at hp
   |bx b j=>simp[St.at,aa] at hp
  have hbx:∀b cs,aa ([]:List Box) b=some cs->False:=λb cs hb=>by simp[aa] at hb
  exact⟨Fr.refl _ _ _,Hp.le_refl _,rfl,λp x hp=>(hat p x hp).elim,λb j x hp=>(hat _ x hp).elim,λb cs hb=>(hbx b cs hb).elim,λb cs hb=>(hbx b cs hb).elim,λb b' cs cs' hb _ _=>(hbx b cs hb).elim,λp z l hp=>(hat p _ hp).elim,(λp q B hp=>by cases hp),(λp B hp=>by cases hp),(λp B hp=>by cases hp),rfl,zG _,(λb hb=>by cases hb),Sp.none _ _ _ _ _ _⟩
 refine(h [] _ _ _ w args 0 h0 (by rw[hl,hv.len]) (λj hj v hjv=>?_)).mono ?_
 .have hj2:j<ab.length:=by rw[<-hv.len];exact hj
  exact hv.get j hj2 hj E G a0 w lo hpre v (hval j hj2 v hjv)
 .rintro e w' ⟨v,r',bs',G',rfl,⟨rfl,_⟩,h'⟩;refine⟨v,r',bs,⟨G.M,G.σ,λp=>match p with|.sl _=>none|.bx b j=>G.cl (.bx b j)⟩,rfl,⟨rfl,rfl⟩,?_⟩
  have hno:∀B,¬il ⟨Hp.of w,G.σ,λ_=>none⟩ [] B:=λB hB=>by
   rcases hB with ⟨b,cs,hb,_⟩|⟨b,j,hb⟩|⟨b,x,hb,_⟩
   .simp [aa] at hb
   .cases hb
   .exact cU hb
  have hfr:Fr (il ⟨Hp.of w,G.σ,λ_=>none⟩ []) (Hp.of w) w G'.M w':=h'.fr;have hat0:(⟨[(0,r')],bs',([]:List Box).length⟩:St).at (.sl 0)=some r':=rfl
  have hatc:∀p x,(⟨[(0,r')],bs,bs.length⟩:St).at p=some x->(p=.sl 0/\x=r')\/(∃b j,p=.bx b j/\(⟨[],bs,lo⟩:St).at (.bx b j)=some x):=λp x hp=>by
   cases p with
   |sl t=>
    simp only[St.at,au] at hp;split at hp
    .rename_i hb;have:=zP hb;subst this;cases hp;exact .inl ⟨rfl,rfl⟩
    .cases hp
   |bx b j=>exact .inr ⟨b,j,rfl,hp⟩
  have hbv:∀b j x,(⟨[],bs,lo⟩:St).at (.bx b j)=some x->ay G.σ ⟨#[v],[]⟩ w' (.bx b j)=ay G.σ a0 w (.bx b j):=λb j x hx=>by
   simp only[St.at] at hx
   cases hb:aa bs b with
   |none=>rw[hb] at hx;cases hx
   |some cs=>simp only[ay];rw[cH (hfr.heap _ (hpre.blt hb) (hno _))]
  have hrv:RV G.M G.σ bs.length r'.aF v:=by
   have h1:=h'.val _ _ hat0
   cases r' with
   |bool b=>exact .flat (by have:=h1.cB;rw[show v=.bool b from this];exact .bool b)
   |int k n=>exact .flat (by have:=h1.aH;rw[show v=.int k n from this];exact .int k n)
   |str s=>exact .flat (by have:=h1.cP;rw[show v=.string s from this.1];exact .str s this.2)
   |_=>cases hr
  refine⟨⟨hfr.os,hfr.tape,hfr.output,hfr.size,Hp.le_refl _,λB hB _=>hfr.heap B hB (hno B),λB hB _ _=>rfl⟩,Hp.le_trans hpre.ok (Hp.le_trans hfr.le h'.ok),rfl,λp x hp=>?_,λb j x hp=>?_,λb cs hb=>?_,λb cs hb=>?_,hpre.inj,λp z l hp=>?_,λp q B hp hq'=>?_,λp B hB b cs hb=>?_,λp B hB=>?_,rfl,zG _,λ_ _=>rfl,?_⟩
  .rcases hatc p x hp with ⟨rfl,rfl⟩|⟨b,j,rfl,hx⟩
   .exact hrv
   .show RV G.M G.σ bs.length x.aF _;rw[hbv b j x hx];exact hpre.val _ _ hx
  .rcases hatc _ x hp with ⟨e,_⟩|⟨b',j',e,hx⟩
   .cases e
   .cases e;show (ay G.σ _ w' _).oneCell'=true;rw[hbv b j x hx];exact hpre.one _ _ _ hx
  .obtain ⟨vs,T,h1,h2⟩:=hpre.box b cs hb;exact⟨vs,T,(hfr.heap _ (hpre.blt hb) (hno _)).trans h1,h2⟩
  .obtain ⟨h1,_⟩:=hpre.bmem b cs hb;exact⟨h1,.inl (.inl ⟨b,cs,hb,rfl⟩)⟩
  .rcases hatc p _ hp with ⟨rfl,hx⟩|⟨b,j,rfl,hx⟩
   .subst hx;cases hr
   .obtain ⟨ad,k,h1,h2,h3⟩:=hpre.own _ _ _ hx;refine⟨ad,k,(hbv b j _ hx).trans h1,h2,?_⟩;rcases h3 with h3|⟨B,hB,h4,h5⟩
    .exact .inl h3
    .have hlt:=(hpre.cllt _ B hB).1;obtain⟨vs,T,h6,h7⟩:=h5.cells;exact .inr ⟨B,hB,h4,h5.lt,⟨vs,T,(hfr.heap B hlt (hno B)).trans h6,h7⟩,h5.free,.inl (.inr (.inl ⟨b,j,hB⟩))⟩
  .cases p with
   |sl t=>cases hp
   |bx b j=>
    cases q with
    |sl u=>cases hq'
    |bx b' j'=>exact hpre.clinj _ _ B hp hq'
  .cases p with
   |sl t=>cases hB
   |bx b' j'=>exact hpre.clbox _ B hB b cs hb
  .cases p with
   |sl t=>cases hB
   |bx b' j'=>exact⟨ZS (hpre.cllt _ B hB).1 hfr.size,.inl (.inr (.inl ⟨b',j',hB⟩))⟩
  .refine ⟨λB o hs=>?_,λb x hb=>?_,hpre.sp.inj,⟨[],rfl,.nil⟩,λb x hb j B o hj=>by
    obtain⟨q1,q2,q3⟩:=hpre.sp.rows b x hb j B o hj;have hlt:=(hpre.cllt _ B q2).1;exact⟨(hfr.heap B hlt (hno B)).trans q1,q2,q3⟩⟩
   .rcases hs with ⟨b,x,hb,e,ho⟩|⟨hmem,_⟩
    .obtain ⟨h1,h2,_⟩:=hpre.sp.ob B o (.inl ⟨b,x,hb,e,ho⟩);have hlt:=(zh.1 h1).1;refine⟨(hfr.heap B hlt (hno B)).trans h1,λp hp=>?_,.inl (.inr (.inr ⟨b,x,hb,e⟩))⟩
     cases p with
     |sl t=>cases hp
     |bx b' j'=>exact h2 _ hp
    .cases hmem
   .exact hpre.sp.base b x hb
theorem ag.view{P:Program}{f:FuncId}{ab raw vals':List AV}{r:AV}{bs:List Box}{K:AV->List Box->Prop}(h:Fun P f vals' r)(hr:scalar r=true)(hv:Vws bs raw vals')(hK:K r bs):ag P f ab raw bs K:=
 .raw (h.view hr hv) λr' bs' ⟨e1,e2⟩=>by subst e1 e2;exact hK
theorem Sem.assume{P:Program}{f:FuncId}{ab:List AV}{bs:List Box}{Q:AV->List Box->Prop}(h:(∀x∈ab,x.flat=true->x.good)->(∀cs,AV.ept cs∈ab->∀c∈cs,c.good)->Sem P f ab bs Q):Sem P f ab bs Q:=λE G a0 w args lo h1 h2 h3=>by
 refine h (λx hx hf=>?_) (λcs hx c hc=>?_) E G a0 w args lo h1 h2 h3
 .obtain ⟨j,hj,rfl⟩:=Zm hx;exact⟨G.M,_,(h3 j hj _ (zA (by omega))).FH hf⟩
 .obtain ⟨j,hj,e⟩:=Zm hx;have hv:=h3 j hj _ (zA (by omega))
  rw[e] at hv;obtain⟨B,off,_,hcs⟩:=hv.oL;obtain⟨i,hi,rfl⟩:=Zm hc;obtain⟨v,_,_,h6⟩:=hcs i hi;exact⟨G.M,v,h6⟩
theorem D7{α:Type}(own:List α)(x y c:α):((own++[x])++[c]).set own.length y=(own++[y])++[c]:=by simp
theorem FQ{α:Type}{f:α->AV}{z:Nat}(hp:Plain f z)(l:List α)(q n:Nat):(cellsOf (l.map f)++List.replicate q AV.top).all (λx=>x.lt n)=true:=zT.2 λx hx=>(hp.Ee l q n x hx).2
theorem aw(l:List Bool)(q n:Nat):(cellsOf (l.map AV.bool)++List.replicate q AV.top).all (λx=>x.lt n)=true:=FQ En l q n
theorem ao{n:Nat}{cs:List AV}{r:List Box}(h:cs.all (λx=>x.lt n)=true)(k:al n r=true):al n (.row cs::r)=true:=by simp only[al,h,k,Bool.and_self]
end Go.AM
namespace Go.AM
open Go.CK Go.RowKit
variable{A B K:Prop}{b:Bool}{p:Prop}
theorem cY(k:A)(h:b=true:=by with_reducible rfl):ae b A B:=.yes h k
theorem cN(k:B)(h:b=false:=by with_reducible rfl):ae b A B:=.no h k
theorem cI[Decidable p](k:A)(h:p:=by omega):ae (decide p) A B:=.is h k
theorem cJ[Decidable p](k:B)(h:¬p:=by omega):ae (decide p) A B:=.isnt h k
theorem cYa(k:A)(h:b=true:=by assumption):ae b A B:=.yes h k
theorem cNa(k:B)(h:b=false:=by assumption):ae b A B:=.no h k
theorem cIr[Decidable p](k:A)(h:p:=by with_reducible rfl):ae (decide p) A B:=.is h k
theorem wI{n:Int}{K:Int->Prop}(k:K n)(h:-9223372036854775808<=n/\n<=9223372036854775807:=by omega):mJ .i64 n K:=.i64 h k
theorem nS(k:K)(h:p:=by first|omega|assumption|(show cj _=true;rfl)|(simp;done)|(simp;omega)|(simp[lim];done)|(simp[lim];omega)|((repeat' (first|assumption|exact Szs.nil|exact Szs.tm|refine Szs.app ?_ ?_|refine Szs.cons rfl ?_|exact Szs.map (λ_=>rfl)|exact Szs.rep rfl|refine Szs.take ?_ _|refine Szs.drop ?_ _|refine Szs.set ?_ rfl _));done)):cD p K:=⟨h,k⟩
theorem iA{l:List Tm}{n:Nat}{K:AV->Prop}{x:Tm}(k:K x.avw)(h:l[n]? =some x:=by assumption):di 4 (l.map Tm.av) (n:Int) K:=Go.CK.di.tmK h k
theorem iB{l:List Tm}{n:Int}{K:AV->Prop}{x:Tm}(k:K x.avw)(h:l[n.toNat]? =some x:=by assumption)(h0:0<=n:=by omega):di 4 (l.map Tm.av) n K:=Go.CK.di.tmKI h h0 k
theorem iC{l:List Tm}{n:Nat}{K:AV->Prop}(k:∀x,l[n]? =some x->K x.avw)(h1:n<l.length:=by omega):di 4 (l.map Tm.av) (n:Int) K:=Go.CK.di.tm h1 k
section
variable{α:Type}{f:α->AV}{sz:Nat}{l:List α}{K:AV->Prop}{x:α}
theorem iE{n:Nat}(k:K (f x))(h:l[n]? =some x:=by assumption)(hs:∀x,(f x).cells.length=sz:=by intro _;rfl):di sz (l.map f) (n:Int) K:=.Ht h hs k
theorem iF{n:Int}(k:K (f x))(h:l[n.toNat]? =some x:=by assumption)(h0:0<=n:=by omega)(hs:∀x,(f x).cells.length=sz:=by intro _;rfl):di sz (l.map f) n K:=.known h h0 hs k
theorem iH{n:Nat}(k:∀x,l[n]? =some x->K (f x))(h1:n<l.length:=by omega)(hs:∀x,(f x).cells.length=sz:=by intro _;rfl):di sz (l.map f) (n:Int) K:=.H9 h1 hs k
end
theorem iJ{sz:Nat}{l:List AV}{n:Int}{K:AV->Prop}{y:AV}(k:K y)(h:l[n.toNat]? =some y:=by rfl)(h0:0<=n:=by decide)(hs:y.cells.length=sz:=by first|rfl|assumption):di sz l n K:=.of h0 h hs k
theorem hB{P:Program}{f:FuncId}(k:K)(h:dQ P f=true:=by kernel_rfl):GC P f K:=⟨h,k⟩
theorem aP{bs:List Box}{n:Nat}{x:LB}(k:K)(h:ai bs n=some x:=by rfl):GD bs n x K:=⟨h,k⟩
theorem mBb{e:List (Nat×AV)}{bs:List Box}{lo:Nat}{ik jk:IntKind}{n m:Int}{K:AV->St->Prop}(h:K (.bsl bs.length n.toNat m.toNat) ⟨e,bs++[bh AV.bool 1 m.toNat (List.replicate n.toNat false)],lo⟩)(hn:0<=n/\n<=m/\m<=4294967296:=by first|omega|assumption):MkN 1 (.bool false) ⟨e,bs,lo⟩ (.int ik n) (.int jk m) K:=.row En false hn h
theorem eLb{e:List (Nat×AV)}{bs:List Box}{lo b k i:Nat}{l:List Bool}{x:Bool}{K:AV->Prop}(h:K (.bool x))(hb:bs[b]? =some (bh AV.bool 1 k l):=by first|rfl|assumption)(hx:l[i]? =some x:=by assumption):ElN false 1 ⟨e,bs,lo⟩ (.elp b i 1 0) K:=.one (f:=AV.bool) (λ_=>⟨rfl,rfl⟩) hb hx h
theorem eSb{e:List (Nat×AV)}{bs:List Box}{lo b k i:Nat}{l:List Bool}{x y:Bool}{K:St->Prop}(h:K ⟨e,bs.set b (bh AV.bool 1 k (l.set i y)),lo⟩)(hb:bs[b]? =some (bh AV.bool 1 k l):=by first|rfl|assumption)(hx:l[i]? =some x:=by assumption):EsN 1 ⟨e,bs,lo⟩ b i 1 0 (.bool y) K:=.one (f:=AV.bool) (λ_=>⟨rfl,rfl⟩) hb hx h
section
variable{vs:List AV}
theorem pT{bs bs':List Box}(k:K)(h:∃t,bs'=bs++t:=by exact⟨_,rfl⟩):AG vs bs bs' K:=⟨.inl h,k⟩
end
theorem mS{v:AV}{xs:List Int}{n:Int}{ok:Bool}{z:AV}{K:AV->Prop}(h1:n∈xs->K (okR ok v true))(h2:n∉xs->K (okR ok z false))(hv:cj v=true:=by rfl):AH (cZ v xs) n ok z K:=.set hv h1 h2
theorem mA{bs:List Box}{b:Nat}{K:List (Int×AV)->Prop}{Kq:List (Int×AV×Nat)->Nat->Prop}{l:List (Int×AV)}(k:K l)(h:bs[b]? =some (.mp l):=by first|rfl|assumption):xr bs b K Kq:=.of h k
theorem vE{x y:AV}(k:K)(h:x=y:=by with_reducible rfl):WkN x y K:=.eq h k
theorem vI{i:IntKind}{x y:Int}(k:K)(h:x=y:=by omega):WkN (.int i x) (.int i y) K:=.int h k
theorem vB{x y:Bool}(k:K)(h:x=y:=by assumption):WkN (.bool x) (.bool y) K:=.bool h k
theorem vC{z:Nat}{l m:List AV}(k:K)(h:Szs z l:=by (repeat' (first|assumption|exact Szs.nil|exact Szs.tm|refine Szs.app ?_ ?_|refine Szs.cons rfl ?_|exact Szs.map (λ_=>rfl)|exact Szs.rep rfl|refine Szs.take ?_ _|refine Szs.drop ?_ _|refine Szs.set ?_ rfl _));done)(e:l=m:=by with_reducible rfl):WkN (.sl .full l) (.sl (.own z) m) K:=.bj h e k
theorem vD{z:Nat}{l m:List AV}(e:l=m)(k:K)(h:Szs z l:=by (repeat' (first|assumption|exact Szs.nil|exact Szs.tm|refine Szs.app ?_ ?_|refine Szs.cons rfl ?_|exact Szs.map (λ_=>rfl)|exact Szs.rep rfl|refine Szs.take ?_ _|refine Szs.drop ?_ _|refine Szs.set ?_ rfl _));done):WkN (.sl .full l) (.sl (.own z) m) K:=.bj h e k
theorem vN{x y:AV}(k:K)(h:x.norm=y:=by with_reducible rfl):WkN x y K:=.norm h k
theorem xB(k:K)(h:p:=by with_reducible rfl):BxN p K:=⟨h,k⟩
theorem gC{b:Bool}{A B:Prop}(h:ae b A B):ae b A B:=h
theorem gD{p:Prop}[Decidable p]{A B:Prop}(h:ae (decide p) A B):ae (decide p) A B:=h
theorem gN{p K:Prop}(h:cD p K):cD p K:=h
theorem gW{i:IntKind}{n:Int}{K:Int->Prop}(h:mJ i n K):mJ i n K:=h
theorem gL{l:List AV}{K:Int->Prop}(h:uB l K):uB l K:=h
theorem gI{sz:Nat}{l:List AV}{n:Int}{K:AV->Prop}(h:di sz l n K):di sz l n K:=h
theorem gT{l:List Tm}{n:Int}{K:AV->Prop}(h:di 4 (l.map Tm.av) n K):di 4 (l.map Tm.av) n K:=h
theorem gM{α:Type}{f:α->AV}{sz:Nat}{l:List α}{n:Int}{K:AV->Prop}(h:di sz (l.map f) n K):di sz (l.map f) n K:=h
theorem gH{P:Program}{f:FuncId}{K:Prop}(h:GC P f K):GC P f K:=h
theorem gA{bs:List Box}{n:Nat}{x:LB}{K:Prop}(h:GD bs n x K):GD bs n x K:=h
theorem gB{bs:List Box}{n:Nat}{K:List AV->Prop}(h:kD bs n K):kD bs n K:=h
theorem gMp{bs:List Box}{b:Nat}{K:List (Int×AV)->Prop}{Kq:List (Int×AV×Nat)->Nat->Prop}(h:xr bs b K Kq):xr bs b K Kq:=h
theorem gE{g:Bool}{n:Nat}{s:St}{p:AV}{K:AV->Prop}(h:ElN g n s p K):ElN g n s p K:=h
theorem gS{n:Nat}{s:St}{b i z off:Nat}{v:AV}{K:St->Prop}(h:EsN n s b i z off v K):EsN n s b i z off v K:=h
theorem gMk{z:Nat}{zx:AV}{s:St}{l c:AV}{K:AV->St->Prop}(h:MkN z zx s l c K):MkN z zx s l c K:=h
theorem gPr{vs:List AV}{bs bs':List Box}{K:Prop}(h:AG vs bs bs' K):AG vs bs bs' K:=h
theorem gMs{l:List (Int×AV)}{n:Int}{ok:Bool}{z:AV}{K:AV->Prop}(h:AH l n ok z K):AH l n ok z K:=h
theorem gF{P:Program}{f:FuncId}{ab raw:List AV}{bs:List Box}{K:AV->List Box->Prop}(h:ag P f ab raw bs K):ag P f ab raw bs K:=h
theorem gG{P:Program}{f:FuncId}{ab:List AV}{K:AV->Prop}(h:a6 P f ab K):a6 P f ab K:=h
theorem gV{x y:AV}{K:Prop}(h:WkN x y K):WkN x y K:=h
theorem gK{z:Nat}{l m:List AV}{K:Prop}(h:WkN (.sl .full l) (.sl (.own z) m) K):WkN (.sl .full l) (.sl (.own z) m) K:=h
theorem gX{p K:Prop}(h:BxN p K):BxN p K:=h
theorem ag.to{P:Program}{f:FuncId}{ab raw:List AV}{bs bs2:List Box}{v:AV}{K:AV->List Box->Prop}(h:Sem P f raw bs λr bs'=>r=v/\bs'=bs2)(hK:K v bs2):ag P f ab raw bs K:=.raw h λr bs' ⟨e1,e2⟩=>by subst e1 e2;exact hK
theorem aB{n:Nat}{r:List Box}(k:al n r=true):al n (.dead::r)=true:=by simp only[al,k]
theorem bq{s t:St}(h:BF true t.env λe=>fBs t.bs λb=>wkE 100 [] s.env e/\eqB s.bs b True:=by (conv=>whnf);(refine And.intro ?_ ?_<;>conv=>whnf);(all_goals repeat' ((first|(refine gV ?_;first|refine vE ?_|refine vI ?_|refine vB ?_|refine gK (vC ?_)|refine vN ?_)|refine gX (xB ?_)|exact True.intro)<;>conv=>whnf)))(hl:s.lo=t.lo:=by rfl):aq s t:=aq.at_ h hl
end Go.AM
namespace Go.CK
def lg{α:Type}(p:α->Bool):List α->Nat
 |[]=>0
 |x::r=>if p x then 0 else lg p r+1
theorem pO{α:Type}{p:α->Bool}:∀{l:List α} {k:Nat},(∀i x,i<k->l[i]? =some x->p x=false)->k<=l.length->(∀x,l[k]? =some x->p x=true)->lg p l=k
 |[],k,_,h2,_=>by simp only[ZP,Nat.le_zero] at h2;subst h2;rfl
 |x::r,0,_,_,h3=>by rw[lg,if_pos (h3 x rfl)]
 |x::r,k+1,h1,h2,h3=>by
  rw[lg,if_neg (by rw[h1 0 x (by omega) rfl];decide),pO (k:=k) (λi y hi hy=>h1 (i+1) y (by omega) (by simpa using hy)) (by simpa using h2) (λy hy=>h3 y (by simpa using hy))]
theorem vo{α:Type}{p:α->Bool}:∀{l:List α},lg p l<l.length↔∃x∈l,p x=true
 |[]=>by simp[lg]
 |x::r=>by
  have:=vo (p:=p) (l:=r);rw[lg];split
  .rename_i h;simp[h]
  .rename_i h;simp[this,h]
def dS{α:Type}(p:α->Bool)(l:List α):Int:=if lg p l<l.length then lg p l else-1
theorem eH{α:Type}(p:α->Bool)(l:List α):decide (0<=dS p l)=l.any p:=by
 unfold dS;have h:=vo (p:=p) (l:=l);rw[Bool.eq_iff_iff,List.any_eq_true,decide_eq_true_eq,<-h];split<;>rename_i h2
 .exact ⟨λ_=>h2,λ_=>by omega⟩
 .exact ⟨λh=>absurd h (by decide),λh=>absurd h h2⟩
theorem fa{α:Type}{p:α->Bool}{l:List α}{j:Nat}{x:α}(h1:∀i x,i<j->l[i]? =some x->p x=false)(hx:l[j]? =some x)(h:p x=true):dS p l=j:=by
 have hj:=(zB.1 hx).1;have:=pO h1 (Nat.le_of_lt hj) (λy hy=>by rw[hx] at hy;cases hy;exact h)
 rw[dS,this,if_pos hj]
theorem hU{α:Type}{p:α->Bool}{l:List α}(h1:∀i x,i<l.length->l[i]? =some x->p x=false):dS p l=-1:=by
 have:=pO h1 (zG _) (λy hy=>by rw[zS (zG _)] at hy;cases hy)
 rw[dS,this,if_neg (Nat.lt_irrefl _)]
theorem bJ{α:Type}{p:α->Bool}{l:List α}{j:Nat}{x:α}(h1:∀i x,i<j->l[i]? =some x->p x=false)(hx:l[j]? =some x)(h:p x=false):∀i x,i<j+1->l[i]? =some x->p x=false:=λi y hi hy=>by
 by_cases e:i=j
 .subst e;rw[hx] at hy;cases hy;exact h
 .exact h1 i y (by omega) hy
theorem bZ{α:Type}{p:α->Bool}{l:List α}:∀i x,i<0->l[i]? =some x->p x=false:=λi _ hi=>by omega
theorem p6{α:Type}{p:α->Bool}{l:List α}(h1:∀i x,i<l.length->l[i]? =some x->p x=false):l.any p=false:=by
 rw[List.any_eq_false];intro x hx;obtain⟨i,hi,rfl⟩:=Zm hx;rw[h1 i _ hi (zA hi)];decide
theorem mF{α:Type}{p:α->Bool}{l:List α}{j:Nat}{x:α}(hx:l[j]? =some x)(h:p x=true):l.any p=true:=List.any_eq_true.2 ⟨x,zE hx,h⟩
theorem nX{α:Type}{p:α->Bool}{l:List α}{j:Nat}{x:α}(hx:l[j]? =some x)(h:p x=false):l.all p=false:=List.all_eq_false.2 ⟨x,zE hx,by rw[h];decide⟩
theorem xn{α:Type}{p:α->Bool}{l:List α}(h1:∀i x,i<l.length->l[i]? =some x->p x=true):l.all p=true:=by
 rw[zT];intro x hx;obtain⟨i,hi,rfl⟩:=Zm hx;exact h1 i _ hi (zA hi)
theorem eV{α:Type}{p:α->Prop}{l:List α}{j:Nat}{x:α}(h1:∀i x,i<j->l[i]? =some x->p x)(hx:l[j]? =some x)(h:p x):∀i x,i<j+1->l[i]? =some x->p x:=λi y hi hy=>by
 by_cases e:i=j
 .subst e;rw[hx] at hy;cases hy;exact h
 .exact h1 i y (by omega) hy
def kz(x y:Int):Int:=if x<y then-1 else if y<x then 1 else 0
def ux(x y:ByteArray):Int:=if Op.bytesLess x.toList y.toList=true then-1 else if x=y then 0 else 1
def orI(a b:Int):Int:=if a=0 then b else a
theorem Es(b:Int):orI 0 b=b:=rfl
theorem H7{a:Int}(h:¬a=0)(b:Int):orI a b=a:=if_neg h
theorem Dv(x:Int):kz x x=0:=by simp[kz]
theorem mf:∀l:List UInt8,Op.bytesLess l l=false
 |[]=>rfl
 |x::l=>by simp[Op.bytesLess,mf l]
theorem Du(x:ByteArray):ux x x=0:=by simp[ux,mf]
def lz(k:Int):Int:=if k=1 then 0 else if k=0 then 1 else if k=2 then 2 else 3
mutual
def Tm.cmp:Tm->Tm->Int
 |.mk k n s l,b=>
  orI (kz (lz k) (lz b.kind)) (if lz k=0\/lz k=1 then kz n b.num else if lz k=2 then orI (kz l.length b.args.length) (orI (ux s b.name) (Tm.lL l b.args)) else orI (kz k b.kind) (orI (kz n b.num) (ux s b.name)))
def Tm.lL:List Tm->List Tm->Int
 |[],m=>kz 0 m.length
 |x::l,m=>match m with
  |[]=>1
  |y::m=>orI (Tm.cmp x y) (Tm.lL l m)
end
theorem Tm.cmp_eq(a b:Tm):a.cmp b=orI (kz (lz a.kind) (lz b.kind)) (if lz a.kind=0\/lz a.kind=1 then kz a.num b.num else if lz a.kind=2 then orI (kz a.args.length b.args.length) (orI (ux a.name b.name) (Tm.lL a.args b.args)) else orI (kz a.kind b.kind) (orI (kz a.num b.num) (ux a.name b.name))):=by
 obtain⟨k,n,s,l⟩:=a;rw[Tm.cmp];rfl
theorem vA{l m:List Tm}{j:Nat}{x y:Tm}(hx:l[j]? =some x)(hy:m[j]? =some y):Tm.lL (l.drop j) (m.drop j)=orI (x.cmp y) (Tm.lL (l.drop (j+1)) (m.drop (j+1))):=by
 obtain⟨h1,rfl⟩:=zB.1 hx;obtain⟨h2,rfl⟩:=zB.1 hy;rw[zH h1,zH h2,Tm.lL]
theorem yY{l m:List Tm}{j:Nat}(h1:j<=l.length)(h2:j<=m.length)(h:j=l.length\/j=m.length):Tm.lL (l.drop j) (m.drop j)=kz l.length m.length:=by
 rcases zt j l.length with h3|h3
 .have:j=m.length:=by omega
  subst this;rw[zH h3,zj,Tm.lL,kz,if_neg (by omega),if_pos (by omega)]
 .have:j=l.length:=by omega
  subst this;rw[zj,Tm.lL,Zc];unfold kz;split<;>split<;>first|rfl|omega|(split<;>first|rfl|omega)
theorem Tm.Fj(t:Tm):t.cmp t=0:=by
 induction t using Tm.dO with
 |h k n s l ih=>
  have hl:∀r:List Tm,(∀t∈r,t.cmp t=0)->Tm.lL r r=0:=λr=>by
   induction r with
   |nil=>intro _;rfl
   |cons t r ihr=>intro h;rw[Tm.lL,h t (by simp),Es];exact ihr λx hx=>h x (by simp[hx])
  rw[Tm.cmp];simp only[Tm.kind,Tm.num,Tm.name,Tm.args,Dv,Du,Es,hl l ih];split<;>first|rfl|(split<;>rfl)
theorem Tm.vF:∀l:List Tm,Tm.lL l l=0
 |[]=>rfl
 |t::r=>by rw[Tm.lL,t.Fj,Es];exact Tm.vF r
mutual
def Tm.wgh:Tm->Int->Int->Int
 |.mk _ _ s l,left,deep=>if deep-1=0\/left-1-(s.size:Int).tdiv 8<l.length then-1 else Tm.mY l (left-1-(s.size:Int).tdiv 8) (deep-1)
def Tm.mY:List Tm->Int->Int->Int
 |[],left,_=>left
 |t::r,left,deep=>if left<0 then left else Tm.mY r (Tm.wgh t left deep) deep
end
def cL(l:List Tm)(left deep:Int):Int:=if deep=0\/left<l.length then-1 else Tm.mY l left deep
theorem Tm.AK(t:Tm)(left deep:Int):t.wgh left deep=cL t.args (left-1-(t.name.size:Int).tdiv 8) (deep-1):=by
 obtain⟨k,n,s,l⟩:=t;rw[Tm.wgh];rfl
theorem uF(n:Nat):(n:Int).tdiv 8=((n/8:Nat):Int):=by rw[Int.tdiv_eq_ediv_of_nonneg (by omega)];rfl
theorem CS{l:List Tm}{j:Nat}{x:Tm}(hx:l[j]? =some x){left:Int}(h:0<=left)(deep:Int):Tm.mY (l.drop j) left deep=Tm.mY (l.drop (j+1)) (x.wgh left deep) deep:=by
 obtain⟨h1,rfl⟩:=zB.1 hx;rw[zH h1,Tm.mY,if_neg (by omega)]
theorem DQ(l:List Tm){left:Int}(h:left<0)(deep:Int):Tm.mY l left deep=left:=by
 cases l with
 |nil=>rfl
 |cons t r=>rw[Tm.mY,if_pos h]
theorem rB(t:Tm):∀left deep:Int,-1<=cL t.args left deep/\cL t.args left deep<=max left (-1):=by
 induction t using Tm.dO with
 |h k n s l ih=>
  have hl:∀r:List Tm,(∀t∈r,t∈l)->∀left deep:Int,-1<=left->-1<=Tm.mY r left deep/\Tm.mY r left deep<=left:=λr=>by
   induction r with
   |nil=>intro _ left deep h;simp only[Tm.mY];omega
   |cons t r ihr=>
    intro hm left deep h;have h1:=ih t (hm t (by simp)) (left-1-(t.name.size:Int).tdiv 8) (deep-1)
    rw[<-Tm.AK,uF] at h1;simp only[Tm.mY];split
    .omega
    .have h2:=ihr (λx hx=>hm x (by simp[hx])) (t.wgh left deep) deep h1.1
     omega
  intro left deep;show-1<=cL l left deep/\cL l left deep<=max left (-1)
  by_cases hc:deep=0\/left<l.length
  .rw [cL,if_pos hc];omega
  .rw [cL,if_neg hc];have:=hl l (λ_ h=>h) left deep (by omega)
   omega
theorem GS(t:Tm)(left deep:Int)(h:-1<=left):-1<=t.wgh left deep/\t.wgh left deep<=left:=by
 have:=rB t (left-1-(t.name.size:Int).tdiv 8) (deep-1);rw[<-Tm.AK,uF] at this;omega
end Go.CK
namespace Go.CK
open Go.AM Go.Proofs
theorem rz{p:Prop}[Decidable p](h:¬p):AV.bool false=AV.bool (decide p):=by rw[decide_eq_false h]
theorem Ah{p:Prop}[Decidable p](h:p):AV.bool true=AV.bool (decide p):=by rw[decide_eq_true h]
theorem nD{x y:Int}:Fun Tryz.prog 160 [.int .i64 x,.int .i64 y] (.int .i64 (kz x y)):=by
 refine Fun.of (kd (by simp) ?_) rfl rfl
 conv=>whnf
 repeat' (first|(refine gC ?_;refine ae.lt (λhc=>?_) (λhc=>?_))|refine ak.nrm ?_)<;>conv=>whnf
 .rw [kz,if_pos (by omega)]
 .rw [kz,if_neg (by omega),if_pos (by omega)]
 .rw [kz,if_neg (by omega),if_neg (by omega)]
theorem xO{x y:ByteArray}:Fun Tryz.prog 159 [.str x,.str y] (.int .i64 (ux x y)):=by
 refine Fun.of (jz (by simp) ?_) rfl rfl
 conv=>whnf
 repeat' (first|(refine gC ?_;first|refine .not ?_|refine cNa ?_|with_reducible refine ae.or ?_|refine ae.dec (λhc=>?_) (λhc=>?_)|refine ae.any (λhc=>?_) (λhc=>?_))|refine ak.nrm ?_)<;>conv=>whnf
 .simp [ux,mf, *]
 .simp [ux,mf, *]
 .simp [ux,mf, *]
theorem yZ{t:Tm}:Fun Tryz.prog 203 [t.avw] (.int .i64 (lz t.kind)):=by
 refine Fun.of (jC (by simp) ?_) rfl rfl
 conv=>whnf
 repeat' (first|(refine gC ?_;refine ae.dec (λhc=>?_) (λhc=>?_))|refine ak.nrm ?_)<;>conv=>whnf
 all_goals simp[lz, *]
theorem yh{l m:List Tm}(ih:∀t∈l,∀b:Tm,Fun Tryz.prog 161 [t.avw,b.avw] (.int .i64 (t.cmp b))):Fun Tryz.prog 110 [slA Tm.av l,slA Tm.av m] (.int .i64 (Tm.lL l m)):=by
 refine Fun.assume rfl λhg0=>?_;have hg:=(aU (hg0 (slA Tm.av l) (by simp))).1
 refine Fun.of (jA (by simp) ?_) rfl rfl
 conv=>whnf
 skip;refine az.by (fb:=true) (λst_ j=>st_.bD [(5,.int .i64 (j:Nat))]) (λj=>j<=l.length/\j<=m.length/\Tm.lL (l.drop j) (m.drop j)=Tm.lL l m) (λj=>l.length-j) 0 ⟨by omega,by omega,rfl⟩ ?_ ?_
 .exact bq
 .rintro j ⟨h1,h2,hij⟩
  conv=>whnf
  repeat' (first|refine gF (ag.fn (nD) ?_)|(refine gG ?_;refine a6.fn (ih _ (zE (by assumption)) _) ?_)|(refine gC ?_;first|refine cN ?_|refine .not ?_|(refine gD ?_;first|refine cI ?_|refine cJ ?_)|refine ae.lt (λhc=>?_) (λhc=>?_)|refine ae.dec (λhc=>?_) (λhc=>?_))|refine gW (wI ?_)|refine gL (.map ?_)|(refine gI ?_;(refine gT ?_;refine iC λx hx=>?_))|refine ak.nrm ?_)<;>conv=>whnf
  .rw [vA (by assumption) (by assumption)] at hij
   refine⟨j+1,⟨⟨by omega,by omega,?_⟩,by omega⟩,?_⟩
   .rw [<-hij];simp[orI, *]
   .exact bq
  .rw [vA (by assumption) (by assumption),H7 (by assumption)] at hij
   rw[hij]
  .rw [yY h1 h2 (by omega)] at hij
   rw[hij]
  .rw [yY h1 h2 (by omega)] at hij
   rw[hij]
theorem ub(a:Tm):∀b:Tm,Fun Tryz.prog 161 [a.avw,b.avw] (.int .i64 (a.cmp b)):=by
 induction a using Tm.dO with
 |h k n s l ih=>
 intro b;generalize ha:Tm.mk k n s l=a;have ih:∀t∈a.args,∀b:Tm,Fun Tryz.prog 161 [t.avw,b.avw] (.int .i64 (t.cmp b)):=by subst ha;exact ih
 clear ha;rw[Tm.cmp_eq];refine Fun.of (gy (by simp) ?_) rfl rfl
 conv=>whnf
 repeat' (first|(refine gF ?_;first|refine ag.fn (yZ) ?_|refine ag.fn (nD) ?_|refine ag.fn (xO) ?_|refine ag.fn (yh ih) ?_)|(refine gG ?_;first|refine a6.fn (yZ) ?_|refine a6.fn (nD) ?_)|(refine gC ?_;first|refine .not ?_|(refine gD ?_;first|refine cI ?_|refine cJ ?_)|refine ae.dec (λhc=>?_) (λhc=>?_))|refine gL (.map ?_)|refine ak.nrm ?_)<;>conv=>whnf
 all_goals (clear ih;simp_all[orI])
theorem EH{l m:List Tm}:Fun Tryz.prog 110 [slA Tm.av l,slA Tm.av m] (.int .i64 (Tm.lL l m)):=yh λt _ b=>ub t b
theorem DR(a:Tm):∀left deep:Int,-4294967296<=left->left<=4294967296->0<=deep->deep<=64->Fun Tryz.prog 93 [slA Tm.av a.args,.int .i64 left,.int .i64 deep] (.int .i64 (cL a.args left deep)):=by
 induction a using Tm.dO with
 |h k n s l ih=>
 intro left deep b1 b2 b3 b4;rw[show (Tm.mk k n s l).args=l from rfl];refine Fun.assume rfl λhg0=>?_;have hgs:=aU (hg0 (slA Tm.av l) (by simp))
 have hg:=hgs.1;refine Fun.of (jy (by simp) ?_) rfl rfl
 conv=>whnf
 repeat' (first|(refine gC ?_;first|refine cY ?_|(refine gD ?_;first|refine cI ?_|refine cJ ?_)|refine ae.lt (λhc=>?_) (λhc=>?_)|refine ae.dec (λhc=>?_) (λhc=>?_))|refine gL (.map ?_)|refine ak.nrm ?_)<;>conv=>whnf
 .rw [cL,if_pos (.inl (by assumption))]
 .rw [cL,if_pos (.inr (by assumption))]
 .have e0:cL l left deep=Tm.mY l left deep:=by rw[cL,if_neg (by omega)]
  rw[e0];refine az.by (fb:=true) (λs (q:Nat×Int)=>s.bD [(1,.int .i64 q.2),(7,.int .i64 q.1)]) (λq=>q.1<=l.length/\(-1<=q.2/\q.2<=4294967296)/\Tm.mY (l.drop q.1) q.2 deep=Tm.mY l left deep) (λq=>l.length-q.1) (0,left) ⟨zJ _,by simp only;omega,rfl⟩ ?_ ?_
  .exact bq
  .rintro ⟨j,r⟩ ⟨hj,hr,he⟩;dsimp only at hj hr he|-
   by_cases hlt:j<l.length
   .obtain ⟨x,hx⟩:∃x,l[j]? =some x:=⟨_,zA hlt⟩;have hxs:=(re (tb (hgs.2 x (zE hx)))).1
    by_cases hr0:0<=r
    .rw [CS hx hr0] at he;have hw:=GS x r deep hr.1;rw[Tm.AK] at hw he;have h8:=uF x.name.size
     conv=>whnf
     repeat' (first|(refine gG ?_;refine a6.fn (ih _ (zE (by assumption)) _ _ (by omega) (by omega) (by omega) (by omega)) ?_)|refine gC (gD (cI ?_))|refine gW (wI ?_)|refine gL (.map ?_)|refine gN (nS ?_)|refine gI (gT (iA ?_)))<;>conv=>whnf
     refine⟨(j+1,cL x.args (r-1-(x.name.size:Int).tdiv 8) (deep-1)),⟨⟨hlt,?_,he⟩,by simp only;omega⟩,?_⟩
     .simp only;omega
     .exact bq
    .rw [DQ _ (by omega)] at he
     conv=>whnf
     repeat' (first|(refine gC ?_;(refine gD ?_;first|refine cI ?_|refine cJ ?_))|refine gL (.map ?_)|refine ak.nrm ?_)<;>conv=>whnf
     rw[he]
   .have hje:j=l.length:=by omega
    subst hje;rw[zj,Tm.mY] at he
    conv=>whnf
    repeat' (first|(refine gC ?_;first|refine cN ?_|refine gD (cJ ?_))|refine gL (.map ?_)|refine ak.nrm ?_)<;>conv=>whnf
    rw[he]
theorem nZ{l:List Tm}{left deep:Int}(h1:-4294967296<=left)(h2:left<=4294967296)(h3:0<=deep)(h4:deep<=64):Fun Tryz.prog 93 [slA Tm.av l,.int .i64 left,.int .i64 deep] (.int .i64 (cL l left deep)):=DR (.mk 0 0 .empty l) left deep h1 h2 h3 h4
end Go.CK
namespace Go.CK
open Go.AM Go.Proofs
def rC{α:Type}(a b:List α)(j:Nat):Prop:=∀i,i<j->a[i]? =b[i]?
theorem rC.zero{α:Type}{a b:List α}:rC a b 0:=λi h=>by omega
theorem rC.succ{α:Type}{a b:List α}{j:Nat}{x y:α}(h:rC a b j)(hx:a[j]? =some x)(hy:b[j]? =some y)(e:x=y):rC a b (j+1):=λi hi=>by
 by_cases hij:i=j
 .subst hij;rw[hx,hy,e]
 .exact h i (by omega)
theorem rC.all{α:Type}{a b:List α}(h:rC a b a.length)(hl:a.length=b.length):a=b:=List.ext_getElem? λi=>by
 rcases zt i a.length with h1|h1
 .exact h i h1
 .rw [zS h1,zS (by omega)]
theorem GI{α:Type}{a b:List α}{j:Nat}{x y:α}(hx:a[j]? =some x)(hy:b[j]? =some y)(e:¬x=y):¬a=b:=λh=>by subst h;rw[hx] at hy;exact e (yC hy)
theorem Ez{α:Type}{a b:List α}(h:¬(a.length:Int)=b.length):¬a=b:=λe=>h (by rw[e])
theorem qd{a b:List Int}:Fun Tryz.prog 17 [slA aK a,slA aK b] (.bool (decide (a=b))):=by
 refine Fun.assume rfl λhg0=>?_;refine Fun.of (fM (by simp) ?_) rfl rfl
 conv=>whnf
 have hg:=(aU (hg0 (slA aK a) (by simp))).1
 conv=>whnf
 repeat' (first|(refine gC ?_;first|refine .not ?_|refine ae.dec (λhc=>?_) (λhc=>?_))|refine gL (.map ?_)|refine ak.nrm ?_)<;>conv=>whnf
 .refine az.count (fb:=true) (a.length) (λst_ j=>st_.bD [(5,.int .i64 j)]) (λj=>rC a b j) ?_ ?_ (λj hj hij=>?_) (λhij=>?_)
  .exact rC.zero
  .exact bq
  .conv=>whnf
   repeat' (first|(refine gC ?_;first|refine .not ?_|refine gD (cI ?_)|refine ae.dec (λhc=>?_) (λhc=>?_))|refine gW (wI ?_)|refine gL (.map ?_)|(refine gI ?_;(refine gM ?_;refine iH λx hx=>?_))|refine ak.nrm ?_)<;>conv=>whnf
   .refine ⟨hij.succ (by assumption) (by assumption) (by assumption),?_⟩
    exact bq
   .exact rz (GI (by assumption) (by assumption) (by assumption))
  .conv=>whnf
   repeat' (first|(refine gC ?_;first|refine cN ?_|refine gD (cJ ?_))|refine gL (.map ?_)|refine ak.nrm ?_)<;>conv=>whnf
   exact Ah (hij.all (by omega))
 .exact rz (Ez (by assumption))
theorem vr{a b:List Int}:Fun Tryz.prog 131 [slA aK a,slA aK b] (.bool (decide (a=b))):=by
 refine Fun.assume rfl λhg0=>?_;refine Fun.of (j6 (by simp) ?_) rfl rfl
 conv=>whnf
 have hg:=(aU (hg0 (slA aK a) (by simp))).1
 conv=>whnf
 repeat' (first|(refine gC ?_;first|refine .not ?_|refine ae.dec (λhc=>?_) (λhc=>?_))|refine gL (.map ?_)|refine ak.nrm ?_)<;>conv=>whnf
 .refine az.count (fb:=true) (a.length) (λst_ j=>st_.bD [(13,.int .i64 j)]) (λj=>rC a b j) ?_ ?_ (λj hj hij=>?_) (λhij=>?_)
  .exact rC.zero
  .exact bq
  .conv=>whnf
   repeat' (first|(refine gC ?_;first|refine .not ?_|refine gD (cI ?_)|refine ae.dec (λhc=>?_) (λhc=>?_))|refine gW (wI ?_)|(refine gI ?_;(refine gM ?_;refine iH λx hx=>?_))|refine ak.nrm ?_)<;>conv=>whnf
   .refine ⟨hij.succ (by assumption) (by assumption) (by assumption),?_⟩
    exact bq
   .exact rz (GI (by assumption) (by assumption) (by assumption))
  .conv=>whnf
   repeat' (first|refine gC (gD (cJ ?_))|refine ak.nrm ?_)<;>conv=>whnf
   exact Ah (hij.all (by omega))
 .exact rz (Ez (by assumption))
def isI(n:Int)(x:Int):Bool:=decide (n=x)
theorem xk(l:List Int)(n:Int):l.any (isI n)=decide (n∈l):=by
 rw[Bool.eq_iff_iff];simp[isI]
theorem ES{l:List Int}{n:Int}:Fun Tryz.prog 177 [slA aK l,.int .i64 n] (.int .i64 (dS (isI n) l)):=by
 refine Fun.assume rfl λhg0=>?_;have hg:=(aU (hg0 (slA aK l) (by simp))).1
 refine Fun.of (j5 (by simp) ?_) rfl rfl
 conv=>whnf
 repeat' refine gL (.map ?_)<;>conv=>whnf
 refine az.count (fb:=true) (l.length) (λst_ j=>st_.bD [(8,.int .i64 j)]) (λj=>∀i x,i<j->l[i]? =some x->isI n x=false) ?_ ?_ (λj hj hij=>?_) (λhij=>?_)
 .exact bZ
 .exact bq
 .conv=>whnf
  repeat' (first|(refine gC ?_;first|refine gD (cI ?_)|refine ae.dec (λhc=>?_) (λhc=>?_))|refine gW (wI ?_)|(refine gI ?_;(refine gM ?_;refine iH λx hx=>?_))|refine ak.nrm ?_)<;>conv=>whnf
  .rw [fa hij (by assumption) (by simp[isI, *])]
  .refine ⟨bJ hij (by assumption) (by simp[isI, *]),?_⟩
   exact bq
 .conv=>whnf
  repeat' (first|refine gC (gD (cJ ?_))|refine ak.nrm ?_)<;>conv=>whnf
  rw[hU hij]
theorem qw{l:List Int}{n:Int}:Fun Tryz.prog 127 [slA aK l,.int .i64 n] (.bool (decide (n∈l))):=by
 rw[<-xk,<-eH];refine Fun.of (gr (by simp) ?_) rfl rfl
 conv=>whnf
 repeat' (first|refine gF (ag.fn (ES) ?_)|refine ak.nrm ?_)<;>conv=>whnf
theorem EW{l:List Int}{n:Int}:Fun Tryz.prog 234 [slA aK l,.int .i64 n] (.bool (decide (n∈l))):=by
 rw[<-xk];refine Fun.assume rfl λhg0=>?_;have hg:=(aU (hg0 (slA aK l) (by simp))).1
 refine Fun.of (kR (by simp) ?_) rfl rfl
 conv=>whnf
 skip;refine az.count (fb:=true) (l.length) (λst_ j=>st_.bD [(5,.int .i64 j)]) (λj=>∀i x,i<j->l[i]? =some x->isI n x=false) ?_ ?_ (λj hj hij=>?_) (λhij=>?_)
 .exact bZ
 .exact bq
 .conv=>whnf
  repeat' (first|(refine gC ?_;first|refine gD (cI ?_)|refine ae.dec (λhc=>?_) (λhc=>?_))|refine gW (wI ?_)|refine gL (.map ?_)|(refine gI ?_;(refine gM ?_;refine iH λx hx=>?_))|refine ak.nrm ?_)<;>conv=>whnf
  .rw [mF (by assumption) (by simp[isI, *])]
  .refine ⟨bJ hij (by assumption) (by simp[isI];omega),?_⟩
   exact bq
 .conv=>whnf
  repeat' (first|refine gC (gD (cJ ?_))|refine gL (.map ?_)|refine ak.nrm ?_)<;>conv=>whnf
  rw[p6 hij]
theorem wi{l m:List Tm}:Fun Tryz.prog 58 [slA Tm.av l,slA Tm.av m] (.bool (decide (Tm.lL l m=0))):=by
 refine Fun.of (fq (by simp) ?_) rfl rfl
 conv=>whnf
 repeat' (first|refine gF (ag.fn (EH) ?_)|refine ak.nrm ?_)<;>conv=>whnf
end Go.CK
namespace Go.CK
open Go.AM Go.Proofs
end Go.CK
