/-
  Texts of this aV joined (wip/gen/bundle.py),those declarations only that are needed:Av AmVw AmTa Cmp TrmA TrmB TrmC Vars VarsB. By an AI agent.
-/
import Derived.Test.YtcjfkbdbcgmomaaGreatDoorSar
set_option linter.unusedSimpArgs false
set_option linter.unusedVariables false
set_option maxRecDepth 100000
namespace Go.CK
open Go.RowKit Go.AM
abbrev bF(n:Int):AV:=.int .i64 n
abbrev slA{α:Type}(f:α->AV)(l:List α):AV:=.sl .no (l.map f)
def CF(M:Hp)(cs:List AV)(c:List Value):Prop:=c.length=cs.length/\∀j (h:j<cs.length) v,c[j]? =some v->FV M cs[j] v
theorem CF.nil{M:Hp}:CF M [] []:=⟨rfl,λj h=>by cases h⟩
theorem CF.cons{M:Hp}{x:AV}{cs:List AV}{v:Value}{c:List Value}(h:FV M x v)(k:CF M cs c):CF M (x::cs) (v::c):=
 ⟨by simp[k.1],λj hj u hu=>by
  cases j with
  |zero=>simp only[Zo,zO] at hu;subst hu;exact h
  |succ j=>exact k.2 j (by simpa using hj) u (by simpa using hu)⟩
theorem CF.app{M:Hp}{cs ds:List AV}{c d:List Value}(h:CF M cs c)(k:CF M ds d):CF M (cs++ds) (c++d):=by
 refine⟨by simp[h.1,k.1],λj hj u hu=>?_⟩
 by_cases e:j<cs.length
 .rw [zK (by rw[h.1];exact e)] at hu
  rw[ZI e];exact h.2 j e u hu
 .rw [za (by rw[h.1];omega)] at hu
  rw[ZZ (by omega)]
  have:=k.2 (j-cs.length) (by simp at hj;omega) u (by rw[h.1] at hu;exact hu)
  exact this
theorem Sl.fv{α:Type}{R:Hp->List Value->α->Prop}{f:α->AV}{M:Hp}{sz:Nat}{a:Option Addr}{l:List α}{k:Nat}(h:Sl M sz (R M) a l)(hk:l.length<=k)(hR:∀x∈l,∀c,R M c x->CF M (f x).cells c/\∀u∈c,u.oneCell'=true):FV M (.sl .no (l.map f)) (.slice a l.length k):=by
 have hlen:(l.map f).length=l.length:=by simp
 rw[<-hlen]
 by_cases h0:0<l.length
 .obtain ⟨b,o,ha⟩:=h.addr h0;refine FV.gl (B:=b) (off:=o) (sz:=sz) (λz e=>by cases e) (by rw[hlen];exact hk) (by rw[hlen];exact h.le) (λe=>by cases e) (λ_=>ha) (λi hi=>?_)
  rw[hlen] at hi;obtain⟨b',o',cs,h1,h2,h3,h4⟩:=h.at_ i hi;rw[ha] at h1;simp only[zO,Addr.mk.injEq,and_true] at h1;obtain⟨rfl,rfl⟩:=h1;obtain⟨⟨h5,h6⟩,h7⟩:=hR _ (zd hi) cs h4;rw[ZE];refine⟨by rw[<-h5,h2],λj hj=>?_⟩
  have hj2:j<cs.length:=by rw[h5];exact hj
  have hj3:cs[j]? =some cs[j]:=zA hj2;exact⟨cs[j],h3 j _ hj3,h7 _ (zd hj2),h6 j hj _ hj3⟩
 .have:l=[]:=ZY.1 (by omega)
  subst this;exact FV.gl (B:=0) (off:=0) (sz:=0) (λz e=>by cases e) (by simp) (by simp) (λe=>by cases e) (λe=>absurd rfl e) (λi hi=>by cases hi)
theorem Ga.cf{M:Hp}{c:List Value}{n:Int}(h:Ga M c n):CF M (bF n).cells c/\∀u∈c,u.oneCell'=true:=by
 obtain⟨rfl,_⟩:=h;exact⟨.cons (.int _ _) .nil,by simp[Value.oneCell']⟩
theorem RSl.cf{α:Type}{R:Hp->List Value->α->Prop}{f:α->AV}{M:Hp}{sz:Nat}{c:List Value}{l:List α}(h:RSl sz R M c l)(hR:∀x∈l,∀c,R M c x->CF M (f x).cells c/\∀u∈c,u.oneCell'=true):CF M (slA f l).cells c/\∀u∈c,u.oneCell'=true:=by
 obtain⟨a,k,rfl,h1,h2⟩:=h;exact⟨.cons (h2.fv h1 hR) .nil,by simp[Value.oneCell']⟩
mutual
def Tm.av:Tm->AV
 |.mk k n s l=>.agg [.int .i64 k,.int .i64 n,.str s,.sl .no (Tm.avs l)]
def Tm.avs:List Tm->List AV
 |[]=>[]
 |t::l=>Tm.av t::Tm.avs l
end
theorem Tm.sE:∀l:List Tm,Tm.avs l=l.map Tm.av
 |[]=>rfl
 |t::l=>by rw[Tm.avs,Tm.sE l];rfl
def Tm.avw(t:Tm):AV:=.agg [.int .i64 t.kind,.int .i64 t.num,.str t.name,.sl .no (t.args.map Tm.av)]
theorem Tm.sj(t:Tm):t.av=t.avw:=by
 obtain⟨k,n,s,l⟩:=t;rw[Tm.av,Tm.sE];rfl
theorem Tm.qc(t:Tm):t.av.cells.length=4:=by rw[Tm.sj];rfl
theorem RTm.cf{M:Hp}{c:List Value}{t:Tm}(h:RTm M c t):CF M t.av.cells c/\∀u∈c,u.oneCell'=true:=by
 refine⟨?_,h.one⟩
 induction t using Tm.bu generalizing c with
 |h k n s l ih=>
  obtain⟨a,cap,rfl,ik,iN,is,ic,hsl⟩:=h.inv;rw[Tm.av,Tm.sE];exact .cons (.int _ _) (.cons (.int _ _) (.cons (.str _ is) (.cons (hsl.fv ic λx hx c hc=>⟨ih x hx hc,hc.one⟩) .nil)))
end Go.CK
namespace Go.AM
def AV.good(x:AV):Prop:=∃M v,FV M x v
end Go.AM
namespace Go.CK
open Go.RowKit Go.AM
theorem ud{s:ByteArray}(h:(AV.str s).good):s.size<=9223372036854775807:=by
 obtain⟨M,v,h⟩:=h
 cases h with
 |str _ h=>exact h
theorem nB{cs:List AV}(h:(AV.agg cs).good):∀c∈cs,c.good:=by
 obtain⟨M,v,h⟩:=h
 cases h with
 |agg _ vs hl h1 hv=>
  intro c hc;obtain⟨j,hj,rfl⟩:=Zt hc;exact⟨M,vs[j],hv j hj _ (zA (by omega))⟩
theorem Jn{o:Cap}{l:List AV}(h:(AV.sl o l).good):l.length<=9223372036854775807/\∀y∈l,y.good:=by
 obtain⟨M,v,h⟩:=h;obtain⟨a,k,B,off,sz,_,_,_,hl,_,_,he⟩:=h.cq;refine⟨hl,λy hy=>?_⟩;obtain⟨i,hi,rfl⟩:=Zt hy;obtain⟨_,hc⟩:=he i hi;generalize l[i]=y at hc
 by_cases ha:∃cs,y=.agg cs
 .obtain ⟨cs,rfl⟩:=ha
  have hx:∀j,∃v:Value,∀(h:j<cs.length),v.oneCell'=true/\FV M cs[j] v:=λj=>by
   by_cases hj:j<cs.length
   .obtain ⟨v,_,h2,h3⟩:=hc j hj;exact⟨v,λ_=>⟨h2,h3⟩⟩
   .exact ⟨undef,λh=>absurd h hj⟩
  refine⟨M,.agg (List.ofFn λj:Fin cs.length=>(hx j).choose).toArray,.agg cs _ (by simp) (λv hv=>?_) (λj hj v hjv=>?_)⟩
  .obtain ⟨j,rfl⟩:=List.mem_ofFn.1 hv;exact((hx j).choose_spec j.2).1
  .rw [List.getElem?_ofFn,dif_pos hj] at hjv;cases hjv;exact((hx j).choose_spec hj).2
 .have h1:y.cells=[y]:=by
   cases y<;>first|rfl|exact absurd ⟨_,rfl⟩ ha
  obtain⟨v,_,_,h3⟩:=hc 0 (by rw[h1];simp)
  have:y.cells[0]'(by rw[h1];simp)=y:=by simp[h1]
  rw[this] at h3;exact⟨M,v,h3⟩
theorem cO{α:Type}{f:α->AV}{l:List α}(h:(AV.sl .no (l.map f)).good):l.length<=9223372036854775807/\∀y∈l,(f y).good:=by
 obtain⟨h1,h2⟩:=Jn h;exact⟨by simpa using h1,λy hy=>h2 _ (zl.2 ⟨y,hy,rfl⟩)⟩
theorem pX{t:Tm}(h:t.avw.good):t.name.size<=9223372036854775807/\t.args.length<=9223372036854775807/\∀x∈t.args,x.avw.good:=by
 have hs:=cO (nB h (.sl .no (t.args.map Tm.av)) (by simp))
 exact⟨ud (nB h (.str t.name) (by simp)),hs.1,λx hx=>by rw[<-Tm.sj];exact hs.2 x hx⟩
theorem BB{t:Tm}(h:t.av.good):t.avw.good:=by rw[<-Tm.sj];exact h
theorem Fun.assume{P:Program}{f:FuncId}{ae:List AV}{r:AV}(hf:ae.all AV.flat=true)(h:(∀x∈ae,x.good)->Fun P f ae r):Fun P f ae r:=λbs E G a0 w args lo h1 h2 h3=>by
 refine h (λx hx=>?_) bs E G a0 w args lo h1 h2 h3;obtain⟨j,hj,rfl⟩:=Zt hx;have hjv:args[j]? =some (args[j]'(by omega)):=zA (by omega)
 exact⟨G.M,_,(h3 j hj _ hjv).IJ (zT.1 hf _ (zd hj))⟩
theorem eg.tmK{l:List Tm}{n:Nat}{K:AV->Prop}{x:Tm}(h:l[n]? =some x)(k:K x.avw):eg 4 (l.map Tm.av) (n:Int) K:=.known (by simpa using h) (by omega) Tm.qc (by rw[Tm.sj];exact k)
theorem eg.tmKI{l:List Tm}{n:Int}{K:AV->Prop}{x:Tm}(h:l[n.toNat]? =some x)(h0:0<=n)(k:K x.avw):eg 4 (l.map Tm.av) n K:=.known h h0 Tm.qc (by rw[Tm.sj];exact k)
theorem eg.tm{l:List Tm}{n:Nat}{K:AV->Prop}(h1:n<l.length)(k:∀x,l[n]? =some x->K x.avw):eg 4 (l.map Tm.av) (n:Int) K:=.Lo h1 Tm.qc λx hx=>by rw[Tm.sj];exact k x hx
theorem Szs.tm{l:List Tm}:Szs 4 (l.map Tm.av):=.map Tm.qc
def At.av(x:At):AV:=.agg [.str x.name,.sl .no (x.args.map Tm.av)]
theorem RAt.cf{M:Hp}{c:List Value}{x:At}(h:RAt M c x):CF M x.av.cells c/\∀u∈c,u.oneCell'=true:=by
 refine⟨?_,h.one⟩;obtain⟨a1,k1,rfl,q0,q1,q2⟩:=h;exact(.cons (.str x.name q0) (.cons (q2.fv q1 (λ_ _ _ hc=>RTm.cf hc)) .nil))
theorem At.good{x:At}(h:x.av.good):x.name.size<=9223372036854775807/\(x.args.length<=9223372036854775807/\∀y∈x.args,y.avw.good):=⟨ud (nB h (.str x.name) (by simp)),⟨(cO (nB h (.sl .no (x.args.map Tm.av)) (by simp))).1,λy hy=>BB ((cO (nB h (.sl .no (x.args.map Tm.av)) (by simp))).2 y hy)⟩⟩
def Bd.av(x:Bd):AV:=.agg [.int .i64 x.var,.int .i64 x.term.kind,.int .i64 x.term.num,.str x.term.name,.sl .no (x.term.args.map Tm.av)]
theorem RBd.cf{M:Hp}{c:List Value}{x:Bd}(h:RBd M c x):CF M x.av.cells c/\∀u∈c,u.oneCell'=true:=by
 refine⟨?_,h.one⟩;obtain⟨c1,rfl,_,q1⟩:=h;have w0:=Tm.sj x.term;have t:=(CF.app (CF.cons (FV.int .i64 x.var) CF.nil) (RTm.cf q1).1);rw[w0] at t;exact t
def It.av(x:It):AV:=.agg [.int .i64 x.id,.str x.atom.name,.sl .no (x.atom.args.map Tm.av)]
theorem RIt.cf{M:Hp}{c:List Value}{x:It}(h:RIt M c x):CF M x.av.cells c/\∀u∈c,u.oneCell'=true:=by
 refine⟨?_,h.one⟩;obtain⟨c1,rfl,_,q1⟩:=h;have t:=(CF.app (CF.cons (FV.int .i64 x.id) CF.nil) (RAt.cf q1).1);exact t
def Ac.av(x:Ac):AV:=.agg [.str x.name,.int .i64 x.arity,.sl .no (x.positions.map bF)]
theorem RAc.cf{M:Hp}{c:List Value}{x:Ac}(h:RAc M c x):CF M x.av.cells c/\∀u∈c,u.oneCell'=true:=by
 refine⟨?_,h.one⟩;obtain⟨a1,k1,rfl,q0,_,q2,q3⟩:=h;exact(.cons (.str x.name q0) (.cons (.int .i64 x.arity) (.cons (q3.fv q2 (λ_ _ _ hc=>Ga.cf hc)) .nil)))
end Go.CK
namespace Go.AM
open Go.CK Go.RowKit
def Vw(bs:List Box)(x y:AV):Prop:=∀(E:Entry) (G:Gh) (a:Act) (w:World) (lo:Nat),RS E G ⟨[],bs,lo⟩ a w->∀v,RV G.M G.σ bs.length x v->RV (Hp.of w) G.σ 0 y v
theorem Vw.row{α:Type}{f:α->AV}{z:Nat}(hp:Plain f z){bs:List Box}{b m k:Nat}{l:List α}(hb:bs[b]? =some (aN f z k l))(hm:m=l.length):Vw bs (.bsl b m k) (.sl .no (l.map f)):=λE G a w lo hs v hv=>by
 refine .flat ?_;subst hm;obtain⟨ad,rfl,hbl,hmk,hml,had⟩:=hv.cd;have hz:∀y∈l.map f,y.cells.length=z:=λy hy=>by obtain⟨x,_,rfl⟩:=zl.1 hy;exact hp.sz x
 have hlm:(l.map f).length=l.length:=by simp
 by_cases hk:k=0
 .subst hk;have hl:l=[]:=zL (by omega)
  subst hl;exact FV.gl (l:=[]) (B:=0) (off:=0) (sz:=z) (by simp) (zG _) (zJ _) (by simp) (λh=>absurd rfl h) (λi hi=>by cases hi)
 .have hne:cellsOf (l.map f)++List.replicate ((k-l.length)*z) .top≠[]:=λe=>by
   have:=congrArg List.length e;rw[zC,hp.len,zg,<-ZN,ZR] at this;have h2:0<(l.length+(k-l.length))*z:=Nat.mul_pos (by omega) hp.pos
   omega
  have hbc:aa bs b=some (cellsOf (l.map f)++List.replicate ((k-l.length)*z) .top):=da (dy hb) hne;rw[had hk]
  have hel:fV (Hp.of w) (G.σ b) 0 z (l.map f):=fV.x9 (p:=List.replicate ((k-l.length)*z) .top) hz λj hj=>by
   obtain⟨u,h1,h2,h3⟩:=hs.si (s:=⟨[],bs,lo⟩) hbc j hj;refine⟨u,by rw[ZJ];exact h1,h2,?_⟩
   have hc:(cellsOf (l.map f)++List.replicate ((k-l.length)*z) AV.top)[j].aG=(cellsOf (l.map f)++List.replicate ((k-l.length)*z) AV.top)[j]/\(cellsOf (l.map f)++List.replicate ((k-l.length)*z) AV.top)[j].aU=true:=by
    have:=zd hj;rcases zZ.1 this with hx|hx
    .exact hp.mem hx
    .rw [(Zb.1 hx).2];exact⟨rfl,rfl⟩
   rw[hc.1] at h3;exact(h3.aU hc.2).mono hs.ok
  have:=FV.gl (M:=Hp.of w) (o:=.no) (l:=l.map f) (a:=some ⟨G.σ b,0,none⟩) (k:=k) (B:=G.σ b) (off:=0) (sz:=z) (by simp) (by rw[hlm];exact hmk) (by rw [hlm];first|exact hml|exact glim_le hml) (by simp) (λ_=>rfl) hel
  rw[hlm] at this;exact this
theorem Sem.assume{P:Program}{f:FuncId}{ae:List AV}{bs:List Box}{Q:AV->List Box->Prop}(h:(∀x∈ae,x.flat=true->x.good)->(∀cs,AV.ept cs∈ae->∀c∈cs,c.good)->Sem P f ae bs Q):Sem P f ae bs Q:=λE G a0 w args lo h1 h2 h3=>by
 refine h (λx hx hf=>?_) (λcs hx c hc=>?_) E G a0 w args lo h1 h2 h3
 .obtain ⟨j,hj,rfl⟩:=Zt hx;exact⟨G.M,_,(h3 j hj _ (zA (by omega))).IJ hf⟩
 .obtain ⟨j,hj,e⟩:=Zt hx;have hv:=h3 j hj _ (zA (by omega))
  rw[e] at hv;obtain⟨B,off,_,hcs⟩:=hv.pQ;obtain⟨i,hi,rfl⟩:=Zt hc;obtain⟨v,_,_,h6⟩:=hcs i hi;exact⟨G.M,v,h6⟩
theorem DX.Kv{α:Type}{f:α->AV}{z:Nat}(hp:Plain f z){e:List (Nat×AV)}{bs:List Box}{lo:Nat}{l':List α}{o:Cap}{K:AV->St->Prop}(hlim:l'.length<=4294967296)
  (h:∀k',l'.length<=k'->K (.bsl bs.length l'.length k') ⟨e,bs++[aN f z k' l'],lo⟩):DX z ⟨e,bs,lo⟩ (.sl .full []) (.sl o (l'.map f)) K:=by
 refine⟨?_⟩;unfold sk;simp only[qj,o6];refine⟨λy hy=>by obtain⟨x,_,rfl⟩:=zl.1 hy;exact hp.sz x,?_⟩
 rw[zF];refine⟨⟨hp.pos,by simp,by omega,λx hx=>by simp at hx⟩,λk' hk'=>?_⟩
 have:=h k' (by omega)
 simp only[aN,gm,ZJ,List.take_nil,Zl] at this|-;exact this
end Go.AM
namespace Go.AM
open Go.CK Go.RowKit
variable{A B K:Prop}{b:Bool}{p:Prop}
theorem cY(k:A)(h:b=true:=by with_reducible rfl):aj b A B:=.yes h k
theorem cN(k:B)(h:b=false:=by with_reducible rfl):aj b A B:=.no h k
theorem cI[Decidable p](k:A)(h:p:=by omega):aj (decide p) A B:=.is h k
theorem cJ[Decidable p](k:B)(h:¬p:=by omega):aj (decide p) A B:=.isnt h k
theorem cYa(k:A)(h:b=true:=by assumption):aj b A B:=.yes h k
theorem cNa(k:B)(h:b=false:=by assumption):aj b A B:=.no h k
theorem cId[Decidable p](k:A)(h:p:=by decide):aj (decide p) A B:=.is h k
theorem wI{n:Int}{K:Int->Prop}(k:K n)(h:-9223372036854775808<=n/\n<=9223372036854775807:=by omega):mL .i64 n K:=.i64 h k
theorem nS(k:K)(h:p:=by first|omega|assumption|(show cM _=true;rfl)|(simp;done)|(simp;omega)|(simp [lim,glim];done)|(simp [lim,glim];omega)|((repeat' (first|assumption|exact Szs.nil|exact Szs.tm|refine Szs.app ?_ ?_|refine Szs.cons rfl ?_|exact Szs.map (λ_=>rfl)|exact Szs.rep rfl|refine Szs.take ?_ _|refine Szs.drop ?_ _|refine Szs.set ?_ rfl _));done)):cy p K:=⟨h,k⟩
theorem iA{l:List Tm}{n:Nat}{K:AV->Prop}{x:Tm}(k:K x.avw)(h:l[n]? =some x:=by assumption):eg 4 (l.map Tm.av) (n:Int) K:=Go.CK.eg.tmK h k
theorem iB{l:List Tm}{n:Int}{K:AV->Prop}{x:Tm}(k:K x.avw)(h:l[n.toNat]? =some x:=by assumption)(h0:0<=n:=by omega):eg 4 (l.map Tm.av) n K:=Go.CK.eg.tmKI h h0 k
theorem iC{l:List Tm}{n:Nat}{K:AV->Prop}(k:∀x,l[n]? =some x->K x.avw)(h1:n<l.length:=by omega):eg 4 (l.map Tm.av) (n:Int) K:=Go.CK.eg.tm h1 k
section
variable{α:Type}{f:α->AV}{sz:Nat}{l:List α}{K:AV->Prop}{x:α}
theorem iE{n:Nat}(k:K (f x))(h:l[n]? =some x:=by assumption)(hs:∀x,(f x).cells.length=sz:=by intro _;rfl):eg sz (l.map f) (n:Int) K:=.KF h hs k
theorem iF{n:Int}(k:K (f x))(h:l[n.toNat]? =some x:=by assumption)(h0:0<=n:=by omega)(hs:∀x,(f x).cells.length=sz:=by intro _;rfl):eg sz (l.map f) n K:=.known h h0 hs k
theorem iH{n:Nat}(k:∀x,l[n]? =some x->K (f x))(h1:n<l.length:=by omega)(hs:∀x,(f x).cells.length=sz:=by intro _;rfl):eg sz (l.map f) (n:Int) K:=.Lo h1 hs k
theorem iI{n:Int}(k:∀x,l[n.toNat]? =some x->K (f x))(h0:0<=n:=by omega)(h1:n<l.length:=by omega)(hs:∀x,(f x).cells.length=sz:=by intro _;rfl):eg sz (l.map f) n K:=.map h0 h1 hs k
end
theorem hB{P:Program}{f:FuncId}(k:K)(h:dS P f=true:=by kernel_rfl):JG P f K:=⟨h,k⟩
theorem aP{bs:List Box}{n:Nat}{x:LB}(k:K)(h:ag bs n=some x:=by rfl):DW bs n x K:=⟨h,k⟩
section
variable{vs:List AV}
theorem pE{bs:List Box}(k:K):Ad vs bs bs K:=⟨.inl ⟨[],by simp⟩,k⟩
theorem pT{bs bs':List Box}(k:K)(h:∃t,bs'=bs++t:=by exact⟨_,rfl⟩):Ad vs bs bs' K:=⟨.inl h,k⟩
end
theorem mS{v:AV}{xs:List Int}{n:Int}{ok:Bool}{z:AV}{K:AV->Prop}(h1:n∈xs->K (okR ok v true))(h2:n∉xs->K (okR ok z false))(hv:cM v=true:=by rfl):Gb (nj v xs) n ok z K:=.set hv h1 h2
theorem mA{bs:List Box}{b:Nat}{K:List (Int×AV)->Prop}{Kq:List (Int×AV×Nat)->Nat->Prop}{l:List (Int×AV)}(k:K l)(h:bs[b]? =some (.mp l):=by first|rfl|assumption):DU bs b K Kq:=.of h k
theorem vE{x y:AV}(k:K)(h:x=y:=by with_reducible rfl):WkN x y K:=.eq h k
theorem vI{i:IntKind}{x y:Int}(k:K)(h:x=y:=by omega):WkN (.int i x) (.int i y) K:=.int h k
theorem vB{x y:Bool}(k:K)(h:x=y:=by assumption):WkN (.bool x) (.bool y) K:=.bool h k
theorem vC{z:Nat}{l m:List AV}(k:K)(h:Szs z l:=by (repeat' (first|assumption|exact Szs.nil|exact Szs.tm|refine Szs.app ?_ ?_|refine Szs.cons rfl ?_|exact Szs.map (λ_=>rfl)|exact Szs.rep rfl|refine Szs.take ?_ _|refine Szs.drop ?_ _|refine Szs.set ?_ rfl _));done)(e:l=m:=by with_reducible rfl):WkN (.sl .full l) (.sl (.own z) m) K:=.aV h e k
theorem vD{z:Nat}{l m:List AV}(e:l=m)(k:K)(h:Szs z l:=by (repeat' (first|assumption|exact Szs.nil|exact Szs.tm|refine Szs.app ?_ ?_|refine Szs.cons rfl ?_|exact Szs.map (λ_=>rfl)|exact Szs.rep rfl|refine Szs.take ?_ _|refine Szs.drop ?_ _|refine Szs.set ?_ rfl _));done):WkN (.sl .full l) (.sl (.own z) m) K:=.aV h e k
theorem xB(k:K)(h:p:=by with_reducible rfl):BxN p K:=⟨h,k⟩
theorem gC{b:Bool}{A B:Prop}(h:aj b A B):aj b A B:=h
theorem gD{p:Prop}[Decidable p]{A B:Prop}(h:aj (decide p) A B):aj (decide p) A B:=h
theorem gN{p K:Prop}(h:cy p K):cy p K:=h
theorem gW{i:IntKind}{n:Int}{K:Int->Prop}(h:mL i n K):mL i n K:=h
theorem gL{l:List AV}{K:Int->Prop}(h:Cz l K):Cz l K:=h
theorem gI{sz:Nat}{l:List AV}{n:Int}{K:AV->Prop}(h:eg sz l n K):eg sz l n K:=h
theorem gT{l:List Tm}{n:Int}{K:AV->Prop}(h:eg 4 (l.map Tm.av) n K):eg 4 (l.map Tm.av) n K:=h
theorem gM{α:Type}{f:α->AV}{sz:Nat}{l:List α}{n:Int}{K:AV->Prop}(h:eg sz (l.map f) n K):eg sz (l.map f) n K:=h
theorem gH{P:Program}{f:FuncId}{K:Prop}(h:JG P f K):JG P f K:=h
theorem gA{bs:List Box}{n:Nat}{x:LB}{K:Prop}(h:DW bs n x K):DW bs n x K:=h
theorem gB{bs:List Box}{n:Nat}{K:List AV->Prop}(h:ku bs n K):ku bs n K:=h
theorem gMp{bs:List Box}{b:Nat}{K:List (Int×AV)->Prop}{Kq:List (Int×AV×Nat)->Nat->Prop}(h:DU bs b K Kq):DU bs b K Kq:=h
theorem gPr{vs:List AV}{bs bs':List Box}{K:Prop}(h:Ad vs bs bs' K):Ad vs bs bs' K:=h
theorem gMs{l:List (Int×AV)}{n:Int}{ok:Bool}{z:AV}{K:AV->Prop}(h:Gb l n ok z K):Gb l n ok z K:=h
theorem gF{P:Program}{f:FuncId}{ae raw:List AV}{bs:List Box}{K:AV->List Box->Prop}(h:ah P f ae raw bs K):ah P f ae raw bs K:=h
theorem gG{P:Program}{f:FuncId}{ae:List AV}{K:AV->Prop}(h:bO P f ae K):bO P f ae K:=h
theorem gV{x y:AV}{K:Prop}(h:WkN x y K):WkN x y K:=h
theorem gK{z:Nat}{l m:List AV}{K:Prop}(h:WkN (.sl .full l) (.sl (.own z) m) K):WkN (.sl .full l) (.sl (.own z) m) K:=h
theorem gX{p K:Prop}(h:BxN p K):BxN p K:=h
theorem bH{s t:St}(h:DD true t.env λe=>fBs t.bs λb=>wkE 100 [] s.env e/\eqB s.bs b True:=by (conv=>whnf);(refine And.intro ?_ ?_<;>conv=>whnf);(all_goals repeat' ((first|(refine gV ?_;first|refine vE ?_|refine vI ?_|refine vB ?_|refine gK (vC ?_)|refine vN ?_)|refine gX (xB ?_)|exact True.intro)<;>conv=>whnf)))(hl:s.lo=t.lo:=by rfl):az s t:=az.at_ h hl
end Go.AM
namespace Go.CK
def ml{α:Type}(p:α->Bool):List α->Nat
 |[]=>0
 |x::r=>if p x then 0 else ml p r+1
theorem qT{α:Type}{p:α->Bool}:∀{l:List α} {k:Nat},(∀i x,i<k->l[i]? =some x->p x=false)->k<=l.length->(∀x,l[k]? =some x->p x=true)->ml p l=k
 |[],k,_,h2,_=>by simp only[ZR,Nat.le_zero] at h2;subst h2;rfl
 |x::r,0,_,_,h3=>by rw[ml,if_pos (h3 x rfl)]
 |x::r,k+1,h1,h2,h3=>by
  rw[ml,if_neg (by rw[h1 0 x (by omega) rfl];decide),qT (k:=k) (λi y hi hy=>h1 (i+1) y (by omega) (by simpa using hy)) (by simpa using h2) (λy hy=>h3 y (by simpa using hy))]
theorem wF{α:Type}{p:α->Bool}:∀{l:List α},ml p l<l.length↔∃x∈l,p x=true
 |[]=>by simp[ml]
 |x::r=>by
  have:=wF (p:=p) (l:=r);rw[ml];split
  .rename_i h;simp[h]
  .rename_i h;simp[this,h]
def rK{α:Type}(p:α->Bool)(l:List α):Int:=if ml p l<l.length then ml p l else-1
theorem wH{α:Type}(p:α->Bool)(l:List α):decide (0<=rK p l)=l.any p:=by
 unfold rK;have h:=wF (p:=p) (l:=l);rw[Bool.eq_iff_iff,List.any_eq_true,decide_eq_true_eq,<-h];split<;>rename_i h2
 .exact ⟨λ_=>h2,λ_=>by omega⟩
 .exact ⟨λh=>absurd h (by decide),λh=>absurd h h2⟩
theorem BG{α:Type}{p:α->Bool}{l:List α}{j:Nat}{x:α}(h1:∀i x,i<j->l[i]? =some x->p x=false)(hx:l[j]? =some x)(h:p x=true):rK p l=j:=by
 have hj:=(zB.1 hx).1;have:=qT h1 (Nat.le_of_lt hj) (λy hy=>by rw[hx] at hy;cases hy;exact h)
 rw[rK,this,if_pos hj]
theorem BF{α:Type}{p:α->Bool}{l:List α}(h1:∀i x,i<l.length->l[i]? =some x->p x=false):rK p l=-1:=by
 have:=qT h1 (zG _) (λy hy=>by rw[zS (zG _)] at hy;cases hy)
 rw[rK,this,if_neg (Nat.lt_irrefl _)]
theorem Eo{α:Type}{p:α->Bool}{l:List α}{j:Nat}{x:α}(h1:∀i x,i<j->l[i]? =some x->p x=false)(hx:l[j]? =some x)(h:p x=false):∀i x,i<j+1->l[i]? =some x->p x=false:=λi y hi hy=>by
 by_cases e:i=j
 .subst e;rw[hx] at hy;cases hy;exact h
 .exact h1 i y (by omega) hy
theorem En{α:Type}{p:α->Bool}{l:List α}:∀i x,i<0->l[i]? =some x->p x=false:=λi _ hi=>by omega
def dO(x y:Int):Int:=if x<y then-1 else if y<x then 1 else 0
def qZ(x y:ByteArray):Int:=if Op.bytesLess x.toList y.toList=true then-1 else if x=y then 0 else 1
def orI(a b:Int):Int:=if a=0 then b else a
theorem vY(b:Int):orI 0 b=b:=rfl
theorem JM{a:Int}(h:¬a=0)(b:Int):orI a b=a:=if_neg h
theorem wU(x:Int):dO x x=0:=by simp[dO]
theorem ll:∀l:List UInt8,Op.bytesLess l l=false
 |[]=>rfl
 |x::l=>by simp[Op.bytesLess,ll l]
theorem wT(x:ByteArray):qZ x x=0:=by simp[qZ,ll]
theorem o9{x y:Int}:dO x y=0↔x=y:=by unfold dO;split<;>rename_i h<;>first|(split<;>omega)|omega
theorem Ia{x y:ByteArray}:qZ x y=0↔x=y:=by
 unfold qZ;split
 .rename_i h;refine⟨λh=>absurd h (by decide),λe=>?_⟩
  subst e;rw[ll] at h;cases h
 .split
  .simp [*]
  .simp [*]
def kQ(k:Int):Int:=if k=1 then 0 else if k=0 then 1 else if k=2 then 2 else 3
mutual
def Tm.cmp:Tm->Tm->Int
 |.mk k n s l,b=>
  orI (dO (kQ k) (kQ b.kind)) (if kQ k=0\/kQ k=1 then dO n b.num else if kQ k=2 then orI (dO l.length b.args.length) (orI (qZ s b.name) (Tm.gg l b.args)) else orI (dO k b.kind) (orI (dO n b.num) (qZ s b.name)))
def Tm.gg:List Tm->List Tm->Int
 |[],m=>dO 0 m.length
 |x::l,m=>match m with
  |[]=>1
  |y::m=>orI (Tm.cmp x y) (Tm.gg l m)
end
theorem Tm.cmp_eq(a b:Tm):a.cmp b=orI (dO (kQ a.kind) (kQ b.kind)) (if kQ a.kind=0\/kQ a.kind=1 then dO a.num b.num else if kQ a.kind=2 then orI (dO a.args.length b.args.length) (orI (qZ a.name b.name) (Tm.gg a.args b.args)) else orI (dO a.kind b.kind) (orI (dO a.num b.num) (qZ a.name b.name))):=by
 obtain⟨k,n,s,l⟩:=a;rw[Tm.cmp];rfl
theorem wR{l m:List Tm}{j:Nat}{x y:Tm}(hx:l[j]? =some x)(hy:m[j]? =some y):Tm.gg (l.drop j) (m.drop j)=orI (x.cmp y) (Tm.gg (l.drop (j+1)) (m.drop (j+1))):=by
 obtain⟨h1,rfl⟩:=zB.1 hx;obtain⟨h2,rfl⟩:=zB.1 hy;rw[zH h1,zH h2,Tm.gg]
theorem BV{l m:List Tm}{j:Nat}(h1:j<=l.length)(h2:j<=m.length)(h:j=l.length\/j=m.length):Tm.gg (l.drop j) (m.drop j)=dO l.length m.length:=by
 rcases zu j l.length with h3|h3
 .have:j=m.length:=by omega
  subst this;rw[zH h3,zk,Tm.gg,dO,if_neg (by omega),if_pos (by omega)]
 .have:j=l.length:=by omega
  subst this;rw[zk,Tm.gg,Zg];unfold dO;split<;>split<;>first|rfl|omega|(split<;>first|rfl|omega)
theorem Tm.uw(t:Tm):t.cmp t=0:=by
 induction t using Tm.bu with
 |h k n s l ih=>
  have hl:∀r:List Tm,(∀t∈r,t.cmp t=0)->Tm.gg r r=0:=λr=>by
   induction r with
   |nil=>intro _;rfl
   |cons t r ihr=>intro h;rw[Tm.gg,h t (by simp),vY];exact ihr λx hx=>h x (by simp[hx])
  rw[Tm.cmp];simp only[Tm.kind,Tm.num,Tm.name,Tm.args,wU,wT,vY,hl l ih];split<;>first|rfl|(split<;>rfl)
theorem Tm.wS:∀l:List Tm,Tm.gg l l=0
 |[]=>rfl
 |t::r=>by rw[Tm.gg,t.uw,vY];exact Tm.wS r
mutual
def Tm.wgh:Tm->Int->Int->Int
 |.mk _ _ s l,left,deep=>if deep-1=0\/left-1-(s.size:Int).tdiv 8<l.length then-1 else Tm.dJ l (left-1-(s.size:Int).tdiv 8) (deep-1)
def Tm.dJ:List Tm->Int->Int->Int
 |[],left,_=>left
 |t::r,left,deep=>if left<0 then left else Tm.dJ r (Tm.wgh t left deep) deep
end
def bg(l:List Tm)(left deep:Int):Int:=if deep=0\/left<l.length then-1 else Tm.dJ l left deep
theorem Tm.CD(t:Tm)(left deep:Int):t.wgh left deep=bg t.args (left-1-(t.name.size:Int).tdiv 8) (deep-1):=by
 obtain⟨k,n,s,l⟩:=t;rw[Tm.wgh];rfl
theorem pg(n:Nat):(n:Int).tdiv 8=((n/8:Nat):Int):=by rw[Int.tdiv_eq_ediv_of_nonneg (by omega)];rfl
theorem EY{l:List Tm}{j:Nat}{x:Tm}(hx:l[j]? =some x){left:Int}(h:0<=left)(deep:Int):Tm.dJ (l.drop j) left deep=Tm.dJ (l.drop (j+1)) (x.wgh left deep) deep:=by
 obtain⟨h1,rfl⟩:=zB.1 hx;rw[zH h1,Tm.dJ,if_neg (by omega)]
theorem mT(l:List Tm){left:Int}(h:left<0)(deep:Int):Tm.dJ l left deep=left:=by
 cases l with
 |nil=>rfl
 |cons t r=>rw[Tm.dJ,if_pos h]
theorem Aj(t:Tm):∀left deep:Int,-1<=bg t.args left deep/\bg t.args left deep<=max left (-1):=by
 induction t using Tm.bu with
 |h k n s l ih=>
  have hl:∀r:List Tm,(∀t∈r,t∈l)->∀left deep:Int,-1<=left->-1<=Tm.dJ r left deep/\Tm.dJ r left deep<=left:=λr=>by
   induction r with
   |nil=>intro _ left deep h;simp only[Tm.dJ];omega
   |cons t r ihr=>
    intro hm left deep h;have h1:=ih t (hm t (by simp)) (left-1-(t.name.size:Int).tdiv 8) (deep-1)
    rw[<-Tm.CD,pg] at h1;simp only[Tm.dJ];split
    .omega
    .have h2:=ihr (λx hx=>hm x (by simp[hx])) (t.wgh left deep) deep h1.1
     omega
  intro left deep;show-1<=bg l left deep/\bg l left deep<=max left (-1)
  by_cases hc:deep=0\/left<l.length
  .rw [bg,if_pos hc];omega
  .rw [bg,if_neg hc];have:=hl l (λ_ h=>h) left deep (by omega)
   omega
theorem sH(t:Tm)(left deep:Int)(h:-1<=left):-1<=t.wgh left deep/\t.wgh left deep<=left:=by
 have:=Aj t (left-1-(t.name.size:Int).tdiv 8) (deep-1);rw[<-Tm.CD,pg] at this;omega
end Go.CK
namespace Go.CK
open Go.AM Go.Proofs
theorem EL{p:Prop}[Decidable p](h:¬p):AV.bool false=AV.bool (decide p):=by rw[decide_eq_false h]
theorem Ij{p:Prop}[Decidable p](h:p):AV.bool true=AV.bool (decide p):=by rw[decide_eq_true h]
theorem I8{x:Int}:Fun Tryz.prog 152 [.int .i64 x] (.bool false):=by
 refine Fun.of (qz (by simp) ?_) rfl rfl
 conv=>whnf
 repeat' refine ai.nrm ?_<;>conv=>whnf
 simp
theorem Ju{x y:Int}:Fun Tryz.prog 101 [.int .i64 x,.int .i64 y] (.int .i64 (dO x y)):=by
 refine Fun.of (oR (by simp) ?_) rfl rfl
 conv=>whnf
 repeat' (first|refine gF (ah.fn (I8) ?_)|(refine gC ?_;first|refine cN ?_|refine aj.lt (λhc=>?_) (λhc=>?_))|refine ai.nrm ?_)<;>conv=>whnf
 .rw [dO,if_pos (by omega)]
 .rw [dO,if_neg (by omega),if_pos (by omega)]
 .rw [dO,if_neg (by omega),if_neg (by omega)]
theorem lK{x y:Int}:Fun Tryz.prog 160 [.int .i64 x,.int .i64 y] (.int .i64 (dO x y)):=by
 refine Fun.of (kU (by simp) ?_) rfl rfl
 conv=>whnf
 repeat' (first|(refine gC ?_;refine aj.lt (λhc=>?_) (λhc=>?_))|refine ai.nrm ?_)<;>conv=>whnf
 .rw [dO,if_pos (by omega)]
 .rw [dO,if_neg (by omega),if_pos (by omega)]
 .rw [dO,if_neg (by omega),if_neg (by omega)]
theorem rG{x y:ByteArray}:Fun Tryz.prog 159 [.str x,.str y] (.int .i64 (qZ x y)):=by
 refine Fun.of (jW (by simp) ?_) rfl rfl
 conv=>whnf
 repeat' (first|(refine gC ?_;first|refine .not ?_|refine cNa ?_|with_reducible refine aj.or ?_|refine aj.dec (λhc=>?_) (λhc=>?_)|refine aj.any (λhc=>?_) (λhc=>?_))|refine ai.nrm ?_)<;>conv=>whnf
 .simp [qZ,ll, *]
 .simp [qZ,ll, *]
 .simp [qZ,ll, *]
theorem BW{t:Tm}:Fun Tryz.prog 203 [t.avw] (.int .i64 (kQ t.kind)):=by
 refine Fun.of (jY (by simp) ?_) rfl rfl
 conv=>whnf
 repeat' (first|(refine gC ?_;refine aj.dec (λhc=>?_) (λhc=>?_))|refine ai.nrm ?_)<;>conv=>whnf
 all_goals simp[kQ, *]
theorem Bh{l m:List Tm}(ih:∀t∈l,∀b:Tm,Fun Tryz.prog 161 [t.avw,b.avw] (.int .i64 (t.cmp b))):Fun Tryz.prog 110 [slA Tm.av l,slA Tm.av m] (.int .i64 (Tm.gg l m)):=by
 refine Fun.assume rfl λhg0=>?_;have hg:=(cO (hg0 (slA Tm.av l) (by simp))).1
 refine Fun.of (jX (by simp) ?_) rfl rfl
 conv=>whnf
 skip;refine aJ.by (fb:=true) (λst_ j=>st_.oK [(5,.int .i64 (j:Nat))]) (λj=>j<=l.length/\j<=m.length/\Tm.gg (l.drop j) (m.drop j)=Tm.gg l m) (λj=>l.length-j) 0 ⟨by omega,by omega,rfl⟩ ?_ ?_
 .exact bH
 .rintro j ⟨h1,h2,hij⟩
  conv=>whnf
  repeat' (first|refine gF (ah.fn (lK) ?_)|(refine gG ?_;refine bO.fn (ih _ (zE (by assumption)) _) ?_)|(refine gC ?_;first|refine cN ?_|refine .not ?_|(refine gD ?_;first|refine cI ?_|refine cJ ?_)|refine aj.lt (λhc=>?_) (λhc=>?_)|refine aj.dec (λhc=>?_) (λhc=>?_))|refine gW (wI ?_)|refine gL (.map ?_)|(refine gI ?_;(refine gT ?_;refine iC λx hx=>?_))|refine ai.nrm ?_)<;>conv=>whnf
  .rw [wR (by assumption) (by assumption)] at hij
   refine⟨j+1,⟨⟨by omega,by omega,?_⟩,by omega⟩,?_⟩
   .rw [<-hij];simp[orI, *]
   .exact bH
  .rw [wR (by assumption) (by assumption),JM (by assumption)] at hij
   rw[hij]
  .rw [BV h1 h2 (by omega)] at hij
   rw[hij]
  .rw [BV h1 h2 (by omega)] at hij
   rw[hij]
theorem oi(a:Tm):∀b:Tm,Fun Tryz.prog 161 [a.avw,b.avw] (.int .i64 (a.cmp b)):=by
 induction a using Tm.bu with
 |h k n s l ih=>
 intro b;generalize ha:Tm.mk k n s l=a;have ih:∀t∈a.args,∀b:Tm,Fun Tryz.prog 161 [t.avw,b.avw] (.int .i64 (t.cmp b)):=by subst ha;exact ih
 clear ha;rw[Tm.cmp_eq];refine Fun.of (iL (by simp) ?_) rfl rfl
 conv=>whnf
 repeat' (first|(refine gF ?_;first|refine ah.fn (BW) ?_|refine ah.fn (lK) ?_|refine ah.fn (rG) ?_|refine ah.fn (Bh ih) ?_)|(refine gG ?_;first|refine bO.fn (BW) ?_|refine bO.fn (lK) ?_)|(refine gC ?_;first|refine .not ?_|(refine gD ?_;first|refine cI ?_|refine cJ ?_)|refine aj.dec (λhc=>?_) (λhc=>?_))|refine gL (.map ?_)|refine ai.nrm ?_)<;>conv=>whnf
 all_goals (clear ih;simp_all[orI])
theorem Hi{l m:List Tm}:Fun Tryz.prog 110 [slA Tm.av l,slA Tm.av m] (.int .i64 (Tm.gg l m)):=Bh λt _ b=>oi t b
def At.cmp(a b:At):Int:=orI (orI (qZ a.name b.name) (dO a.args.length b.args.length)) (Tm.gg a.args b.args)
theorem At.uw(a:At):a.cmp a=0:=by simp[At.cmp,wT,wU,vY,Tm.wS]
theorem vh{a b:At}:Fun Tryz.prog 107 [a.av,b.av] (.int .i64 (a.cmp b)):=by
 unfold At.cmp;refine Fun.of (ft (by simp) ?_) rfl rfl
 conv=>whnf
 repeat' (first|(refine gF ?_;first|refine ah.fn (rG) ?_|refine ah.fn (lK) ?_|refine ah.fn (Hi) ?_)|(refine gC ?_;first|refine gD (cJ ?_)|refine aj.dec (λhc=>?_) (λhc=>?_))|refine gL (.map ?_)|refine ai.nrm ?_)<;>conv=>whnf
 all_goals simp[orI, *]
theorem tn{a b:At}:Fun Tryz.prog 52 [a.av,b.av] (.bool (decide (a.cmp b=0))):=by
 refine Fun.of (gO (by simp) ?_) rfl rfl
 conv=>whnf
 repeat' (first|(refine gF ?_;refine ah.fn (vh (a:=a) (b:=b)) ?_)|refine ai.nrm ?_)<;>conv=>whnf
theorem Gj(a:Tm):∀left deep:Int,-2305843009213693952<=left->left<=4294967296->0<=deep->deep<=64->Fun Tryz.prog 93 [slA Tm.av a.args,.int .i64 left,.int .i64 deep] (.int .i64 (bg a.args left deep)):=by
 induction a using Tm.bu with
 |h k n s l ih=>
 intro left deep b1 b2 b3 b4;rw[show (Tm.mk k n s l).args=l from rfl];refine Fun.assume rfl λhg0=>?_;have hgs:=cO (hg0 (slA Tm.av l) (by simp))
 have hg:=hgs.1;refine Fun.of (jV (by simp) ?_) rfl rfl
 conv=>whnf
 repeat' (first|(refine gC ?_;first|refine cY ?_|(refine gD ?_;first|refine cI ?_|refine cJ ?_)|refine aj.lt (λhc=>?_) (λhc=>?_)|refine aj.dec (λhc=>?_) (λhc=>?_))|refine gL (.map ?_)|refine ai.nrm ?_)<;>conv=>whnf
 .rw [bg,if_pos (.inl (by assumption))]
 .rw [bg,if_pos (.inr (by assumption))]
 .have e0:bg l left deep=Tm.dJ l left deep:=by rw[bg,if_neg (by omega)]
  rw[e0];refine aJ.by (fb:=true) (λs (q:Nat×Int)=>s.oK [(1,.int .i64 q.2),(7,.int .i64 q.1)]) (λq=>q.1<=l.length/\(-1<=q.2/\q.2<=4294967296)/\Tm.dJ (l.drop q.1) q.2 deep=Tm.dJ l left deep) (λq=>l.length-q.1) (0,left) ⟨zJ _,by simp only;omega,rfl⟩ ?_ ?_
  .exact bH
  .rintro ⟨j,r⟩ ⟨hj,hr,he⟩;dsimp only at hj hr he|-
   by_cases hlt:j<l.length
   .obtain ⟨x,hx⟩:∃x,l[j]? =some x:=⟨_,zA hlt⟩;have hxs:=(pX (BB (hgs.2 x (zE hx)))).1
    by_cases hr0:0<=r
    .rw [EY hx hr0] at he;have hw:=sH x r deep hr.1;rw[Tm.CD] at hw he;have h8:=pg x.name.size
     conv=>whnf
     repeat' (first|(refine gG ?_;refine bO.fn (ih _ (zE (by assumption)) _ _ (by omega) (by omega) (by omega) (by omega)) ?_)|refine gC (gD (cI ?_))|refine gW (wI ?_)|refine gL (.map ?_)|refine gN (nS ?_)|refine gI (gT (iA ?_)))<;>conv=>whnf
     refine⟨(j+1,bg x.args (r-1-(x.name.size:Int).tdiv 8) (deep-1)),⟨⟨hlt,?_,he⟩,by simp only;omega⟩,?_⟩
     .simp only;omega
     .exact bH
    .rw [mT _ (by omega)] at he
     conv=>whnf
     repeat' (first|(refine gC ?_;(refine gD ?_;first|refine cI ?_|refine cJ ?_))|refine gL (.map ?_)|refine ai.nrm ?_)<;>conv=>whnf
     rw[he]
   .have hje:j=l.length:=by omega
    subst hje;rw[zk,Tm.dJ] at he
    conv=>whnf
    repeat' (first|(refine gC ?_;first|refine cN ?_|refine gD (cJ ?_))|refine gL (.map ?_)|refine ai.nrm ?_)<;>conv=>whnf
    rw[he]
theorem sI{l:List Tm}{left deep:Int}(h1:-2305843009213693952<=left)(h2:left<=4294967296)(h3:0<=deep)(h4:deep<=64):Fun Tryz.prog 93 [slA Tm.av l,.int .i64 left,.int .i64 deep] (.int .i64 (bg l left deep)):=Gj (.mk 0 0 .empty l) left deep h1 h2 h3 h4
end Go.CK
namespace Go.CK
open Go.AM Go.Proofs
def xk{α:Type}(a b:List α)(j:Nat):Prop:=∀i,i<j->a[i]? =b[i]?
theorem xk.zero{α:Type}{a b:List α}:xk a b 0:=λi h=>by omega
theorem xk.succ{α:Type}{a b:List α}{j:Nat}{x y:α}(h:xk a b j)(hx:a[j]? =some x)(hy:b[j]? =some y)(e:x=y):xk a b (j+1):=λi hi=>by
 by_cases hij:i=j
 .subst hij;rw[hx,hy,e]
 .exact h i (by omega)
theorem xk.all{α:Type}{a b:List α}(h:xk a b a.length)(hl:a.length=b.length):a=b:=Zr λi=>by
 rcases zu i a.length with h1|h1
 .exact h i h1
 .rw [zS h1,zS (by omega)]
theorem Ln{α:Type}{a b:List α}{j:Nat}{x y:α}(hx:a[j]? =some x)(hy:b[j]? =some y)(e:¬x=y):¬a=b:=λh=>by subst h;rw[hx] at hy;exact e (yN hy)
theorem Kz{α:Type}{a b:List α}(h:¬(a.length:Int)=b.length):¬a=b:=λe=>h (by rw[e])
theorem mW{a b:List Int}:Fun Tryz.prog 17 [slA bF a,slA bF b] (.bool (decide (a=b))):=by
 refine Fun.assume rfl λhg0=>?_;refine Fun.of (gJ (by simp) ?_) rfl rfl
 conv=>whnf
 have hg:=(cO (hg0 (slA bF a) (by simp))).1
 conv=>whnf
 repeat' (first|(refine gC ?_;first|refine .not ?_|refine aj.dec (λhc=>?_) (λhc=>?_))|refine gL (.map ?_)|refine ai.nrm ?_)<;>conv=>whnf
 .refine aJ.count (fb:=true) (a.length) (λst_ j=>st_.oK [(5,.int .i64 j)]) (λj=>xk a b j) ?_ ?_ (λj hj hij=>?_) (λhij=>?_)
  .exact xk.zero
  .exact bH
  .conv=>whnf
   repeat' (first|(refine gC ?_;first|refine .not ?_|refine gD (cI ?_)|refine aj.dec (λhc=>?_) (λhc=>?_))|refine gW (wI ?_)|refine gL (.map ?_)|(refine gI ?_;(refine gM ?_;refine iH λx hx=>?_))|refine ai.nrm ?_)<;>conv=>whnf
   .refine ⟨hij.succ (by assumption) (by assumption) (by assumption),?_⟩
    exact bH
   .exact EL (Ln (by assumption) (by assumption) (by assumption))
  .conv=>whnf
   repeat' (first|(refine gC ?_;first|refine cN ?_|refine gD (cJ ?_))|refine gL (.map ?_)|refine ai.nrm ?_)<;>conv=>whnf
   exact Ij (hij.all (by omega))
 .exact EL (Kz (by assumption))
end Go.CK
namespace Go.CK
end Go.CK
namespace Go.CK
open Go.AM Go.Proofs
mutual
def Tm.vs:Tm->List Int
 |.mk k n _ l=>if k=1 then [n] else if k=2 then Tm.vss l else []
def Tm.vss:List Tm->List Int
 |[]=>[]
 |t::r=>t.vs++Tm.vss r
end
def Tm.use(t:Tm):List Tm:=if t.kind=2 then t.args else []
theorem Tm.vs_1{t:Tm}(h:t.kind=1):t.vs=[t.num]:=by
 obtain⟨k,n,s,l⟩:=t;simp only[Tm.kind] at h;rw[Tm.vs,if_pos h];rfl
theorem Tm.vs_2{t:Tm}(h:¬t.kind=1):t.vs=Tm.vss t.use:=by
 obtain⟨k,n,s,l⟩:=t;simp only[Tm.kind] at h;rw[Tm.vs,if_neg h];unfold Tm.use;show _=Tm.vss (if k=2 then l else [])
 by_cases h2:k=2
 .rw [if_pos h2,if_pos h2]
 .rw [if_neg h2,if_neg h2,Tm.vss]
theorem Tm.xe:∀l m:List Tm,Tm.vss (l++m)=Tm.vss l++Tm.vss m
 |[],m=>rfl
 |t::l,m=>by rw[zf,Tm.vss,Tm.vss,Tm.xe l m,zh]
theorem Tm.sK{l:List Tm}{j:Nat}{x:Tm}(h:l[j]? =some x):Tm.vss (l.take (j+1))=Tm.vss (l.take j)++x.vs:=by
 obtain⟨hj,rfl⟩:=zB.1 h;rw[List.take_succ_eq_append_getElem hj,Tm.xe];simp[Tm.vss]
theorem Tm.vz{l:List Tm}{j:Nat}{x:Tm}(h:l[j]? =some x):Tm.vss l=Tm.vss (l.take j)++(x.vs++Tm.vss (l.drop (j+1))):=by
 rw[<-zh,<-Tm.sK h,<-Tm.xe,List.take_append_drop]
def ys1(l:List Int):List (List AV):=l.map λn=>[bF n]
theorem pa(l m:List Int):ys1 (l++m)=ys1 l++ys1 m:=by simp[ys1]
theorem Jf{a:Tm}{x:Tm}(h:x∈a.use):x∈a.args:=by
 unfold Tm.use at h;split at h
 .exact h
 .cases h
theorem JA{a:Tm}:Fun Tryz.prog 209 [a.avw] (slA Tm.av a.use):=by
 refine Fun.of (x7 (by simp) ?_) rfl rfl
 conv=>whnf
 repeat' (first|(refine gC ?_;refine aj.dec (λhc=>?_) (λhc=>?_))|refine ai.nrm ?_)<;>conv=>whnf
 all_goals simp[Tm.use, *]
theorem tp{a:Tm}:Fun Tryz.prog 212 [a.avw] (slA Tm.av a.use):=by
 refine Fun.of (kV (by simp) ?_) rfl rfl
 conv=>whnf
 repeat' (first|(refine gC ?_;refine aj.dec (λhc=>?_) (λhc=>?_))|refine ai.nrm ?_)<;>conv=>whnf
 all_goals simp[Tm.use, *]
structure YC(P:Program)(b n0:Nat)(xs:List (List AV))(J:List (List AV)->List Box->Prop)(Jx:List Box->Prop):Prop where
 hb:b<n0
 hJ:∀pre bs',J pre bs'->bs'.length=n0/\ak n0 bs'=true
 hJx:∀bs',Jx bs'->bs'.length=n0/\ak n0 bs'=true
 hr:∀pre y rest bs' cs,pre++y::rest=xs->J pre bs'->my P b y (bs'++cs) λr bs2=>∃own,bs2=own++cs/\((r=.bool true/\J (pre++[y]) own)\/(r=.bool false/\Jx own))
theorem bl2{n0:Nat}{own cs:List Box}(h:own.length=n0/\ak n0 own=true)(hcs:ak (n0+cs.length) cs=true):ak (own++cs).length (own++cs)=true:=by
 rw[zC,h.1];exact bM (bZ (yD _ _) h.2) hcs
theorem IE(a:Tm):∀{b n0:Nat} {xs:List (List AV)} {J:List (List AV)->List Box->Prop} {Jx:List Box->Prop} (hC:YC Tryz.prog b n0 xs J Jx) (pre rest:List (List AV)) (bs cs:List Box),pre++(ys1 a.vs++rest)=xs->J pre bs->ak (n0+cs.length) cs=true->
  AM.Sem Tryz.prog 183 [a.avw,.yl b] (bs++cs) λr bs'=>∃own,bs'=own++cs/\((r=.bool true/\J (pre++ys1 a.vs) own)\/(r=.bool false/\Jx own)):=by
 induction a using Tm.bu with
 |h k n s l ih=>
 intro b n0 xs J Jx hC pre rest bs cs hx hj hcs;generalize ha:Tm.mk k n s l=a at hx|-
 have ih:∀t∈a.args,∀{b n0:Nat} {xs:List (List AV)} {J:List (List AV)->List Box->Prop} {Jx:List Box->Prop} (hC:YC Tryz.prog b n0 xs J Jx) (pre rest:List (List AV)) (bs cs:List Box),pre++(ys1 t.vs++rest)=xs->J pre bs->ak (n0+cs.length) cs=true->
  AM.Sem Tryz.prog 183 [t.avw,.yl b] (bs++cs) λr bs'=>∃own,bs'=own++cs/\((r=.bool true/\J (pre++ys1 t.vs) own)\/(r=.bool false/\Jx own)):=by subst ha;exact ih
 clear ha;have hbl:=hC.hJ _ _ hj;refine Sem.assume λhg0 _=>?_;have hg:=(pX (hg0 a.avw (by simp) rfl)).2.1
 have hgu:a.use.length<=9223372036854775807:=by unfold Tm.use;split<;>simp[hg]
 refine vl (by simp) ?_
 conv=>whnf
 repeat' (first|refine gF (ah.fn (JA) ?_)|(refine gC ?_;refine aj.dec (λhc=>?_) (λhc=>?_))|refine gL (.map ?_)|refine gB (.last ?_))<;>conv=>whnf
 .rw [Tm.vs_1 hc] at hx|-;have hY:=hC.hr pre [bF a.num] rest bs (cs++[.cells [.int .i64 a.kind,.int .i64 a.num,.str a.name,.sl .no (a.args.map Tm.av)]]) hx hj;rw[<-zh] at hY;refine uZ.of hY ?_;rintro r bs' ⟨own,rfl,h⟩
  have ho:own.length=n0/\ak n0 own=true:=by
   rcases h with ⟨_,h⟩|⟨_,h⟩
   .exact hC.hJ _ _ h
   .exact hC.hJx _ h
  rcases h with ⟨rfl,h⟩|⟨rfl,h⟩
  .conv=>whnf
   skip;refine ai.FN (own:=own++cs) (zh _ _ _).symm (show (bs++cs).length<=(own++cs).length by simp;omega) rfl (bl2 ho hcs) ?_
   exact ai.slot ⟨own,rfl,.inl ⟨rfl,h⟩⟩
  .conv=>whnf
   skip;refine ai.FN (own:=own++cs) (zh _ _ _).symm (show (bs++cs).length<=(own++cs).length by simp;omega) rfl (bl2 ho hcs) ?_
   exact ai.slot ⟨own,rfl,.inr ⟨rfl,h⟩⟩
 .rw [Tm.vs_2 hc] at hx|-;refine aJ.by (fb:=false) (λ_ (q:Nat×List Box)=>⟨[(1,.yl b),(15,slA Tm.av a.use),(16,.int .i64 a.use.length),(17,.int .i64 q.1)],q.2++cs,(bs++cs).length⟩) (λq=>q.1<=a.use.length/\J (pre++ys1 (Tm.vss (a.use.take q.1))) q.2) (λq=>a.use.length-q.1) (0,bs) ⟨zJ _,by simpa[Tm.vss,ys1] using hj⟩ ?_ ?_
  .refine az.FN (own:=bs++cs) rfl (zG _) ?_ (bl2 hbl hcs) ?_
   .simp [nE,AV.lt,AV.lt1,AV.lt0,AV.aU];have:=hC.hb;omega
   .refine az.atS ?_ rfl rfl
    conv=>whnf
    repeat' (first|(refine gV ?_;first|refine vE ?_|refine vI ?_)|exact True.intro)<;>conv=>whnf
  .rintro ⟨j,own⟩ ⟨hj1,hj2⟩;dsimp only at hj1 hj2|-;have ho:=hC.hJ _ _ hj2
   by_cases hlt:j<a.use.length
   .obtain ⟨x,hxj⟩:∃x,a.use[j]? =some x:=⟨_,zA hlt⟩
    conv=>whnf
    repeat' (first|refine gC (gD (cI ?_))|refine gI (gT (iA ?_))|refine gB (.last ?_)|refine dG.last ?_)<;>conv=>whnf
    have hsp:=Tm.vz hxj;have htk:=Tm.sK hxj;have hC2:=ih x (Jf (zE hxj)) hC (pre++ys1 (Tm.vss (a.use.take j))) (ys1 (Tm.vss (a.use.drop (j+1)))++rest) own (cs++[.cells [.int .i64 x.kind,.int .i64 x.num,.str x.name,.sl .no (x.args.map Tm.av)]]) (by rw[<-hx,hsp];simp[pa]) hj2 (bM (bZ (by simp) hcs) rfl)
    rw[<-zh] at hC2;refine ah.raw hC2 ?_;rintro r bs' ⟨own2,rfl,⟨rfl,h⟩|⟨rfl,h⟩⟩
    .have ho2:=hC.hJ _ _ h
     conv=>whnf
     repeat' (first|(refine gC ?_;first|refine cY ?_|refine .not ?_)|refine gW (wI ?_))<;>conv=>whnf
     refine⟨(j+1,own2),⟨⟨hlt,?_⟩,by simp only;omega⟩,az.FN (own:=own2++cs) (zh _ _ _).symm (show (bs++cs).length<=(own2++cs).length by simp;omega) ?_ (bl2 ho2 hcs) ?_⟩
     .dsimp only;rw[htk,pa,<-zh];exact h
     .simp [nE,AV.lt,AV.lt1,AV.lt0,AV.aU];have:=hC.hb;omega
     .refine az.atS ?_ rfl rfl
      conv=>whnf
      repeat' (first|(refine gV ?_;first|refine vE ?_|refine vI ?_)|exact True.intro)<;>conv=>whnf
    .have ho2:=hC.hJx _ h
     conv=>whnf
     repeat' (refine gC ?_;first|refine cN ?_|refine .not ?_)<;>conv=>whnf
     refine ai.FN (own:=own2++cs) (zh _ _ _).symm (show (bs++cs).length<=(own2++cs).length by simp;omega) rfl (bl2 ho2 hcs) ?_
     exact ai.slot ⟨own2,rfl,.inr ⟨rfl,h⟩⟩
   .obtain rfl:j=a.use.length:=by omega
    rw[ZA] at hj2
    conv=>whnf
    repeat' refine gC (gD (cJ ?_))<;>conv=>whnf
    exact ai.slot ⟨own,rfl,.inl ⟨rfl,hj2⟩⟩
theorem Jq{l:List Tm}:Fun Tryz.prog 134 [slA Tm.av l] (.fn (.func 182) [] [.ept [slA Tm.av l]]):=by
 refine Fun.of (x6 (by simp) ?_) rfl rfl
 conv=>whnf
 skip;refine ai.of (JF.freeze 0 rfl rfl rfl rfl ?_)
 conv=>whnf
 rfl
theorem FJ(l:List Tm):CA Tryz.prog 182 [.ept [slA Tm.av l]] (ys1 (Tm.vss l)):=by
 intro b bs J Jx hb hJ hJx hr h0;have hC:YC Tryz.prog b bs.length (ys1 (Tm.vss l)) J Jx:=⟨hb,hJ,hJx,hr⟩;refine Sem.assume λ_ hg0=>?_;have hg:=(cO (hg0 [slA Tm.av l] (by simp) (slA Tm.av l) (by simp))).1
 refine r9 (by simp) ?_
 conv=>whnf
 repeat' refine gL (.map ?_)<;>conv=>whnf
 refine aJ.by (fb:=false) (λ_ (q:Nat×List Box)=>⟨[(0,.yl b),(1,.ept [slA Tm.av l]),(5,.int .i64 l.length),(6,.int .i64 q.1)],q.2,bs.length⟩) (λq=>q.1<=l.length/\J (ys1 (Tm.vss (l.take q.1))) q.2) (λq=>l.length-q.1) (0,bs) ⟨zJ _,by simpa[Tm.vss,ys1] using h0⟩ (az.eqS rfl rfl rfl) ?_
 rintro⟨j,own⟩ ⟨hj1,hj2⟩;dsimp only at hj1 hj2|-;have ho:=hC.hJ _ _ hj2
 by_cases hlt:j<l.length
 .obtain ⟨x,hxj⟩:∃x,l[j]? =some x:=⟨_,zA hlt⟩
  conv=>whnf
  repeat' (first|refine gC (gD (cI ?_))|refine gI (gT (iA ?_)))<;>conv=>whnf
  have hsp:=Tm.vz hxj;have htk:=Tm.sK hxj;have hC2:=IE x hC (ys1 (Tm.vss (l.take j))) (ys1 (Tm.vss (l.drop (j+1)))) own [] (by rw[hsp,pa,pa]) hj2 rfl
  rw[zz] at hC2;refine ah.raw hC2 ?_;rintro r bs' ⟨own2,rfl,⟨rfl,h⟩|⟨rfl,h⟩⟩
  .have ho2:=hC.hJ _ _ h
   conv=>whnf
   repeat' (first|(refine gC ?_;first|refine cY ?_|refine .not ?_)|refine gW (wI ?_))<;>conv=>whnf
   refine⟨(j+1,own2),⟨⟨hlt,?_⟩,by simp only;omega⟩,?_⟩
   .dsimp only;rw[htk,pa];exact h
   .refine az.atS ?_ (zz _) rfl
    conv=>whnf
    repeat' (first|(refine gV ?_;first|refine vE ?_|refine vI ?_)|exact True.intro)<;>conv=>whnf
  .conv=>whnf
   repeat' (first|(refine gC ?_;first|refine cN ?_|refine .not ?_)|refine ai.nrm ?_)<;>conv=>whnf
   refine Or.inr ?_;rw[zz];exact h
 .obtain rfl:j=l.length:=by omega
  rw[ZA] at hj2
  conv=>whnf
  repeat' (first|refine gC (gD (cJ ?_))|refine ai.nrm ?_)<;>conv=>whnf
  exact Or.inl hj2
def uY(l:List Int)(n:Int):List Int:=if n∈l then l else l++[n]
def oE(l m:List Int):List Int:=m.foldl uY l
theorem DR(l m:List Int)(n:Int):oE l (m++[n])=uY (oE l m) n:=by simp[oE]
theorem Iw(l:List Int)(n:Int):(uY l n).length<=l.length+1:=by
 unfold uY;split<;>simp
theorem xc:∀(m l:List Int),(oE l m).length<=l.length+m.length
 |[],l=>by simp[oE]
 |n::m,l=>by
  have h1:=xc m (uY l n);have h2:=Iw l n;show (oE (uY l n) m).length<=_;simp only[zY];omega
theorem JE{l:List Int}{n:Int}(h:n∈l):uY l n=l:=if_pos h
theorem Iv{l:List Int}{n:Int}(h:¬n∈l):uY l n=l++[n]:=if_neg h
def fB(l:List Int):List Int:=oE [] l
theorem I3{l:List Tm}(hl:(Tm.vss l).length<=100000):Fun Tryz.prog 133 [.fn (.func 182) [] [.ept [slA Tm.av l]]] (slA bF (fB (Tm.vss l))):=by
 refine Fun.of (x5 (by simp) ?_) rfl rfl
 conv=>whnf
 skip
 refine ja.each (λn:Int=>[bF n]) (Tm.vss l) ⟨[(2,.sl .full []),(3,.ptr 0 0),(4,.ptr 2 0),(7,.fn (.func 182) [] [.ept [slA Tm.av l]])],[.cells [.sl (.own 1) []],.mp [],.cells [.mpt 1]],0⟩
  (λpre=>[.cells [.sl (.own 1) ((fB pre).map bF)],.mp (nj (.bool true) (fB pre)),.cells [.mpt 1]]) (FJ l) (by kernel_rfl) ?_ rfl (λ_=>rfl) (λ_=>rfl) rfl (λ_=>⟨rfl,rfl⟩) ?_ ?_
 .refine az.KP 0 0 1 rfl (by simp) ?_
  exact az.eqS rfl rfl rfl
 .intro x pre y rest hxs
  have hpl:(fB pre).length+1<=100000:=by
   have:=congrArg List.length hxs;have h2:=xc pre [];simp at this;unfold fB;simp at h2;omega
  have hfs:fB (pre++[y])=uY (fB pre) y:=DR [] pre y
  conv=>whnf
  repeat' (first|(refine gC ?_;first|refine cY ?_|refine cN ?_|refine .not ?_)|refine gN (nS ?_)|refine gA (aP ?_)|refine gMp (mA ?_)|(refine gMs ?_;refine mS (λhc=>?_) (λhc=>?_)))<;>conv=>whnf
  .rw [JE hc] at hfs;refine u6.by ?_ rfl rfl rfl
   conv=>whnf
   repeat' (first|refine xB ?_|(refine BxN.mk ?_ ?_;(focus (simp[hfs];done)))|exact True.intro)<;>conv=>whnf
  .rw [Iv hc] at hfs;refine u6.by ?_ rfl rfl rfl
   conv=>whnf
   repeat' (first|refine xB ?_|(refine BxN.mk ?_ ?_;(focus (simp[hfs,A5,St.ev];done)))|exact True.intro)<;>conv=>whnf
 .conv=>whnf
  repeat' refine ai.nrm ?_<;>conv=>whnf
end Go.CK
namespace Go.CK
open Go.AM Go.Proofs
theorem Ck{x:At}(hl:(Tm.vss x.args).length<=100000):Fun Tryz.prog 71 [x.av] (slA bF (fB (Tm.vss x.args))):=by
 refine Fun.of (qw (by simp) ?_) rfl rfl
 conv=>whnf
 repeat' (first|(refine gF ?_;first|refine ah.fn (Jq) ?_|refine ah.fn (I3 hl) ?_)|refine ai.nrm ?_)<;>conv=>whnf
end Go.CK
