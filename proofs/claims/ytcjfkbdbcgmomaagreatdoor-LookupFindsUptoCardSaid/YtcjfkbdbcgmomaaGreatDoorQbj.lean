/-
  By an AI agent.
-/
import Derived.Test.YtcjfkbdbcgmomaaGreatDoorQbi
set_option linter.unusedSimpArgs false
set_option linter.unusedVariables false
set_option maxRecDepth 100000
namespace Go.CK
open Go.AM Go.Proofs
def sel(c:Ac)(k:ByteArray)(its:List It):List Int:=(its.filter λi=>c.has i.atom.name i.atom.args&&decide (fS (keyOf c i.atom.args)=k)).map It.id
structure TabIs(c:Ac)(its:List It)(l:List TR):Prop where
 ids:∀r∈l,r.ids=sel c r.key its/\r.ids≠[]
 all:∀k,sel c k its≠[]->∃r∈l,r.key=k
theorem TabIs.nil(c:Ac):TabIs c [] []:=⟨λ_ h=>(by cases h),λk h=>absurd rfl h⟩
def fL(l:List It)(i:It):List It:=l.filter (λx=>decide (x.id<i.id))++i::l.filter (λx=>!decide (x.id<i.id))
def Asc(l:List It):Prop:=l.Pairwise λa b=>a.id<b.id
theorem o0{l:List It}{q:It->Bool}{p:Int->Bool}:((l.filter λx=>p x.id).filter q).map It.id=((l.filter q).map It.id).filter p:=by
 rw[List.filter_map,List.filter_filter,List.filter_filter];congr 1;refine Zm λx _=>?_;simp[Bool.and_comm]
theorem Gs(c:Ac)(k:ByteArray)(l:List It)(i:It):sel c k (fL l i)=(sel c k l).filter (λn=>decide (n<i.id))++((if c.has i.atom.name i.atom.args&&decide (fS (keyOf c i.atom.args)=k) then [i.id] else [])++(sel c k l).filter (λn=>!decide (n<i.id))):=by
 unfold sel fL;rw[yL,zu,List.filter_cons];have b:=o0 (l:=l) (q:=λi=>c.has i.atom.name i.atom.args&&decide (fS (keyOf c i.atom.args)=k)) (p:=λn=>decide (n<i.id));have a:=o0 (l:=l) (q:=λi=>c.has i.atom.name i.atom.args&&decide (fS (keyOf c i.atom.args)=k)) (p:=λn=>!decide (n<i.id));rw[b];congr 1;split
 .rw [zP,a];rfl
 .rw [a];rfl
theorem Ai(c:Ac)(k:ByteArray)(l:List It):(sel c k l).length<=l.length:=by
 unfold sel;rw[zF];exact Zy _ _
theorem yr{l:List Int}(h:l.Pairwise (·<·))(n:Int):l.filter (λx=>decide (x<n))=l.take (l.countP λx=>decide (x<n))/\l.filter (λx=>!decide (x<n))=l.drop (l.countP λx=>decide (x<n)):=by
 induction l with
 |nil=>exact⟨rfl,rfl⟩
 |cons a l ih=>
  rw[ZA] at h;obtain⟨d,i2⟩:=ih h.2
  by_cases c:a<n
  .simp only[List.filter_cons,List.countP_cons,c,decide_true,if_true,Bool.not_true,ZX,if_false,yD,List.drop_succ_cons];exact⟨by rw[d],i2⟩
  .have b:∀x∈l,¬x<n:=λx hm=>by have:=h.1 x hm;omega
   have g:l.countP (λx=>decide (x<n))=0:=List.countP_eq_zero.2 λx hm=>by simpa using b x hm
   have f:l.filter (λx=>decide (x<n))=[]:=List.filter_eq_nil_iff.2 λx hm=>by simpa using b x hm
   have e:l.filter (λx=>!decide (x<n))=l:=yC.2 λx hm=>by simpa using b x hm
   simp only[List.filter_cons,List.countP_cons,c,decide_false,ZX,if_false,Bool.not_false,if_true,g,f,e];exact⟨rfl,rfl⟩
theorem Lf{l:List Int}(h:l.Pairwise (·<·))(n:Int):l.filter (λx=>decide (x<n))++l.filter (λx=>!decide (x<n))=l:=by
 obtain⟨b,a⟩:=yr h n;rw[b,a,List.take_append_drop]
theorem Aj{c:Ac}{k:ByteArray}{l:List It}(h:Asc l):(sel c k l).Pairwise (·<·):=by
 unfold sel;rw[List.pairwise_map];exact List.Pairwise.filter _ h
theorem BZ{c:Ac}{l:List It}(h:Asc l){i:It}(a:c.has i.atom.name i.atom.args=true):sel c (fS (keyOf c i.atom.args)) (fL l i)=hU (sel c (fS (keyOf c i.atom.args)) l) ((sel c (fS (keyOf c i.atom.args)) l).countP λx=>decide (x<i.id)) i.id:=by
 obtain⟨d,b⟩:=yr (Aj (c:=c) (k:=fS (keyOf c i.atom.args)) h) i.id;rw[Gs,if_pos (by simp[a]),hU,d,b];rfl
theorem ug{c:Ac}{k:ByteArray}{l:List It}(h:Asc l){i:It}(a:(c.has i.atom.name i.atom.args&&decide (fS (keyOf c i.atom.args)=k))=false):sel c k (fL l i)=sel c k l:=by
 rw[Gs,if_neg (by rw[a];exact Bool.false_ne_true),Zi,Lf (Aj h)]
theorem TabIs.skip{c:Ac}{its:List It}{l:List TR}(h:TabIs c its l)(b:Asc its){i:It}(a:c.has i.atom.name i.atom.args=false):TabIs c (fL its i) l:=by
 have e:∀k,sel c k (fL its i)=sel c k its:=λk=>ug b (by simp[a])
 exact⟨λr hr=>by rw[e];exact h.ids r hr,λk hk=>h.all k (by rw[<-e];exact hk)⟩
theorem Ht{l:List TR}{r:TR}{n:Nat}:∃q∈cm l r n,q.key=r.key:=by
 induction l with
 |nil=>exact⟨_,zp.2 rfl,rfl⟩
 |cons a l ih=>
  rw[cm];split
  .exact ⟨_,zV ..,rfl⟩
  .obtain ⟨q,c,b⟩:=ih;exact⟨q,zQ _ c,b⟩
theorem Hs{l:List TR}{r q:TR}{n:Nat}(h:q∈l)(hk:q.key≠r.key):q∈cm l r n:=by
 induction l with
 |nil=>cases h
 |cons a l ih=>
  rw[cm];rcases zI.1 h with rfl|h
  .rw [if_neg hk];exact zV ..
  .split
   .exact zQ _ h
   .exact zQ _ (ih h)
theorem TabIs.put{c:Ac}{its a:List It}{l:List TR}{r:TR}{n:Nat}(h:TabIs c its l)(j:(l.map TR.key).Nodup)(hk:∀k,k≠r.key->sel c k a=sel c k its)(hr:r.ids=sel c r.key a)(g:r.ids≠[]):TabIs c a (cm l r n):=by
 refine⟨λq i=>?_,λk d=>?_⟩
 .rcases kJ i j with ⟨f,b⟩|⟨m,rfl⟩
  .rw [hk _ b];exact h.ids q f
  .exact ⟨hr,g⟩
 .by_cases e:k=r.key
  .obtain ⟨q,f,b⟩:=Ht (l:=l) (r:=r) (n:=n);exact⟨q,f,b.trans e.symm⟩
  .rw [hk k e] at d;obtain⟨q,f,b⟩:=h.all k d;exact⟨q,Hs f (by rw[b];exact e),b⟩
def asgS(x:LB)(n:Nat)(K:St->Prop):AX->St->Prop
 |.normal,s=>IV s.bs n x ((⟨s.env,s.bs.set n .dead,s.lo⟩:St).fo false K)
 |_,_=>False
structure RndN(s:St)(n:Nat)(x:LB)(R:AV->List Box->Prop):Prop where
 out:∃s3,aD s s3/\R (.bool true) (s3.bs.set n (.loop x))
def rndS(n:Nat)(x:LB)(R:AV->List Box->Prop):AX->St->Prop
 |.normal,s=>RndN s n x R
 |_,_=>False
theorem jl.run{P:Program}{g:Opd}{ps:List Nat}{a b:RC}{s:St}{Q:AX->St->Prop}(c:St){gf:FuncId}{lb:List AV}(hw:al s c)(o:c.ev g=.fn (.func gf) [] lb)(j:dQ P gf=true)
  (h:∀x:LB,(∀y bs R,ah bs c.bs.length=some x->y.length=ps.length->((⟨j5 (eH c.env) ps y,bs,bs.length⟩:St).fo false λs1=>a.gp P false s1 (asgS x c.bs.length λs2=>b.gp P false s2 (rndS c.bs.length x R)))->mB P c.bs.length y bs R)->
   ∃QQ,AM.Sem P gf ((.yl c.bs.length::lb).map AV.norm) (c.bs++[.loop x]) QQ/\∀r bs',QQ r bs'->ah bs' c.bs.length=some x/\(⟨c.env,bs'.set c.bs.length .dead,c.lo⟩:St).fo false λl=>Q .normal l):jl P g ps a b s Q:=by
 refine⟨c,hw.out,?_⟩;rw[o];refine⟨j,λx m=>?_⟩
 obtain⟨QQ,f,p⟩:=h x λy bs R hb n hr=>m y bs R hb n (by
  rw[St.dj] at hr;refine RC.wp_mono (λe s1 f=>?_) (RC.lB hr)
  cases e with
  |normal=>
   refine⟨f.h,?_⟩;have i:=f.k;rw[St.dj] at i;refine RC.wp_mono (λe q d=>?_) (RC.lB i)
   cases e with
   |normal=>exact d.out
   |ret=>exact d.elim
   |exit id=>exact d.elim
  |ret=>exact f.elim
  |exit id=>exact f.elim)
 refine⟨QQ,f,λr bs' hr=>?_⟩;obtain⟨i,d⟩:=p r bs' hr;rw[St.dj] at d;exact .inl ⟨i,d⟩
end Go.CK
namespace Go.CK
open Go.AM Go.Proofs
structure fR(bs:List Box)(p:Nat)(acc:List Ac)(its:List It)(f:Nat->List It)(bi ki t kt:Nat)(cs:List Nat):Prop where
 str:bs[p]? =some (.cells [slA Ac.av acc,.bsl bi its.length ki,.bsl t cs.length kt])
 items:bs[bi]? =some (aJ It.av 3 ki its)
 le:its.length<=ki
 tabs:bs[t]? =some (aJ AV.mpt 1 kt cs)
 tle:cs.length<=kt
 len:cs.length=acc.length
 nod:cs.Nodup
 tab:∀k c a,cs[k]? =some c->acc[k]? =some a->∃x l,bs[c]? =some (.tab x)/\kG x l/\TabIs a (f k) l
theorem fR.lt{bs:List Box}{p:Nat}{acc:List Ac}{its:List It}{f:Nat->List It}{bi ki t kt:Nat}{cs:List Nat}(h:fR bs p acc its f bi ki t kt cs):p<bs.length/\bi<bs.length/\t<bs.length/\∀c∈cs,c<bs.length:=by
 refine⟨(zB.1 h.str).1,(zB.1 h.items).1,(zB.1 h.tabs).1,λc b=>?_⟩;obtain⟨k,hk⟩:=ZR b;have a:=(zB.1 hk).1;obtain⟨x,l,d,_⟩:=h.tab k c _ hk (zA (by rw[<-h.len];exact a))
 exact(zB.1 d).1
theorem fR.mono{bs e:List Box}{p:Nat}{acc:List Ac}{its:List It}{f:Nat->List It}{bi ki t kt:Nat}{cs:List Nat}(h:fR bs p acc its f bi ki t kt cs)(hb:∀b,b=p\/b=bi\/b=t\/b∈cs->e[b]? =bs[b]?):fR e p acc its f bi ki t kt cs:=
 ⟨by rw[hb _ (.inl rfl)];exact h.str,by rw[hb _ (.inr (.inl rfl))];exact h.items,h.le,by rw[hb _ (.inr (.inr (.inl rfl)))];exact h.tabs,h.tle,h.len,h.nod,λk c a d g=>by rw[hb _ (.inr (.inr (.inr (zE d))))];exact h.tab k c a d g⟩
theorem fR.snoc{bs:List Box}{p:Nat}{acc:List Ac}{its:List It}{f:Nat->List It}{bi ki t kt:Nat}{cs:List Nat}(h:fR bs p acc its f bi ki t kt cs)(x:Box):fR (bs++[x]) p acc its f bi ki t kt cs:=
 h.mono λb hb=>by
  obtain⟨e,d,c,a⟩:=h.lt;refine zK ?_;rcases hb with rfl|rfl|rfl|hb
  .exact e
  .exact d
  .exact c
  .exact a _ hb
theorem fR.ne{bs:List Box}{p:Nat}{acc:List Ac}{its:List It}{f:Nat->List It}{bi ki t kt:Nat}{cs:List Nat}(h:fR bs p acc its f bi ki t kt cs){c:Nat}(d:c∈cs):c≠p/\c≠bi/\c≠t:=by
 obtain⟨k,hk⟩:=ZR d;have b:=(zB.1 hk).1;obtain⟨x,l,a,_⟩:=h.tab k c _ hk (zA (by rw[<-h.len];exact b))
 refine⟨λe=>?_,λe=>?_,λe=>?_⟩
 .rw [e,h.str] at a;cases a
 .rw [e,h.items] at a;cases a
 .rw [e,h.tabs] at a;cases a
theorem fR.iu{bs:List Box}{p:Nat}{acc:List Ac}{its:List It}{f g:Nat->List It}{bi ki t kt:Nat}{cs:List Nat}(h:fR bs p acc its f bi ki t kt cs){j c:Nat}{a:Ac}(q:cs[j]? =some c)(z:acc[j]? =some a){x:TB}{l:List TR}(v:kG x l)(w:TabIs a (g j) l)(y:∀k,k≠j->g k=f k):fR (bs.set c (.tab x)) p acc its g bi ki t kt cs:=by
 have m:=zE q;obtain⟨u,s,r⟩:=h.ne m;have o:=h.lt.2.2.2 c m;refine⟨by rw[Ze u];exact h.str,by rw[Ze s];exact h.items,h.le,by rw[Ze r];exact h.tabs,h.tle,h.len,h.nod,λk d B i b=>?_⟩
 by_cases e:k=j
 .subst e;rw[q] at i;rw[z] at b;cases i;cases b;exact⟨x,l,by rw[List.getElem?_set_self o],v,w⟩
 .have n:c≠d:=λA=>by
   subst A;exact e ((List.getElem?_inj (zB.1 i).1 h.nod).1 (i.trans q.symm))
  rw[Ze n,y k e];exact h.tab k d B i b
theorem v8{B:List Box}{c:Nat}{y x:TB}(hb:B[c]? =some (.tab y)){b:Nat}:cellsD (B.set c (.tab x)) b=cellsD B b:=by
 simp only[cellsD,eh (y:=.tab x) hb rfl rfl]
theorem fR.cong{bs:List Box}{p:Nat}{acc:List Ac}{its:List It}{f g:Nat->List It}{bi ki t kt:Nat}{cs:List Nat}(h:fR bs p acc its f bi ki t kt cs)(d:∀k,k<cs.length->f k=g k):fR bs p acc its g bi ki t kt cs:=
 ⟨h.str,h.items,h.le,h.tabs,h.tle,h.len,h.nod,λk c a b e=>by rw[<-d k (zB.1 b).1];exact h.tab k c a b e⟩
theorem Lc(id:Int):Fun Tryz.prog 105 [.sl .no [],.int .i64 id] (.tup [.int .i64 0,.bool false]):=by
 refine Fun.of (fa (by simp) ?_) rfl rfl
 conv=>whnf
 repeat' refine gL (.nil ?_)<;>conv=>whnf
 refine ax.count (fb:=true) 0 (λa v=>a) (λv=>True) trivial ?_ (λv b _=>by omega) (λ_=>?_)
 .exact aN
 .conv=>whnf
  repeat' (first|refine gC (gD (cJ ?_))|refine ag.nrm ?_)<;>conv=>whnf
  all_goals rfl
structure Lv(acc:List Ac)(i:It):Prop where
 io:Tm.ios i.atom.args
 pos:∀c∈acc,c.has i.atom.name i.atom.args=true->Gz c i.atom.args
 len:∀c∈acc,c.has i.atom.name i.atom.args=true->(bP (keyOf c i.atom.args)).length<=100000000
set_option maxHeartbeats 1000000 in
theorem Fi{bs:List Box}{p:Nat}{acc:List Ac}{its:List It}{f:Nat->List It}{bi ki t kt:Nat}{cs:List Nat}{i:It}(h:fR bs p acc its f bi ki t kt cs)(O:∀k,Asc (f k)/\(f k).length<=100000)(he:Lv acc i)(Y:acc.length<=1000000)(hpl:∀c∈acc,c.positions.length<=1000000):
  AM.Sem Tryz.prog 51 [.ptr p 0,i.av] bs λr bs'=>r=.tup []/\fR bs' p acc its (λk=>fL (f k) i) bi ki t kt cs/\bs.length<=bs'.length/\∀b,b<bs.length->b∉cs->bs'[b]? =bs[b]?:=by
 refine lp (by simp) ?_
 conv=>whnf
 try dsimp only
 repeat' (refine gB ?_;first|refine .last ?_|refine .last2 ?_)<;>(conv=>whnf;try dsimp only)
 refine ae.raw H8 ?_;rintro r b4 ⟨rfl,rfl⟩
 conv=>whnf
 try dsimp only
 skip;obtain⟨B4,o⟩:∃B4,B4=bs++[Box.cells [AV.ptr p 0]]++[Box.cells [AV.int IntKind.i64 i.id,AV.str i.atom.name,AV.sl Cap.no (List.map Tm.av i.atom.args)]]++[Box.cells [AV.ptr p 0]]++[Box.cells [AV.str i.atom.name,AV.sl Cap.no (List.map Tm.av i.atom.args)]]:=⟨_,rfl⟩;have T:B4.length=bs.length+4:=by rw[o];simp
 have e0:B4[bs.length]? =some (.cells [.ptr p 0]):=by rw[o];simp
 have e1:B4[bs.length+1]? =some (.cells [AV.int IntKind.i64 i.id,AV.str i.atom.name,AV.sl Cap.no (List.map Tm.av i.atom.args)]):=by rw[o];simp[List.getElem?_append]
 have e2:B4[bs.length+2]? =some (.cells [.ptr p 0]):=by rw[o];simp[List.getElem?_append]
 have e3:B4[bs.length+3]? =some (.cells [AV.str i.atom.name,AV.sl Cap.no (List.map Tm.av i.atom.args)]):=by rw[o];simp[List.getElem?_append]
 have hold:∀b,b<bs.length->B4[b]? =bs[b]?:=λb hb=>by
  rw[o,zg,zg,zg,zK hb]
 have hI:fR B4 p acc its f bi ki t kt cs:=by rw[o];exact(((h.snoc _).snoc _).snoc _).snoc _
 rw[<-o];simp only[zC,zX,ZP,ZI,Zk,Nat.reduceAdd];clear o;refine jl.run (gf:=108) (lb:=[.ptr (bs.length+2) 0,.ptr (bs.length+3) 0]) ⟨[(2,.ptr bs.length 0),(3,.ptr (bs.length+1) 0),(12,.fn (.func 108) [] [.ptr (bs.length+2) 0,.ptr (bs.length+3) 0])],B4,bs.length⟩ ⟨aD.refl _⟩ rfl (by kernel_rfl) λx hx=>?_
 rw[T] at hx|-;obtain⟨J,hJ⟩:∃J:Nat->List Box->Prop,J=λj b=>fR b p acc its (λk=>if k<j then fL (f k) i else f k) bi ki t kt cs/\b[bs.length]? =some (.cells [.ptr p 0])/\b[bs.length+1]? =some (.cells [AV.int IntKind.i64 i.id,AV.str i.atom.name,AV.sl Cap.no (List.map Tm.av i.atom.args)])/\b[bs.length+2]? =some (.cells [.ptr p 0])/\b[bs.length+3]? =some (.cells [AV.str i.atom.name,AV.sl Cap.no (List.map Tm.av i.atom.args)])/\b[bs.length+4]? =some (.loop x)/\∀k,k<bs.length->k∉cs->b[k]? =bs[k]?:=⟨_,rfl⟩
 have hK:Lr (B4++[.loop x]) (bs.length+4) (bs.length+2) (bs.length+3) p acc i.atom.name i.atom.args J:=by
  refine⟨λj b n=>?_,λj b n=>?_,λj b n=>?_,λj b y n=>?_,λj b c n W hh=>?_,λj b c n W hh=>?_⟩
  .rw [hJ] at n;exact n.2.2.2.1
  .rw [hJ] at n;exact n.2.2.2.2.1
  .rw [hJ] at n;exact⟨_,_,n.1.str⟩
  .rw [hJ] at n|-;obtain⟨z,a2,a3,a4,a5,Q,Z⟩:=n;have hlt:=(zB.1 Q).1;refine⟨z.snoc y,?_,?_,?_,?_,?_,λk hk u=>?_⟩
   all_goals rw[zK (by omega)]
   all_goals first|assumption|exact Z k hk u
  .rw [hJ] at n|-;obtain⟨z,a2⟩:=n;refine⟨⟨z.str,z.items,z.le,z.tabs,z.tle,z.len,z.nod,λk d a hd ha=>?_⟩,a2⟩;obtain⟨y,l,h1,h2,I⟩:=z.tab k d a hd ha;refine⟨y,l,h1,h2,?_⟩
   by_cases e:k=j
   .subst e;rw[W] at ha;cases ha;rw[if_neg (Nat.lt_irrefl _)] at I;rw[if_pos (Nat.lt_succ_self _)];exact I.skip (O k).1 hh
   .by_cases e2:k<j
    .rw [if_pos e2] at I;rw[if_pos (by omega)];exact I
    .rw [if_neg e2] at I;rw[if_neg (by omega)];exact I
  .refine hx _ _ _ ?_ rfl ?_
   .rw [hJ] at n;simp[ah,n.2.2.2.2.2.1,Box.lb?]
   rw[hJ] at n;obtain⟨z,a2,a3,a4,a5,Q,Z⟩:=n;have hL:=(zB.1 Q).1;obtain⟨hp1,hp2,hp3,D⟩:=h.lt
   conv=>whnf
   try dsimp only
   skip;refine IV.mk (by simp[ah,Q,Box.lb?]) ?_
   obtain⟨B5,P⟩:∃B5,B5=b.set (bs.length+4) Box.dead:=⟨_,rfl⟩;have k5:∀k,k≠bs.length+4->B5[k]? =b[k]?:=λk hk=>by rw[P,Ze (Ne.symm hk)]
   have l5:B5.length=b.length:=by rw[P,zm]
   have g1:fR B5 p acc its (λk=>if k<j then fL (f k) i else f k) bi ki t kt cs:=z.mono λk hk=>k5 k (by
    rcases hk with rfl|rfl|rfl|hk
    .omega
    .omega
    .omega
    .have:=D k hk;omega)
   have b2:aa B5 bs.length=some [.ptr p 0]:=by simp[aa,k5 _ (show bs.length≠bs.length+4 by omega),a2,Box.cs?]
   have b3:aa B5 (bs.length+1)=some [AV.int IntKind.i64 i.id,AV.str i.atom.name,AV.sl Cap.no (List.map Tm.av i.atom.args)]:=by simp[aa,k5 _ (show bs.length+1≠bs.length+4 by omega),a3,Box.cs?]
   have b4:aa B5 p=some [slA Ac.av acc,.bsl bi its.length ki,.bsl t cs.length kt]:=by simp[aa,g1.str,Box.cs?]
   have hjl:j<cs.length:=by rw[h.len];exact(zB.1 W).1
   rw[<-P];obtain⟨s,A⟩:∃s,cs[j]? =some s:=⟨_,zA hjl⟩;obtain⟨y,l,K,S,R⟩:=g1.tab j s c A W
   conv=>whnf
   try dsimp only
   repeat' (first|refine gN (nS ?_)|refine gB (.of (by assumption) ?_))<;>(conv=>whnf;try dsimp only)
   refine ElN.one (λ_=>⟨rfl,rfl⟩) (l:=cs) (x:=s) g1.tabs (by simpa using A) ?_
   have fin:∀(row t1:Box) (L:TB) (l2:List TR),kG L l2->TabIs c (fL (f j) i) l2->J (j+1) ((((B5++[row]).set s t1).set s (.tab L)).set (bs.length+4) (.loop x)):=λrow t1 L l2 q1 q2=>by
    have V:=zE A;have hcl:=D s V;rw[List.set_set,hJ]
    have old:∀k,k<B5.length->k≠s->k≠bs.length+4->(((B5++[row]).set s (.tab L)).set (bs.length+4) (.loop x))[k]? =b[k]?:=λk h1 h2 I=>by
     rw[Ze (Ne.symm I),Ze (Ne.symm h2),zK h1,k5 k I]
    have g2:fR (((B5++[row]).set s (.tab L)).set (bs.length+4) (.loop x)) p acc its (λk=>if k<j+1 then fL (f k) i else f k) bi ki t kt cs:=by
     refine((g1.snoc row).iu A W q1 (g:=λk=>if k<j+1 then fL (f k) i else f k) (by simpa using q2) λk hk=>?_).mono λk hk=>?_
     .by_cases e:k<j
      .rw [if_pos e,if_pos (by omega)]
      .rw [if_neg e,if_neg (by omega)]
     .refine Ze ?_;rcases hk with rfl|rfl|rfl|hk
      .omega
      .omega
      .omega
      .have:=D k hk;omega
    refine⟨g2,?_,?_,?_,?_,?_,λk hk u=>?_⟩
    .rw [old _ (by omega) (by omega) (by omega)];exact a2
    .rw [old _ (by omega) (by omega) (by omega)];exact a3
    .rw [old _ (by omega) (by omega) (by omega)];exact a4
    .rw [old _ (by omega) (by omega) (by omega)];exact a5
    .rw [List.getElem?_set_self (by simp;omega)]
    .rw [old k (by omega) (λe=>u (e▸V)) (by omega)];exact Z k hk u
   conv=>whnf
   try dsimp only
   skip;have R:TabIs c (f j) l:=by have:=R;rwa [if_neg (Nat.lt_irrefl _)] at this
   refine⟨⟨s,y,l,fS (keyOf c i.atom.args),rfl,K,S,λr hr N=>?_,λhno=>?_⟩⟩
   .have F:=(R.ids r hr).1;have X:r.ids.Pairwise (·<·):=by rw[F];exact Aj (O j).1
    have hrl:r.ids.length<=100000:=by rw[F];exact ZN (Ai _ _ _) (O j).2
    have U:=List.countP_le_length (p:=λx=>decide (x<i.id)) (l:=r.ids)
    conv=>whnf
    try dsimp only
    repeat' refine gB (.of (by assumption) ?_)<;>(conv=>whnf;try dsimp only)
    refine ae.raw (Hu (id:=i.id) K S hr (X.imp λh=>Int.le_of_lt h) (by omega)) ?_
    rintro v b7 ⟨rfl,rfl⟩
    conv=>whnf
    try dsimp only
    repeat' (first|refine gN (nS ?_)|refine gB (.of (by assumption) ?_))<;>(conv=>whnf;try dsimp only)
    refine ElN.one (λ_=>⟨rfl,rfl⟩) (l:=cs) (x:=s) g1.tabs (by simpa using A) ?_
    conv=>whnf
    try dsimp only
    repeat' refine gB (.of (by assumption) ?_)<;>(conv=>whnf;try dsimp only)
    refine qZ.one rH (λ_=>⟨rfl,rfl⟩) (x:=i.id) rfl ?_
    conv=>whnf
    try dsimp only
    repeat' refine gPr (pT ?_)<;>(conv=>whnf;try dsimp only)
    have H:=(zB.1 K).1;refine ae.raw (Hy (b:=s) (vb:=b7.length) (x:=y) (l:=l) (r:=r) (id:=i.id) (by rw[zK H];exact K) S hr (by simp;rfl) U (by omega)) ?_
    rintro v b8 ⟨r',x',rfl,w,m,E,rfl⟩;have G:(b7++[aJ (AV.int IntKind.i64) 1 1 [i.id]])[s]? =some (.tab y):=by rw[zK H];exact K
    conv=>whnf
    refine⟨.inr ?_,?_⟩
    .conv=>whnf
     repeat' first|exact True.intro|refine And.intro (v8 G) ?_
    conv=>whnf
    try dsimp only
    skip;refine⟨⟨s,x',l,r',by rw[w,N];rfl,by rw[List.getElem?_set_self (by simp;omega)],E,λL M=>?_⟩⟩
    conv=>whnf
    try dsimp only
    skip;refine⟨_,aD.refl _,rfl,fin _ _ _ _ M ?_⟩;have B:=BZ (c:=c) (O j).1 hh;have C:r'.ids=sel c r'.key (fL (f j) i):=by rw[m,F,w,N,B]
    refine R.put S.nodK (λk hk=>ug (O j).1 ?_) C ?_
    .rw [w,N] at hk;simp[Ne.symm hk]
    .rw [m];simp[hU]
   .have hse:sel c (fS (keyOf c i.atom.args)) (f j)=[]:=by
     cases hs:sel c (fS (keyOf c i.atom.args)) (f j) with
     |nil=>rfl
     |cons a q=>
      obtain⟨r,hr1,hr2⟩:=R.all (fS (keyOf c i.atom.args)) (by rw[hs];simp)
      exact absurd hr2 (hno r hr1)
    have hbn:=Lc i.id
    conv=>whnf
    try dsimp only
    repeat' (first|refine gF (ae.fn (hbn) ?_)|refine gN (nS ?_)|refine gB (.of (by assumption) ?_))<;>(conv=>whnf;try dsimp only)
    refine ElN.one (λ_=>⟨rfl,rfl⟩) (l:=cs) (x:=s) g1.tabs (by simpa using A) ?_
    conv=>whnf
    try dsimp only
    repeat' refine gB (.of (by assumption) ?_)<;>(conv=>whnf;try dsimp only)
    refine qZ.one rH (λ_=>⟨rfl,rfl⟩) (x:=i.id) rfl ?_
    conv=>whnf
    try dsimp only
    repeat' refine gPr (pT ?_)<;>(conv=>whnf;try dsimp only)
    have H:=(zB.1 K).1;refine ae.raw (y7 (fS (keyOf c i.atom.args)) (b:=s) (vb:=B5.length) (x:=y) (l:=l) (id:=i.id) (by rw[zK H];exact K) S (by simp;rfl)) ?_
    rintro v b8 ⟨r',x',rfl,w,m,E,rfl⟩;have G:(B5++[aJ (AV.int IntKind.i64) 1 1 [i.id]])[s]? =some (.tab y):=by rw[zK H];exact K
    conv=>whnf
    refine⟨.inr ?_,?_⟩
    .conv=>whnf
     repeat' first|exact True.intro|refine And.intro (v8 G) ?_
    conv=>whnf
    try dsimp only
    skip;refine⟨⟨s,x',l,r',by rw[w];rfl,by rw[List.getElem?_set_self (by simp;omega)],E,λL M=>?_⟩⟩
    conv=>whnf
    try dsimp only
    skip;refine⟨_,aD.refl _,rfl,fin _ _ _ _ M ?_⟩;have B:=BZ (c:=c) (O j).1 hh;have C:r'.ids=sel c r'.key (fL (f j) i):=by rw[m,w,B,hse];rfl
    refine R.put S.nodK (λk hk=>ug (O j).1 ?_) C ?_
    .rw [w] at hk;simp[Ne.symm hk]
    .rw [m];simp
 refine⟨_,Fg hK ?_ he.io he.pos he.len Y hpl,?_⟩
 .rw [hJ];refine⟨?_,?_,?_,?_,?_,?_,λk hk u=>?_⟩
  .simpa using hI.snoc _
  all_goals first|(rw[zK (by show _<B4.length;omega)];first|assumption|exact hold k hk)|(rw[<-T];simp)
 .rintro r b5 ⟨rfl,n⟩;rw[hJ] at n;obtain⟨z,a2,a3,a4,a5,Q,Z⟩:=n;refine⟨by simp[ah,Q,Box.lb?],?_⟩
  conv=>whnf
  try dsimp only
  skip;have hL:=(zB.1 Q).1;obtain⟨hp1,hp2,hp3,D⟩:=h.lt;refine⟨_,aD.refl _,.inl ⟨rfl,(z.mono λk hk=>?_).cong λk hk=>?_,by rw[zm];omega,λk hk u=>by rw[Ze (by omega)];exact Z k hk u⟩⟩
  .refine Ze ?_;rcases hk with rfl|rfl|rfl|hk
   .omega
   .omega
   .omega
   .have:=D k hk;omega
  .rw [if_pos (by rw[<-h.len];exact hk)]
end Go.CK
namespace Go.CK
open Go.AM Go.Proofs
structure wH(bs:List Box)(p:Nat)(acc:List Ac)(its:List It)(T:Nat->List TR->Prop)(bi ki t kt:Nat)(cs:List Nat):Prop where
 str:bs[p]? =some (.cells [slA Ac.av acc,.bsl bi its.length ki,.bsl t cs.length kt])
 items:bs[bi]? =some (aJ It.av 3 ki its)
 le:its.length<=ki
 tabs:bs[t]? =some (aJ AV.mpt 1 kt cs)
 tle:cs.length<=kt
 len:cs.length=acc.length
 nod:cs.Nodup
 tab:∀k c,cs[k]? =some c->∃x l,bs[c]? =some (.tab x)/\kG x l/\T k l
section
variable{bs:List Box}{p:Nat}{acc:List Ac}{its:List It}{T:Nat->List TR->Prop}{f:Nat->List It}{bi ki t kt:Nat}{cs:List Nat}
theorem wH.nilG(h:wH bs p acc its T bi ki t kt cs)(d:∀k l,k<cs.length->T k l->l=[]):fR bs p acc its (λ_=>[]) bi ki t kt cs:=
 ⟨h.str,h.items,h.le,h.tabs,h.tle,h.len,h.nod,λk c a b i=>by
  obtain⟨x,l,g,f,e⟩:=h.tab k c b;have:=d k l (zB.1 b).1 e;subst this;exact⟨x,[],g,f,.nil a⟩⟩
theorem wH.ne(h:wH bs p acc its T bi ki t kt cs){c:Nat}(b:c∈cs):c≠p/\c≠bi/\c≠t:=by
 obtain⟨k,hk⟩:=ZR b;obtain⟨x,l,a,_⟩:=h.tab k c hk;refine⟨λe=>?_,λe=>?_,λe=>?_⟩
 .rw [e,h.str] at a;cases a
 .rw [e,h.items] at a;cases a
 .rw [e,h.tabs] at a;cases a
theorem wH.iu{T':Nat->List TR->Prop}(h:wH bs p acc its T bi ki t kt cs){j c:Nat}(b:cs[j]? =some c){x:TB}{l:List TR}(r:kG x l)(s:T' j l)(u:∀k l,k≠j->T k l->T' k l):wH (bs.set c (.tab x)) p acc its T' bi ki t kt cs:=by
 have i:=zE b;obtain⟨q,o,n⟩:=h.ne i;obtain⟨C,D,A,_⟩:=h.tab j c b;have g:=(zB.1 A).1;refine⟨by rw[Ze q];exact h.str,by rw[Ze o];exact h.items,h.le,by rw[Ze n];exact h.tabs,h.tle,h.len,h.nod,λk d a=>?_⟩
 by_cases e:k=j
 .subst e;rw[b] at a;cases a;exact⟨x,l,by rw[List.getElem?_set_self g],r,s⟩
 .have f:c≠d:=λB=>by
   subst B;exact e ((List.getElem?_inj (zB.1 a).1 h.nod).1 (a.trans b.symm))
  rw[Ze f];obtain⟨y,m,z,w,v⟩:=h.tab k d a;exact⟨y,m,z,w,u k m e v⟩
end
theorem AG:Plain It.av 3:=⟨by decide,λ_=>rfl,λx c h=>by
 simp[It.av,AV.cells] at h;rcases h with rfl|rfl|rfl<;>rfl,λx c h=>by
 simp[It.av,AV.cells] at h;rcases h with rfl|rfl|rfl<;>rfl⟩
theorem Fj{l:List It}{i:It}(h:∀x∈l,x.id<i.id):fL l i=l++[i]:=by
 have c:l.filter (λx=>decide (x.id<i.id))=l:=yC.2 λx a=>by simpa using h x a
 have b:l.filter (λx=>!decide (x.id<i.id))=[]:=List.filter_eq_nil_iff.2 λx a=>by simpa using h x a
 rw[fL,c,b]
theorem Le{l:List It}(h:Asc l){j:Nat}{i:It}(b:l[j]? =some i):fL (l.take j) i=l.take (j+1):=by
 rw[ZC,b];refine Fj λx d=>?_;have e:=(zB.1 b).1;obtain⟨k,hk⟩:=ZR d;rw[Za] at hk;split at hk
 .rename_i a;have c:=List.pairwise_iff_getElem.1 h k j (by omega) e a
  rw[(zB.1 b).2,(zB.1 hk).2] at c;exact c
 .cases hk
structure Eg(acc:List Ac)(its:List It):Prop where
 asc:Asc its
 few:its.length<=100000
 ent:∀i∈its,Lv acc i
 accs:acc.length<=1000000
 poss:∀c∈acc,c.positions.length<=1000000
set_option maxHeartbeats 1000000 in
theorem Bf{bs:List Box}{p:Nat}{acc:List Ac}{its:List It}{bi ki t kt:Nat}{cs:List Nat}(h:wH bs p acc its (λ_ _=>True) bi ki t kt cs)(g:Eg acc its):
  AM.Sem Tryz.prog 46 [.ptr p 0] bs λr bs'=>r=.tup []/\fR bs' p acc its (λ_=>its) bi ki t kt cs/\bs.length<=bs'.length/\∀b,b<bs.length->b∉cs->bs'[b]? =bs[b]?:=by
 have M:=h.len;have o:=g.accs;have G:=g.few;have O:aa bs p=some [slA Ac.av acc,.bsl bi its.length ki,.bsl t cs.length kt]:=by simp[aa,h.str,Box.cs?]
 refine jn (by simp) ?_
 conv=>whnf
 try dsimp only
 repeat' refine gB (.of (by assumption) ?_)<;>(conv=>whnf;try dsimp only)
 refine ax.by (fb:=false) (λs (a:Nat×List Box)=>⟨[(0,.ptr p 0),(9,.bsl t cs.length kt),(10,.int .i64 cs.length),(11,.int .i64 (a.1:Int))],a.2,bs.length⟩) (λa=>a.1<=cs.length/\wH a.2 p acc its (λk l=>k<a.1->l=[]) bi ki t kt cs/\bs.length=a.2.length/\∀b,b∉cs->a.2[b]? =bs[b]?) (λa=>cs.length-a.1) (0,bs) ⟨zJ _,⟨h.str,h.items,h.le,h.tabs,h.tle,h.len,h.nod,λk c f=>by
   obtain⟨x,l,S,R,_⟩:=h.tab k c f;exact⟨x,l,S,R,λhk=>absurd hk (Zj _)⟩⟩,rfl,λ_ _=>rfl⟩ ?_ ?_
 .refine al.atS ?_ rfl rfl
  conv=>whnf
  repeat' (first|(refine gV ?_;first|refine vE ?_|refine vI ?_)|exact True.intro)<;>conv=>whnf
 .rintro ⟨j,D⟩ ⟨K,d,F,v⟩;dsimp only at K d F v
  by_cases m:j<cs.length
  .obtain ⟨c,f⟩:∃c,cs[j]? =some c:=⟨_,zA m⟩;have C:=zE f;obtain⟨x,l,y,w,_⟩:=d.tab j c f
   conv=>whnf
   try dsimp only
   repeat' (first|refine gC (gD (cI ?_))|refine gN (nS ?_))<;>(conv=>whnf;try dsimp only)
   refine ElN.one (λ_=>⟨rfl,rfl⟩) (l:=cs) (x:=c) d.tabs (by simpa using f) ?_
   conv=>whnf
   try dsimp only
   skip;refine⟨⟨c,x,rfl,y,w.jB,λH z=>?_⟩⟩
   conv=>whnf
   try dsimp only
   repeat' refine gW (wI ?_)<;>(conv=>whnf;try dsimp only)
   refine⟨(j+1,D.set c (.tab H)),⟨⟨m,d.iu f z (λ_=>rfl) λk l hk A L=>A (by omega),by simpa using F,λb hb=>by
    rw[Ze (λe=>hb (by rw[<-e];exact C))];exact v b hb⟩,by dsimp only;omega⟩,?_⟩
   refine al.atS ?_ rfl rfl
   conv=>whnf
   repeat' (first|(refine gV ?_;first|refine vE ?_|refine vI ?_)|exact True.intro)<;>conv=>whnf
  .obtain rfl:j=cs.length:=by omega
   have P:=d.nilG (λk l hk A=>A hk);have N:aa D p=some [slA Ac.av acc,.bsl bi its.length ki,.bsl t cs.length kt]:=by simp[aa,d.str,Box.cs?]
   conv=>whnf
   try dsimp only
   repeat' (first|refine gC (gD (cJ ?_))|refine gB (.of (by assumption) ?_))<;>(conv=>whnf;try dsimp only)
   refine ax.by (fb:=false) (λs (a:Nat×List Box)=>⟨[(0,.ptr p 0),(20,.bsl bi its.length ki),(21,.int .i64 its.length),(22,.int .i64 (a.1:Int))],a.2,bs.length⟩) (λa=>a.1<=its.length/\fR a.2 p acc its (λ_=>its.take a.1) bi ki t kt cs/\bs.length<=a.2.length/\∀b,b<bs.length->b∉cs->a.2[b]? =bs[b]?) (λa=>its.length-a.1) (0,D) ⟨zJ _,by simpa using P,by dsimp only;omega,λb _ hb=>v b hb⟩ ?_ ?_
   .refine al.atS ?_ rfl rfl
    conv=>whnf
    repeat' (first|(refine gV ?_;first|refine vE ?_|refine vI ?_)|exact True.intro)<;>conv=>whnf
   .rintro ⟨j,U⟩ ⟨J,q,E,u⟩;dsimp only at J q E u
    by_cases m:j<its.length
    .obtain ⟨i,B⟩:∃i,its[j]? =some i:=⟨_,zA m⟩
     conv=>whnf
     try dsimp only
     repeat' (first|refine gC (gD (cI ?_))|refine gN (nS ?_))<;>(conv=>whnf;try dsimp only)
     refine ElN.elem AG (l:=its) (x:=i) q.items (by simpa using B) ?_
     conv=>whnf
     try dsimp only
     repeat' (first|refine gB (.last ?_)|refine jI.last ?_)<;>(conv=>whnf;try dsimp only)
     have Q:=Fi (i:=i) (q.snoc (.cells [.int .i64 i.id,.str i.atom.name,.sl .no (i.atom.args.map Tm.av)])) (λk=>⟨(g.asc.sublist (List.take_sublist _ _)),by rw[zn];omega⟩) (g.ent i (zE B)) o g.poss
     refine ae.raw Q ?_;rintro r T ⟨rfl,s1,s2,I⟩
     conv=>whnf
     try dsimp only
     repeat' refine gW (wI ?_)<;>(conv=>whnf;try dsimp only)
     refine⟨(j+1,T),⟨⟨m,?_,?_,λb hb n=>?_⟩,by dsimp only;omega⟩,?_⟩
     .have:=s1;simp only[Le g.asc B] at this;exact this
     .simp at s2;dsimp only;omega
     .rw [I b (by simp;omega) n,zK (by omega)];exact u b hb n
     refine al.atS ?_ rfl rfl
     conv=>whnf
     repeat' (first|(refine gV ?_;first|refine vE ?_|refine vI ?_)|exact True.intro)<;>conv=>whnf
    .obtain rfl:j=its.length:=by omega
     conv=>whnf
     try dsimp only
     repeat' refine gC (gD (cJ ?_))<;>(conv=>whnf;try dsimp only)
     refine⟨_,aD.refl _,.inl ⟨rfl,by simpa using q,E,u⟩⟩
end Go.CK
namespace Go.CK
open Go.AM Go.Proofs
variable{ab:List AV}{bs:List Box}{Q:AV->List Box->Prop}
def jN:RC:=
 (.seq (rR [0] [oQ 2 (.mov (.c (.bool false)))]) (.seq (.seq (rR [0,6] [qM 4 0,oQ 5 (.len false 4),oQ 6 (.bin .gtr 5 (.c (.int .i64 500)))]) (.cond 6 (.seq (rR [2] [oQ 2 (.mov (.c (.bool false)))]) .ret) .skip)) (.seq (.seq (rR [0,3] [oQ 3 (.mov (.c (.int .i64 0)))]) (.block 0 (.loop (.seq (.seq (rR [0,3,10] [qM 7 3,qM 8 0,oQ 9 (.len false 8),oQ 10 (.bin .lss 7 9)]) (.cond 10 .skip (.exit 0))) (.seq (.block 1 (.seq (.reg true [0,3,45] [qM 13 0,qM 14 3,qI 15 3 13 14,qF 16 0 15,qL 17 16,oQ 18 (.bin .lss 17 (.c (.int .i64 1))),qM 19 18,oG 20 19 false (.mov 3),oG 21 19 false (.bin .gtr 20 (.c (.int .i64 0))),oG 22 19 false (.mov 21),oG 23 22 true (.mov 0),oG 24 22 true (.mov 3),oG 25 22 true (.bin .sub 24 (.c (.int .i64 1))),oG 26 22 true (.idx 3 23 25),oG 27 22 true (.aL 0 26),oG 28 22 true (.load false 1 27),oG 29 22 true (.mov 0),oG 30 22 true (.mov 3),oG 31 22 true (.idx 3 29 30),oG 32 22 true (.aL 0 31),oG 33 22 true (.load false 1 32),oG 34 22 true (.bin .geq 28 33),oG 35 19 false (.pick 22 34 (.c (.bool false))),oQ 36 (.pick 19 (.c (.bool true)) 35),qM 37 36,oG 38 37 false (.mov 0),oG 39 37 false (.mov 3),oG 40 37 false (.idx 3 38 39),oG 41 37 false (.aL 1 40),oG 42 37 false (.load true 2 41),oG 43 37 false (cF 75 [42]),oG 44 37 false (.un .not 43),oQ 45 (.pick 37 (.c (.bool true)) 44)])
 (.cond 45 (.seq (rR [2] [oQ 2 (.mov (.c (.bool false)))]) .ret) .skip))) (rR [0,3] [qM 11 3,oQ 12 (.bin .add 11 (.c (.int .i64 1))),qM 3 12])))))) (.seq (rR [2] [oQ 2 (.mov (.c (.bool true)))]) .ret))))
theorem dI(hn:ab.length<=46)(h:SP Tryz.prog true ab bs jN [.slot 2] Q):AM.Sem Tryz.prog 26 ab bs Q:=
 oZ (keeps:=[(0,[0]),(1,[0,6]),(2,[2]),(3,[0,3]),(4,[0,3,10]),(6,[0,3,45]),(7,[2]),(5,[0,3]),(8,[2])]) (solo:=[]) Tryz.func26 rfl hn h
end Go.CK
namespace Go.CK
open Go.AM Go.Proofs
def stB:Int->List It->Bool
 |_,[]=>true
 |last,i::l=>decide (last<i.id)&&(i.atom.right&&stB i.id l)
def cC(l:List It):Bool:=decide (l.length<=500)&&stB 0 l
def lA(l:List It)(j:Nat):Int:=match j with
 |0=>0
 |j+1=>match l[j]? with
  |some i=>i.id
  |none=>0
theorem Er{l:List It}(m:l.length<=10000000)(k:∀i∈l,i.atom.args.length<=10000000):Fun Tryz.prog 40 [slA It.av l] (.bool (cC l)):=by
 unfold cC
 by_cases f:l.length<=500
 .rw [decide_eq_true f,za];refine Fun.of (nw (by simp) ?_) rfl rfl
  conv=>whnf
  repeat' (first|refine gC (gD (cJ ?_))|refine gL (.map ?_))<;>conv=>whnf
  refine ax.count (fb:=true) (l.length) (λb j=>b.bD [(3,.int .i64 (lA l j)),(11,.int .i64 j)]) (λj=>stB 0 l=stB (lA l j) (l.drop j)) ?_ ?_ (λj e a=>?_) (λa=>?_)
  .rfl
  .refine al.at_ ?_ rfl
   conv=>whnf
   refine And.intro ?_ ?_<;>conv=>whnf
   all_goals repeat' (first|(refine gV ?_;first|refine vE ?_|refine vI ?_|(refine WkN.norm ?_ ?_;(focus (simp[AV.norm,AV.ay,lA];done))))|exact True.intro)<;>conv=>whnf
  .obtain ⟨y,c⟩:∃y,l[j]? =some y:=⟨_,zA e⟩;rw[zH e,(zB.1 c).2,stB] at a;have d:lA l (j+1)=y.id:=by simp[lA,c]
   have hr:=BF y.atom (by have:=k y (zE c);omega)
   generalize lA l j=h at*
   by_cases g:h<y.id
   .rw [decide_eq_true g,za] at a
    cases hb:y.atom.right with
    |true=>
     rw[hb] at hr;rw[hb,za] at a
     conv=>whnf
     repeat' (first|refine gF (ae.fn (hr) ?_)|(refine gC ?_;first|refine cY ?_|refine .not ?_|(refine gD ?_;first|refine cI ?_|refine cJ ?_))|refine gW (wI ?_)|refine gI (gM (iE ?_)))<;>conv=>whnf
     refine⟨by rw[d];exact a,?_⟩
     refine al.atC 0 ?_ rfl rfl rfl rfl (by first|rfl|(repeat' (first|rfl|refine ao (row_allI _ _ _) ?_|refine ao (az _ _ _) ?_|refine bLtMp ?_|refine aE ?_|refine bLtCells rfl ?_)))
     conv=>whnf
     refine And.intro ?_ ?_<;>conv=>whnf
     all_goals repeat' (first|(refine gV ?_;first|refine vE ?_|refine vI ?_)|exact True.intro)<;>conv=>whnf
    |false=>
     rw[hb] at hr;rw[hb,zw] at a;rw[a]
     conv=>whnf
     repeat' (first|refine gF (ae.fn (hr) ?_)|(refine gC ?_;first|refine cN ?_|refine .not ?_|(refine gD ?_;first|refine cI ?_|refine cJ ?_))|refine gI (gM (iE ?_))|refine ag.nrm ?_)<;>conv=>whnf
     all_goals rfl
   .rw [decide_eq_false g,zw] at a;rw[a]
    conv=>whnf
    repeat' (first|(refine gC ?_;first|refine cY ?_|refine gD (cI ?_))|refine gI (gM (iE ?_))|refine ag.nrm ?_)<;>conv=>whnf
    all_goals rfl
  .rw [zj,stB] at a;rw[a]
   conv=>whnf
   repeat' (first|refine gC (gD (cJ ?_))|refine ag.nrm ?_)<;>conv=>whnf
   all_goals rfl
 .rw [decide_eq_false f];refine Fun.of (nw (by simp) ?_) rfl rfl
  conv=>whnf
  repeat' (first|refine gC (gD (cI ?_))|refine gL (.map ?_)|refine ag.nrm ?_)<;>conv=>whnf
  all_goals rfl
end Go.CK
