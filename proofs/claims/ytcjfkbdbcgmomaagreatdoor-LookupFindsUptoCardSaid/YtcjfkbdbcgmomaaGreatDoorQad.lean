/-
  By an AI agent.
-/
import Derived.Test.YtcjfkbdbcgmomaaGreatDoorQac
set_option linter.unusedSimpArgs false
set_option linter.unusedVariables false
namespace Go.AM
open Go.CK Go.RowKit
section
variable{E:Entry}{G:Gh}{s:St}{a:Act}{w:World}{P:Program}
def Room(E:Entry)(G:Gh)(s:St)(w:World)(a:Option Addr)(z n k:Nat):Prop:=k=n\/∃B p,a=some ⟨B,0,none⟩/\He E G s w B z n k p
theorem DU(h:RS E G s a w){t e z:Nat}(he:On P t e z){l xs:List AV}{v vx:Value}{I Z:Option Addr}{k B off c Bx K:Nat}(r:SV G.M l z v I k B off)(R:SV G.M xs z vx Z c Bx K)
  (hlen:l.length+xs.length<=lim) (C:Room E G s w I z l.length k) (ty:TypeId):
  ∃v' G' w',(Builtin.append_ #[t,t] ty #[v,vx]).run P w=.ok v' w'/\RS E G' s a w'/\∃Q k' B' L,SV G'.M (l++xs) z v' Q k' B' L/\Room E G' s w' Q z (l++xs).length k':=by
 obtain⟨i,zv,hi,hz,V,S,hb⟩:=he.ex;obtain⟨us,y,u2,u3⟩:=r.row h.ok;obtain⟨d,x,x2,x3⟩:=R.row h.ok;have U:=kF (P:=P) he.sl hi hz V rfl ty I l.length k Z xs.length c w hlen hb;rw[r.eq,R.eq,U];have g:∀(q:List AV),q.length≠0->q≠[]:=λq W e=>W (by simp[e])
 by_cases f:l.length+xs.length<=k
 .rw [if_pos f,bB (P:=P) w x.1 (λF=>R.at_ (g _ F)) x3];simp only[yV];rcases C with rfl|⟨B1,p,rfl,hs⟩
  .have T:xs=[]:=ZV.1 (by omega)
   subst T;have:d=[]:=ZV.1 (by rw[x.1];simp)
   subst this;refine⟨.slice I l.length l.length,G,w,?_,h,I,l.length,B,off,?_,.inl (by simp)⟩
   .cases I<;>simp[storeCells]
   .rw [zy];exact⟨rfl,r.cap,r.len,r.at_,r.el⟩
  .have hB:l≠[]->B=B1/\off=0:=λF=>by
    have:=r.at_ F;simp only[zN,Addr.mk.injEq,and_true] at this;exact⟨this.1.symm,this.2.symm⟩
   obtain⟨w',r1,r2,r3,r4⟩:=h.fill (P:=P) hs d x.1 f x2;have A:G.M.le (bm G.M B1 (l.length*z) d):=dn hs.row.free;refine⟨_,_,w',?_,r2,some ⟨B1,0,none⟩,k,B1,0,⟨by rw[zC],by simpa using f,by simpa using hlen,λ_=>rfl,?_⟩,?_⟩
   .simp only;rw[bS,ZI,r1];rfl
   .refine (y.append x).elems A λj u n=>?_
    by_cases m:j<us.length
    .rw [zK m] at n;have Y:l≠[]:=λe=>by subst e;rw[y.1] at m;simp at m
     obtain⟨rfl,rfl⟩:=hB Y;refine A _ _ _ ?_;obtain⟨J,y1,y2⟩:=r.el.rowOf;have X:J.length=us.length:=by rw[y1.1,y.1]
     have N:=y2 j (J[j]'(by omega)) (zA _)
     have h8:=u3 j u n;have h9:=h.ok _ _ _ N;simp only[Hp.of] at h9;rw[h9] at h8;rw[N,h8]
    .rw [zZ (by omega)] at n
     have:j=l.length*z+(j-us.length):=by rw[<-y.1];omega
     rw[ZI,this];exact fP n
   .by_cases D:l.length+xs.length<k
    .exact .inr ⟨B1,p,rfl,by rw[zC];exact r4 D⟩
    .exact .inl (by rw[zC];omega)
 .rw [if_neg f];have hg:=grownCap_ge w (l.length+xs.length) k e;rw[bB (P:=P) w.drew y.1 (λF=>r.at_ (g _ F)) (by simpa using u3)]
  simp only[yV];rw[bB (P:=P) w.drew x.1 (λF=>R.at_ (g _ F)) (by simpa using x3)]
  simp only[yV];have O:RS E G s a w.drew:=h.drew
  have hvs:(us.toArray++d.toArray++Builtin.zeroCells zv.cells (grownCap w (l.length+xs.length) k e-(l.length+xs.length))).size=grownCap w (l.length+xs.length) k e*z:=by
   have H:=y.1;have h2:=x.1;simp only[Array.size_append,List.size_toArray,size_zeroCells,S,H,h2,<-ZL];congr 1;omega
  have hr:=O.newRow (us.toArray++d.toArray++Builtin.zeroCells zv.cells (grownCap w (l.length+xs.length) k e-(l.length+xs.length))) e (us++d) (λj u n=>by
   have m:j<(us++d).length:=by
    rcases zt j (us++d).length with H|H
    .exact H
    .rw [zR H] at n;cases n
   show ((us.toArray++d.toArray)++Builtin.zeroCells zv.cells _)[j]? =some u;rw[Array.getElem?_append_left (by simpa using m)]
   simpa using n)
  refine⟨_,_,_,rfl,hr,some ⟨w.drew.heap.size,0,none⟩,_,w.drew.heap.size,0,⟨by rw[zC],by simpa using hg,by simpa using hlen,λ_=>rfl,?_⟩,?_⟩
  .exact (y.append x).elems (dn λo _=>O.noM o) λj u n=>fP n
  .by_cases D:l.length+xs.length<grownCap w (l.length+xs.length) k e
   .refine .inr ⟨w.drew.heap.size,.bx s.bs.length 0,rfl,⟨⟨by rw[zC];exact D,⟨_,e,heap_alloc_new _ _,hvs⟩,λo ho=>?_,.inr h.fr.size⟩,λq W=>?_,λb cs hb e=>?_,by simp,λz l e=>?_,λb j e=>by cases e;simp[ah]⟩⟩
    .simp only[bm]
     rw[if_neg (λe=>by
      have H:=e.2.2;have h2:=(y.append x).1;omega)]
     exact O.noM o
    .exact absurd (O.cllt q _ W).1 (by omega)
    .exact absurd (O.blt hb) (by have e':G.σ b=w.drew.heap.size:=e;omega)
    .simp [St.at,aa] at e
   .exact .inl (by rw[zC];omega)
theorem pI:∀(e:List (Nat×AV)) (k:Nat) (x y:AV),aT (aT e k x) k y=aT e k y
 |[],k,x,y=>by simp[aT]
 |(t,u)::r,k,x,y=>by
  simp only[aT]
  cases b:Nat.beq t k with
  |true=>
   have h:Nat.beq k k=true:=by simp
   simp only[aT,h]
  |false=>
   cases a:Nat.blt k t with
   |true=>
    have h:Nat.beq k k=true:=by simp
    simp only[aT,h]
   |false=>
    simp only[aT,b,a];rw[pI r k x y]
theorem St.Gy(s:St)(k:Nat)(x y:AV):(s.put (some k) x).upd (.sl k) y=s.put (some k) y:=by
 simp[St.put,St.upd,pI]
theorem RS.EH(h:RS E G s a w){d:Nat}(m:d<E.nt){l:List AV}{z:Nat}{v:Value}{u:Option Addr}{k B off:Nat}(g:SV G.M l z v u k B off)(b:Room E G s w u z l.length k):
  ∃G',RS E G' (s.put (some d) (.sl (.own z) l)) (a.put (some d) v) w:=by
 have t:∀y∈l,y.cells.length=z:=λy x=>by
  obtain⟨i,A,rfl⟩:=ZZ.1 x;exact(g.el i A).1
 have j:d<a.tmps.size:=by rw[h.nt];exact m
 rcases b with hk|⟨B1,p,q,hs⟩
 .have r:=h.put m (g.rv (σ:=G.σ) (n:=s.bs.length) (o:=.full) (by simp) (λ_=>hk))
  have c:(s.put (some d) (.sl .full l)).at (.sl d)=some (.sl .full l):=by rw[St.dY,if_pos rfl]
  have f:=r.nZ c t;rw[St.Gy] at f;exact⟨G,f⟩
 .have r:=h.put m (g.rv (σ:=G.σ) (n:=s.bs.length) (o:=.no) (by simp) (by simp))
  have c:(s.put (some d) (.sl .no l)).at (.sl d)=some (.sl .no l):=by rw[St.dY,if_pos rfl]
  have f:=r.Nz (p:=p) c (by rw[cT a w d v _ j,if_pos rfl,g.eq,q]) ⟨hs.row,hs.only,hs.box,hs.lt,λC l' e=>by
   rw[St.dY] at e
   by_cases hp:p=.sl d
   .rw [if_pos hp] at e;cases e
   .rw [if_neg hp] at e;exact hs.not _ _ e,hs.nl⟩ t
  rw[St.Gy] at f;exact⟨_,f⟩
end
theorem kC(P:Program)(ρ:Operand->Value)(o:Oper){b:Builtin}{x y:Operand}{ts:Array TypeId}(a:o.op=.call {callee:=.builtin b,args:=#[x,y],argTypes:=ts})(hb:b=.append\/b=.copy\/b=.delete)(w:World):
  (execOp ρ o).run P w=((match b with|.append=>Builtin.append_ ts o.type #[ρ x,ρ y]|.copy=>Builtin.copy_ ts o.type #[ρ x,ρ y]|_=>Builtin.delete_ ts o.type #[ρ x,ρ y]:Sem Value).run P w).andThen λv w'=>.ok (.value v) w':=by
 unfold execOp;rcases hb with rfl|rfl|rfl<;>simp[a,resolve,invoke,builtin]
def fy(z:Nat)(s:St)(o:Opd)(x:AV)(K:AV->St->Prop):Prop:=
 match x with
 |.sl _ xs=>match o with
  |.t t=>match s.get t with
   |.sl (.own a) l=>req (Nat.beq z a) (((∀y∈xs,y.cells.length=z)/\l.length+xs.length<=lim)/\K (.sl (.own z) (l++xs)) (s.put (some t) (.sl .no l)))
   |.sl .full l=>((∀y∈l++xs,y.cells.length=z)/\l.length+xs.length<=lim)/\K (.sl (.own z) (l++xs)) s
   |_=>False
  |.c (.sl .full l)=>((∀y∈l++xs,y.cells.length=z)/\l.length+xs.length<=lim)/\K (.sl (.own z) (l++xs)) s
  |_=>False
 |_=>False
theorem wy{P:Program}{s s1:St}{o:Oper}{x y:Operand}{t e z d:Nat}(I:o.op=.call {callee:=.builtin .append,args:=#[x,y],argTypes:=#[t,t]})(f:o.dst=some d)(he:On P t e z){l xs:List AV}{J:Cap}
  {C:Opd} (L:opd y=some C) (u:s.ev C=.sl J xs) (r:∀y∈xs,y.cells.length=z) (hlen:l.length+xs.length<=lim) {K:St->Prop} (O:K (s1.put (some d) (.sl (.own z) (l++xs))))
  (m:∀E G a w,RS E G s a w->∃G1,RS E G1 s1 a w/\G1.M=G.M/\G1.σ=G.σ/\∃A k B off,SV G.M l z (a.eval x) A k B off/\Room E G1 s1 w A z l.length k):OpS P o s K:=by
 intro E G a w rd n next Q hs q h
 obtain⟨G1,T,N,W,A,k,B,off,H,g⟩:=m E G a w hs;have i:=hs.ev L;rw[u] at i;obtain⟨V,c,Bx,D,j⟩:=i.sv r;rw[<-N] at H j;obtain⟨v',G',w',p,S,U,k',B',F,v,b⟩:=DU (P:=P) T he H j hlen g o.type;obtain⟨G2,R⟩:=S.EH (q d f) v b;refine⟨λ_ _=>trivial,?_⟩;rw[Oper.semAt_eq _ _ _ (λc e=>by rw[I] at e;cases e),kC P _ o I (.inl rfl)]
 simp only[p,yV];show next (a.put o.dst v') w'
 rw[f];exact h _ G2 _ w' O R rfl
theorem BA{P:Program}{s:St}{o:Oper}{x y:Operand}{t e z d:Nat}(W:o.op=.call {callee:=.builtin .append,args:=#[x,y],argTypes:=#[t,t]})(m:o.dst=some d)(he:On P t e z)
  {rx V:Opd} (p:opd x=some rx) (D:opd y=some V) {K:St->Prop} (h:fy z s rx (s.ev V) λr Y=>K (Y.put o.dst r)):OpS P o s K:=by
 rw[m] at h;unfold fy at h;split at h
 .rename_i oy xs F
  have i:∀l,s.ev rx=.sl .full l->(∀y∈l++xs,y.cells.length=z)->l.length+xs.length<=lim->K (s.put (some d) (.sl (.own z) (l++xs)))->OpS P o s K:=λl Z J hlen hK=>by
   refine wy W m he D F (λy D=>J y (ZU _ D)) hlen hK λE G a w hs=>⟨G,hs,rfl,rfl,?_⟩;have n:=hs.ev p;rw[Z] at n;obtain⟨U,k,B,off,c⟩:=n.sv (λy D=>J y (ZB _ D));refine⟨U,k,B,off,c,.inl ?_⟩;obtain⟨T,k2,_,_,_,M,_,_,_,S,_⟩:=n.cX;rw[c.eq] at M;cases M;exact S rfl
  split at h
  .rename_i t0;split at h
   .rename_i X l O;obtain⟨M,⟨S,h3⟩,h4⟩:=af.1 h;have N:=zO M;subst N;refine wy W m he D F S h3 h4 λE G a w hs=>?_
    have C:s.at (.sl t0)=some (.sl (.own z) l):=by
     have:=O;rw[St.get_at] at this
     cases L:s.at (.sl t0) with
     |none=>rw[L] at this;cases this
     |some q=>rw[L] at this;simp at this;rw[this]
    have Q:a.eval x=aw G.σ a w (.sl t0):=by
     cases x with
     |tmp t=>cases p;rfl
     |const v=>
      simp only[opd] at p
      cases n:cO v with
      |none=>rw[n] at p;cases p
      |some x=>rw[n] at p;cases p
     |func f=>cases p
     |global g=>cases p
    have n:=hs.val _ _ C;simp only[AV.aI] at n;obtain⟨U,k,H,J,u⟩:=hs.own _ _ _ C;have h5:RS E G (s.put (some t0) (.sl .no l)) a w:=hs.upd (q:=.sl t0) C n;refine⟨G,h5,rfl,rfl,?_⟩;rw[Q];obtain⟨T,k2,B,off,c⟩:=n.sv J;have:=c.eq;rw[H] at this;cases this;refine⟨U,k,B,off,c,?_⟩;rcases u with u|⟨B1,A,R,I⟩
    .exact .inl u
    .refine .inr ⟨B1,.sl t0,R,⟨I,λq L=>hs.clinj q _ B1 L A,λb cs hb=>hs.clbox _ B1 A b cs hb,(hs.cllt _ B1 A).1,λX l' e=>?_,λb j e=>by cases e⟩⟩
     rw[St.dY,if_pos rfl] at e;cases e
   .rename_i l O;exact i l (by simp[St.ev,O,AV.aI]) h.1.1 h.1.2 h.2
   .exact h.elim
  .rename_i l;exact i l rfl h.1.1 h.1.2 h.2
  .exact h.elim
 .exact h.elim
end Go.AM
namespace Go.AM
open Go.CK Go.RowKit
section
variable{P:Program}{s:St}{o:Oper}{K:St->Prop}
def tv(s:St)(d:Option Nat)(o:Opd)(K:St->Prop):Prop:=
 match o with
 |.c x=>K (s.put d x)
 |.t t=>match s.get t with
  |.sl (.own z) l=>match d with
   |some d=>req (!(Nat.beq d t)) (K (((s.put (some d) (.sl .no l)).put (some t) (.sl .no l)).put (some d) (.sl (.own z) l)))
   |none=>False
  |x=>K (s.put d x)
theorem Bj{t z:Nat}{l:List AV}(a:s.get t=.sl (.own z) l):s.at (.sl t)=some (.sl (.own z) l):=by
 rw[St.get_at] at a
 cases b:s.at (.sl t) with
 |none=>rw[b] at a;cases a
 |some q=>rw[b] at a;simp at a;rw[a]
theorem xQ{x:Operand}(j:o.op=.move x\/o.op=.assign x){rx:Opd}(r:opd x=some rx)(h:tv s o.dst rx K):OpS P o s K:=by
 have L:∀c,o.op≠.defer c:=λc e=>by rcases j with j|j<;>(rw[j] at e;cases e)
 have i:∀a w,(execOp (Act.eval a) o).run P w=.ok (.value (a.eval x)) w:=λa w=>by
  unfold execOp;rcases j with j|j<;>simp[j]
 have fin:∀y,s.ev rx=y->K (s.put o.dst y)->OpS P o s K:=λy M J=>OpS.pure y L J λE G a w hs=>⟨_,i a w,by rw[<-M];exact hs.ev r⟩
 unfold tv at h;split at h
 .exact fin _ rfl h
 .rename_i t;split at h
  .rename_i z l O;split at h
   .rename_i d m;obtain⟨b,J⟩:=af.1 h;have b:d≠t:=λe=>by subst e;simp at b
    intro E G a w rd n next Q hs B u
    have F:=Bj O
    have I:a.eval x=aw G.σ a w (.sl t):=by
     cases x with
     |tmp t=>cases r;rfl
     |const v=>
      simp only[opd] at r
      cases H:cO v<;>(rw[H] at r;cases r)
     |func f=>cases r
     |global g=>cases r
    have H:=hs.val _ _ F;simp only[AV.aI] at H;have C:=B d m;have D:d<a.tmps.size:=by rw[hs.nt];exact C
    have S:=hs.put (k:=d) C H;have hp:(s.put (some d) (.sl .no l)).at (.sl t)=some (.sl (.own z) l):=by rw[St.dY,if_neg (by simpa using Ne.symm b)];exact F
    have N:(s.put (some d) (.sl .no l)).at (.sl d)=some (.sl .no l):=by rw[St.dY,if_pos rfl]
    have R:=S.move (p:=.sl t) (q:=.sl d) (by simpa using Ne.symm b) hp N (by rw[cT a w d _ _ D,cT a w d _ _ D,if_pos rfl,if_neg (by simpa using Ne.symm b)])
    refine⟨λ_ _=>trivial,?_⟩;rw[Oper.semAt_eq _ _ _ L,i];show next (a.put o.dst (a.eval x)) w
    rw[m,I];exact u _ _ _ w J R rfl
   .exact h.elim
  .rename_i A;refine fin _ ?_ h;show (s.get t).aI=_;generalize s.get t=g at*
   cases g with
   |sl c l=>cases c with
    |own z=>exact absurd rfl (A z l)
    |_=>rfl
   |_=>rfl
def xJ(c x y:AV)(K:AV->Prop):Prop:=
 match c with
 |.bool b=>(b=true->K x)/\(b=false->K y)
 |_=>False
theorem EJ{c x y:Operand}(f:o.op=.pick c x y){rc rx g:Opd}(l:opd c=some rc)(k:opd x=some rx)(j:opd y=some g)(h:xJ (s.ev rc) (s.ev rx) (s.ev g) λr=>K (s.put o.dst r)):OpS P o s K:=by
 have i:∀c,o.op≠.defer c:=λc e=>by rw[f] at e;cases e
 unfold xJ at h;split at h
 .rename_i b hb
  have d:∀E G a w,RS E G s a w->a.eval c=.bool b:=λE G a w hs=>by
   have:=hs.ev l;rw[hb] at this;exact this.cS
  cases b with
  |true=>exact OpS.pure _ i (h.1 rfl) λE G a w hs=>⟨a.eval x,by unfold execOp;simp[f,d E G a w hs,asBool],hs.ev k⟩
  |false=>exact OpS.pure _ i (h.2 rfl) λE G a w hs=>⟨a.eval y,by unfold execOp;simp[f,d E G a w hs,asBool],hs.ev j⟩
 .exact h.elim
def u7(x:AV)(K:AV->Prop):Prop:=
 match x with
 |.ptr b off=>K (.ptr b off)
 |.ept cs=>K (.ept cs)
 |.fn (.func f) xs ys=>K (.fn (.func f) xs ys)
 |.elp b i z off=>K (.elp b i z off)
 |_=>False
theorem CH{x:Operand}(g:o.op=.nilCheck x){rx:Opd}(d:opd x=some rx)(h:u7 (s.ev rx) λr=>K (s.put o.dst r)):OpS P o s K:=by
 have j:∀c,o.op≠.defer c:=λc e=>by rw[g] at e;cases e
 unfold u7 at h;split at h
 .rename_i b off he;refine OpS.pure _ j h λE G a w hs=>⟨a.eval x,?_,by rw[<-he];exact hs.ev d⟩
  have:=hs.ev d;rw[he] at this;unfold execOp;simp[g,this.hR.1]
 .rename_i cs he;refine OpS.pure _ j h λE G a w hs=>⟨a.eval x,?_,by rw[<-he];exact hs.ev d⟩
  have:=hs.ev d;rw[he] at this;obtain⟨B,off,k,_⟩:=this.qH;unfold execOp;simp[g,k]
 .rename_i f xs ys he;refine OpS.pure _ j h λE G a w hs=>⟨a.eval x,?_,by rw[<-he];exact hs.ev d⟩
  have:=hs.ev d;rw[he] at this;obtain⟨us,vs,k,_⟩:=this.rZ;unfold execOp;simp[g,k]
 .rename_i b i z off he;refine OpS.pure _ j h λE G a w hs=>⟨a.eval x,?_,by rw[<-he];exact hs.ev d⟩
  have:=hs.ev d;rw[he] at this;unfold execOp;simp[g,this.qJ.1]
 .exact h.elim
def tH(off:Nat):AV->AV
 |.ptr b f=>.ptr b (f+off)
 |.ept cs=>.ept (cs.drop off)
 |.elp b i z f=>.elp b i z (f+off)
 |x=>x
def C1:AV->Bool
 |.ptr .. |.ept _|.elp .. =>true
 |_=>false
theorem vg{M:Hp}{σ:Nat->Nat}{n off:Nat}{x:AV}{v:Value}(a:RV M σ n x v)(h:C1 x=true):∃B f,v=.pointer (some ⟨B,f,none⟩)/\RV M σ n (tH off x) (.pointer (some ⟨B,f+off,none⟩)):=by
 cases x<;>first|(simp[C1] at h;done)|skip
 case ptr b f=>
  obtain⟨rfl,hb⟩:=a.hR;exact⟨_,_,rfl,.ptr _ _ hb⟩
 case ept cs=>
  obtain⟨B,f,rfl,c⟩:=a.qH;exact⟨_,_,rfl,.ept _ _ _ (c.drop off)⟩
 case elp b i z f=>
  obtain⟨rfl,hb⟩:=a.qJ;exact⟨_,_,rfl,by rw[Zk];exact .elp _ _ _ _ hb⟩
def MW(off:Nat)(x:AV)(K:AV->Prop):Prop:=req (C1 x) (K (tH off x))
theorem FC{x:Operand}{t f:Nat}(d:o.op=.fieldAddr t x f){rx:Opd}(g:opd x=some rx){fs:Array Field}{fd:Field}{k:Nat}(j:P.underlying t=some (.struct fs))(l:fs[f]? =some fd)(hk:dB P fd.type=some k)(b:k≠0)
  (h:MW fd.offset (s.ev rx) λr=>K (s.put o.dst r)):OpS P o s K:=by
 have m:∀c,o.op≠.defer c:=λc e=>by rw[d] at e;cases e
 obtain⟨p,n⟩:=af.1 h;refine OpS.pure _ m n λE G a w hs=>?_;obtain⟨B,q,i,hr⟩:=vg (off:=fd.offset) (hs.ev g) p;refine⟨_,?_,hr⟩;unfold execOp;simp[d,Instr.fieldAt,run_underlying j,l,i,Instr.sureAddr,fieldPlace,aR hk,b,bS]
def Ib(sz:Nat)(x i:AV)(K:AV->Prop):Prop:=
 match x,i with
 |.sl _ l,.int _ n=>∃y,(0<=n/\l[n.toNat]? =some y/\y.cells.length=sz)/\K (.ept y.cells)
 |.bsl b m _,.int _ n=>(0<=n/\n<m)/\K (.elp b n.toNat sz 0)
 |_,_=>False
theorem Ia{x i:Operand}{t e:Nat}(z:o.op=.indexAddr t x i){rx H:Opd}(I:opd x=some rx)(L:opd i=some H){sz:Nat}(J:P.underlying t=some (.slice e))(v:dB P e=some sz)
  (h:Ib sz (s.ev rx) (s.ev H) λr=>K (s.put o.dst r)):OpS P o s K:=by
 have M:∀c,o.op≠.defer c:=λc e=>by rw[z] at e;cases e
 unfold Ib at h;split at h
 .rename_i U l k n j q;obtain⟨y,⟨X,u,Q⟩,C⟩:=h;refine OpS.pure _ M C λE G a w hs=>?_;have f:=hs.ev I;rw[j] at f;have d:=hs.ev L;rw[q] at d;have d:=d.aK;obtain⟨T,cap,B,off,O,F,_,W,V,_,S,R⟩:=f.cX
  have p:n.toNat<l.length:=by
   rcases zt n.toNat l.length with D|D
   .exact D
   .rw [zR D] at u;cases u
  rw[zA p] at u;simp only[zN] at u;obtain⟨N,a2⟩:=R _ p;rw[u] at N a2;have g:=S (λe=>by subst e;simp at p)
  have A:0<=n/\n<(l.length:Int):=by omega
  refine⟨.pointer (some ⟨B,off+n.toNat*sz,none⟩),?_,?_⟩
  .unfold execOp;simp[z,Instr.indexAt,d,asIntOf,run_underlying J,F,g,A,aR v,bS]
  .rw [<-N,Q] at a2;exact .ept _ _ _ a2
 .rename_i b m Y k n j q;obtain⟨A,C⟩:=h;refine OpS.pure _ M C λE G a w hs=>?_;have f:=hs.ev I;rw[j] at f;have d:=hs.ev L;rw[q] at d;have d:=d.aK;obtain⟨T,F,hb,_,_,g⟩:=f.cj;have g:=g (by omega)
  refine⟨.pointer (some ⟨G.σ b,n.toNat*sz+0,none⟩),?_,.elp _ _ _ _ hb⟩;unfold execOp;simp[z,Instr.indexAt,d,asIntOf,run_underlying J,F,g,A,aR v,bS]
 .exact h.elim
def x6(x i:AV)(K:AV->Prop):Prop:=
 match x,i with
 |.str b,.int _ n=>∃y,(0<=n/\b[n.toNat]? =some y)/\K (.int .u8 y.toNat)
 |_,_=>False
theorem Fs{x i:Operand}{t:Nat}(m:o.op=.index t x i){rx l:Opd}(q:opd x=some rx)(v:opd i=some l)(u:P.underlying t=some .string)
  (h:x6 (s.ev rx) (s.ev l) λr=>K (s.put o.dst r)):OpS P o s K:=by
 have z:∀c,o.op≠.defer c:=λc e=>by rw[m] at e;cases e
 unfold x6 at h;split at h
 .rename_i b k n g j;obtain⟨y,⟨B,p⟩,A⟩:=h;refine OpS.pure _ z A λE G a w hs=>⟨_,?_,.flat (.int _ _)⟩;have d:=hs.ev q;rw[g] at d;have f:=hs.ev v;rw[j] at f;unfold execOp;simp[m,Instr.index,f.aK,asIntOf,run_underlying u,d.cK.1,B,p]
 .exact h.elim
def KN(agg:Bool)(off n:Nat)(x:AV)(K:AV->Prop):Prop:=
 match x with
 |.agg cs=>match agg with
  |true=>req (Nat.ble (off+n) cs.length) (K (.agg ((cs.drop off).take n)))
  |false=>match cs.drop off with
   |c::_=>K c
   |[]=>False
 |_=>False
theorem Ig{x:Operand}{t f:Nat}(u:o.op=.field t x f){rx:Opd}(z:opd x=some rx){fs:Array Field}{fd:Field}(A:P.underlying t=some (.struct fs))(C:fs[f]? =some fd){agg:Bool}{n:Nat}(F:od P fd.type=some agg)(H:agg=true->dB P fd.type=some n)
  (h:KN agg fd.offset n (s.ev rx) λr=>K (s.put o.dst r)):OpS P o s K:=by
 have D:∀c,o.op≠.defer c:=λc e=>by rw[u] at e;cases e
 unfold KN at h;split at h
 .rename_i cs g;split at h
  .obtain ⟨p,J⟩:=af.1 h;have hle:=zr p;refine OpS.pure _ D J λE G a w hs=>?_;have b:=hs.ev z;rw[g] at b;obtain⟨vs,k,B,d,hr⟩:=b.eD;refine⟨.agg ((vs.drop fd.offset).take n).toArray,?_,.agg _ _ ?_ (λv k=>d v (List.mem_of_mem_drop (List.mem_of_mem_take k))) (λj I v m=>?_)⟩
   .unfold execOp;simp[u,Instr.field,run_underlying A,C,k,asAgg,part,dy F,aR (H rfl),List.extract_eq_take_drop]
   .simp [B]
   .simp only[zn,Zd] at I;rw[Zp,Zz];rw[Za,if_pos (by omega),List.getElem?_drop] at m
    exact hr _ (by omega) v m
  .split at h
   .rename_i c rest q;refine OpS.pure _ D h λE G a w hs=>?_;have b:=hs.ev z;rw[g] at b;obtain⟨vs,k,B,d,hr⟩:=b.eD
    have l:fd.offset<cs.length:=by
     rcases zt fd.offset cs.length with p|p
     .exact p
     .rw [List.drop_eq_nil_of_le p] at q;cases q
    have y:cs[fd.offset]=c:=by
     rw[zH l] at q;cases q;rfl
    have i:vs[fd.offset]? =some (vs[fd.offset]'(by omega)):=zA _
    refine⟨_,?_,by rw[<-y];exact hr _ l _ i⟩
    unfold execOp;simp[u,Instr.field,run_underlying A,C,k,asAgg,part,dy F,i]
   .exact h.elim
 .exact h.elim
def KQ(i:Nat)(x:AV)(K:AV->Prop):Prop:=
 match x with
 |.tup vs=>match vs[i]? with
  |some y=>K y
  |none=>False
 |_=>False
theorem Im{x:Operand}{i:Nat}(l:o.op=.extract x i){rx:Opd}(m:opd x=some rx)(h:KQ i (s.ev rx) λr=>K (s.put o.dst r)):OpS P o s K:=by
 have p:∀c,o.op≠.defer c:=λc e=>by rw[l] at e;cases e
 unfold KQ at h;split at h
 .rename_i xs j;split at h
  .rename_i y g;refine OpS.pure _ p h λE G a w hs=>?_;have b:=hs.ev m;rw[j] at b;obtain⟨vs,n,q,hr⟩:=b.tK
   have f:i<xs.length:=by
    rcases zt i xs.length with k|k
    .exact k
    .rw [zR k] at g;cases g
   rw[zA f] at g;cases g;have d:vs[i]? =some (vs[i]'(by omega)):=zA _
   refine⟨_,?_,hr i f _ d⟩;unfold execOp;simp[l,Instr.extract,n,d]
  .exact h.elim
 .exact h.elim
def H2(str:Bool)(x:AV)(K:AV->Prop):Prop:=
 match str,x with
 |false,.sl _ l=>K (.int .i64 l.length)
 |true,.str b=>K (.int .i64 b.size)
 |false,.bsl _ m _=>K (.int .i64 m)
 |false,.lit _ m _=>K (.int .i64 m)
 |_,_=>False
theorem fw(P:Program)(ρ:Operand->Value)(o:Oper){x:Operand}{ts:Array TypeId}(a:o.op=.call {callee:=.builtin .len,args:=#[x],argTypes:=ts})(w:World):
  (execOp ρ o).run P w=((Builtin.len_ ts o.type #[ρ x]).run P w).andThen λv w'=>.ok (.value v) w':=by
 unfold execOp;simp[a,resolve,invoke,builtin]
theorem xW{x:Operand}{t:Nat}(i:o.op=.call {callee:=.builtin .len,args:=#[x],argTypes:=#[t]}){rx:Opd}(j:opd x=some rx){str:Bool}(k:(str=true/\P.underlying t=some .string)\/(str=false/\∃e,P.underlying t=some (.slice e)))
  (h:H2 str (s.ev rx) λr=>K (s.put o.dst r)):OpS P o s K:=by
 have n:∀c,o.op≠.defer c:=λc e=>by rw[i] at e;cases e
 unfold H2 at h;split at h
 .rename_i y l g;obtain⟨e,he⟩:∃e,P.underlying t=some (.slice e):=by rcases k with ⟨f,_⟩|⟨_,f⟩;cases f;exact f
  refine OpS.pure _ n h λE G a w hs=>⟨_,?_,.flat (.int _ _)⟩;have d:=hs.ev j;rw[g] at d;obtain⟨v,cap,B,off,p,f,_⟩:=d.cX;rw[fw P _ o i];simp[Builtin.len_,run_underlying he,f,goInt]
 .rename_i b g;have q:P.underlying t=some .string:=by rcases k with ⟨_,f⟩|⟨f,_⟩;exact f;cases f
  refine OpS.pure _ n h λE G a w hs=>⟨_,?_,.flat (.int _ _)⟩;have d:=hs.ev j;rw[g] at d;rw[fw P _ o i];simp[Builtin.len_,run_underlying q,d.cK.1,goInt]
 .rename_i b m u g;obtain⟨e,he⟩:∃e,P.underlying t=some (.slice e):=by rcases k with ⟨f,_⟩|⟨_,f⟩;cases f;exact f
  refine OpS.pure _ n h λE G a w hs=>⟨_,?_,.flat (.int _ _)⟩;have d:=hs.ev j;rw[g] at d;obtain⟨v,f,_⟩:=d.cj;rw[fw P _ o i];simp[Builtin.len_,run_underlying he,f,goInt]
 .rename_i b m u g;obtain⟨e,he⟩:∃e,P.underlying t=some (.slice e):=by rcases k with ⟨f,_⟩|⟨_,f⟩;cases f;exact f
  refine OpS.pure _ n h λE G a w hs=>⟨_,?_,.flat (.int _ _)⟩;have d:=hs.ev j;rw[g] at d;rw[fw P _ o i];simp[Builtin.len_,run_underlying he,d.ot,goInt]
 .exact h.elim
def unK(op:UnOp)(x:AV)(K:AV->Prop):Prop:=
 match op,x with
 |.neg,.int k n=>K (.int k (k.wrap (0-n)))
 |.not,.bool b=>K (.bool (!b))
 |_,_=>False
theorem Jc{x:Operand}{op:UnOp}{t:Nat}(g:o.op=.unOp op t x){rx:Opd}(i:opd x=some rx)(h:unK op (s.ev rx) λr=>K (s.put o.dst r)):OpS P o s K:=by
 have j:∀c,o.op≠.defer c:=λc e=>by rw[g] at e;cases e
 unfold unK at h;split at h
 .rename_i k n f;refine OpS.pure _ j h λE G a w hs=>⟨_,?_,.flat (.int _ _)⟩;have d:=hs.ev i;rw[f] at d;unfold execOp;simp[g,Op.unary,Op.intArith,d.aK]
 .rename_i b f;refine OpS.pure _ j h λE G a w hs=>⟨_,?_,.flat (.bool _)⟩;have d:=hs.ev i;rw[f] at d;unfold execOp;simp[g,Op.unary,d.cS]
 .exact h.elim
def yj(k:Option IntKind)(x:AV)(K:AV->Prop):Prop:=
 match k,x with
 |some k,.int _ n=>K (.int k (k.wrap n))
 |none,.str b=>K (.str b)
 |_,_=>False
theorem vX{x:Operand}{t u:Nat}(i:o.op=.convert t u x){rx:Opd}(g:opd x=some rx){k:Option IntKind}{m:TypeDesc}(j:P.underlying t=some m)(hu:P.underlying u=some (match k with|some k=>.int k|none=>.string))
  (h:yj k (s.ev rx) λr=>K (s.put o.dst r)):OpS P o s K:=by
 have l:∀c,o.op≠.defer c:=λc e=>by rw[i] at e;cases e
 unfold yj at h;split at h
 .rename_i k k' n f;refine OpS.pure _ l h λE G a w hs=>⟨_,?_,.flat (.int _ _)⟩;have d:=hs.ev g;rw[f] at d;unfold execOp;simp[i,convert,run_underlying j,run_underlying hu,d.aK,Conv.intToInt]
 .rename_i b f;refine OpS.pure _ l h λE G a w hs=>⟨_,?_,by have:=hs.ev g;rw[f] at this;exact this⟩
  have d:=hs.ev g;rw[f] at d;unfold execOp;simp[i,convert,run_underlying j,run_underlying hu,d.cK.1]
 .exact h.elim
end
end Go.AM
