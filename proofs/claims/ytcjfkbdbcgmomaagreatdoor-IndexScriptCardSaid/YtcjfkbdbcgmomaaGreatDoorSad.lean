/-
  Texts of this aV joined (wip/gen/bundle.py),those declarations only that are needed:AmA AmB. By an AI agent.
-/
import Derived.Test.YtcjfkbdbcgmomaaGreatDoorSac
set_option linter.unusedSimpArgs false
set_option linter.unusedVariables false
namespace Go.AM
open Go.CK Go.RowKit
section
variable{E:Entry}{G:Gh}{s:St}{a:Act}{w:World}{P:Program}
def Room(E:Entry)(G:Gh)(s:St)(w:World)(ad:Option Addr)(z n k:Nat):Prop:=k=n\/∃B p,ad=some ⟨B,0,none⟩/\ET E G s w B z n k p
theorem Cl(h:RS E G s a w){t e z:Nat}(he:La P t e z){l xs:List AV}{v vx:Value}{ad xa:Option Addr}{k B off c Bx offx:Nat}(hv:SV G.M l z v ad k B off)(hx:SV G.M xs z vx xa c Bx offx)
  (hlen:l.length+xs.length<=glim) (hroom:Room E G s w ad z l.length k) (ty:TypeId):
  ∃v' G' w',(Builtin.append_ #[t,t] ty #[v,vx]).run P w=.ok v' w'/\RS E G' s a w'/\∃ad' k' B' off',SV G'.M (l++xs) z v' ad' k' B' off'/\Room E G' s w' ad' z (l++xs).length k':=by
 obtain⟨i,zv,hi,hz,hsz,hzs,hb⟩:=he.ex;obtain⟨us,u1,u2,u3⟩:=hv.row h.ok;obtain⟨xs',x1,x2,x3⟩:=hx.row h.ok;have hun:=kr (P:=P) he.sl hi hz hsz rfl ty ad l.length k xa xs.length c w hlen hb;rw[hv.eq,hx.eq,hun];have hnil:∀(q:List AV),q.length≠0->q≠[]:=λq hq e=>hq (by simp[e])
 by_cases hfit:l.length+xs.length<=k
 .rw [if_pos hfit,bp (P:=P) w x1.1 (λh0=>hx.at_ (hnil _ h0)) x3];simp only[yZ];rcases hroom with rfl|⟨B1,p,rfl,hs⟩
  .have hxs:xs=[]:=ZY.1 (by omega)
   subst hxs;have:xs'=[]:=ZY.1 (by rw[x1.1];simp)
   subst this;refine⟨.slice ad l.length l.length,G,w,?_,h,ad,l.length,B,off,?_,.inl (by simp)⟩
   .cases ad<;>simp[storeCells]
   .rw [zz];exact⟨rfl,hv.cap,hv.len,hv.at_,hv.el⟩
  .have hB:l≠[]->B=B1/\off=0:=λh0=>by
    have:=hv.at_ h0;simp only[zO,Addr.mk.injEq,and_true] at this;exact⟨this.1.symm,this.2.symm⟩
   obtain⟨w',r1,r2,r3,r4⟩:=h.fill (P:=P) hs xs' x1.1 hfit x2;have hMle:G.M.le (bc G.M B1 (l.length*z) xs'):=du hs.row.free;refine⟨_,_,w',?_,r2,some ⟨B1,0,none⟩,k,B1,0,⟨by rw[zC],by simpa using hfit,by simp only [List.length_append];unfold glim at hlen;first|(unfold glim;omega)|(unfold lim;omega),λ_=>rfl,?_⟩,?_⟩
   .simp only;rw[bN,ZJ,r1];rfl
   .refine (u1.append x1).elems hMle λj u hj=>?_
    by_cases hjl:j<us.length
    .rw [zK hjl] at hj;have hl0:l≠[]:=λe=>by subst e;rw[u1.1] at hjl;simp at hjl
     obtain⟨rfl,rfl⟩:=hB hl0;refine hMle _ _ _ ?_;obtain⟨us2,y1,y2⟩:=hv.el.rowOf;have hlen2:us2.length=us.length:=by rw[y1.1,u1.1]
     have hj2:=y2 j (us2[j]'(by omega)) (zA _)
     have h8:=u3 j u hj;have h9:=h.ok _ _ _ hj2;simp only[Hp.of] at h9;rw[h9] at h8;rw[hj2,h8]
    .rw [za (by omega)] at hj
     have:j=l.length*z+(j-us.length):=by rw[<-u1.1];omega
     rw[ZJ,this];exact fR hj
   .by_cases hlt:l.length+xs.length<k
    .exact .inr ⟨B1,p,rfl,by rw[zC];exact r4 hlt⟩
    .exact .inl (by rw[zC];omega)
 .rw [if_neg hfit];have hg:=grownCap_ge w (l.length+xs.length) k e;rw[bp (P:=P) w.drew u1.1 (λh0=>hv.at_ (hnil _ h0)) (by simpa using u3)]
  simp only[yZ];rw[bp (P:=P) w.drew x1.1 (λh0=>hx.at_ (hnil _ h0)) (by simpa using x3)]
  simp only[yZ];have hd:RS E G s a w.drew:=h.drew
  have hvs:(us.toArray++xs'.toArray++Builtin.zeroCells zv.cells (grownCap w (l.length+xs.length) k e-(l.length+xs.length))).size=grownCap w (l.length+xs.length) k e*z:=by
   have h1:=u1.1;have h2:=x1.1;simp only[Array.size_append,List.size_toArray,size_zeroCells,hzs,h1,h2,<-ZN];congr 1;omega
  have hr:=hd.newRow (us.toArray++xs'.toArray++Builtin.zeroCells zv.cells (grownCap w (l.length+xs.length) k e-(l.length+xs.length))) e (us++xs') (λj u hj=>by
   have hjl:j<(us++xs').length:=by
    rcases zu j (us++xs').length with h1|h1
    .exact h1
    .rw [zS h1] at hj;cases hj
   show ((us.toArray++xs'.toArray)++Builtin.zeroCells zv.cells _)[j]? =some u;rw[Array.getElem?_append_left (by simpa using hjl)]
   simpa using hj)
  refine⟨_,_,_,rfl,hr,some ⟨w.drew.heap.size,0,none⟩,_,w.drew.heap.size,0,⟨by rw[zC],by simpa using hg,by simp only [List.length_append];unfold glim at hlen;first|(unfold glim;omega)|(unfold lim;omega),λ_=>rfl,?_⟩,?_⟩
  .exact (u1.append x1).elems (du λo _=>hd.noM o) λj u hj=>fR hj
  .by_cases hlt:l.length+xs.length<grownCap w (l.length+xs.length) k e
   .refine .inr ⟨w.drew.heap.size,.bx s.bs.length 0,rfl,⟨⟨by rw[zC];exact hlt,⟨_,e,heap_alloc_new _ _,hvs⟩,λo ho=>?_,.inr h.fr.size⟩,λq hq=>?_,λb cs hb e=>?_,by simp,λz l e=>?_,λb j e=>by cases e;simp[ag]⟩⟩
    .simp only[bc]
     rw[if_neg (λe=>by
      have h1:=e.2.2;have h2:=(u1.append x1).1;omega)]
     exact hd.noM o
    .exact absurd (hd.cllt q _ hq).1 (by omega)
    .exact absurd (hd.blt hb) (by have e':G.σ b=w.drew.heap.size:=e;omega)
    .simp [St.at,aa] at e
   .exact .inl (by rw[zC];omega)
theorem o5:∀(e:List (Nat×AV)) (k:Nat) (x y:AV),aM (aM e k x) k y=aM e k y
 |[],k,x,y=>by simp[aM]
 |(t,u)::r,k,x,y=>by
  simp only[aM]
  cases h1:Nat.beq t k with
  |true=>
   have h:Nat.beq k k=true:=by simp
   simp only[aM,h]
  |false=>
   cases h2:Nat.blt k t with
   |true=>
    have h:Nat.beq k k=true:=by simp
    simp only[aM,h]
   |false=>
    simp only[aM,h1,h2];rw[o5 r k x y]
theorem St.Eh(s:St)(k:Nat)(x y:AV):(s.put (some k) x).upd (.sl k) y=s.put (some k) y:=by
 simp[St.put,St.upd,o5]
theorem RS.C0(h:RS E G s a w){d:Nat}(hd:d<E.nt){l:List AV}{z:Nat}{v:Value}{ad:Option Addr}{k B off:Nat}(hv:SV G.M l z v ad k B off)(hroom:Room E G s w ad z l.length k):
  ∃G',RS E G' (s.put (some d) (.sl (.own z) l)) (a.put (some d) v) w:=by
 have hz:∀y∈l,y.cells.length=z:=λy hy=>by
  obtain⟨i,hi,rfl⟩:=Zc.1 hy;exact(hv.el i hi).1
 have hd':d<a.tmps.size:=by rw[h.nt];exact hd
 rcases hroom with hk|⟨B1,p,had,hs⟩
 .have h1:=h.put hd (hv.rv (σ:=G.σ) (n:=s.bs.length) (o:=.full) (by simp) (λ_=>hk))
  have hat:(s.put (some d) (.sl .full l)).at (.sl d)=some (.sl .full l):=by rw[St.ef,if_pos rfl]
  have h2:=h1.aV hat hz;rw[St.Eh] at h2;exact⟨G,h2⟩
 .have h1:=h.put hd (hv.rv (σ:=G.σ) (n:=s.bs.length) (o:=.no) (by simp) (by simp))
  have hat:(s.put (some d) (.sl .no l)).at (.sl d)=some (.sl .no l):=by rw[St.ef,if_pos rfl]
  have h2:=h1.Kl (p:=p) hat (by rw[cQ a w d v _ hd',if_pos rfl,hv.eq,had]) ⟨hs.row,hs.only,hs.box,hs.lt,λz' l' e=>by
   rw[St.ef] at e
   by_cases hp:p=.sl d
   .rw [if_pos hp] at e;cases e
   .rw [if_neg hp] at e;exact hs.not _ _ e,hs.nl⟩ hz
  rw[St.Eh] at h2;exact⟨_,h2⟩
end
theorem kf(P:Program)(ρ:Operand->Value)(o:Oper){b:Builtin}{x y:Operand}{ts:Array TypeId}(ho:o.op=.call {callee:=.builtin b,args:=#[x,y],argTypes:=ts})(hb:b=.append\/b=.copy\/b=.delete)(w:World):
  (execOp ρ o).run P w=((match b with|.append=>Builtin.append_ ts o.type #[ρ x,ρ y]|.copy=>Builtin.copy_ ts o.type #[ρ x,ρ y]|_=>Builtin.delete_ ts o.type #[ρ x,ρ y]:Sem Value).run P w).andThen λv w'=>.ok (.value v) w':=by
 unfold execOp;rcases hb with rfl|rfl|rfl<;>simp[ho,resolve,invoke,builtin]
def fH(z:Nat)(s:St)(o:Opd)(x:AV)(K:AV->St->Prop):Prop:=
 match x with
 |.sl _ xs=>match o with
  |.t t=>match s.get t with
   |.sl (.own z') l=>req (Nat.beq z z') (((∀y∈xs,y.cells.length=z)/\l.length+xs.length<=glim)/\K (.sl (.own z) (l++xs)) (s.put (some t) (.sl .no l)))
   |.sl .full l=>((∀y∈l++xs,y.cells.length=z)/\l.length+xs.length<=glim)/\K (.sl (.own z) (l++xs)) s
   |_=>False
  |.c (.sl .full l)=>((∀y∈l++xs,y.cells.length=z)/\l.length+xs.length<=glim)/\K (.sl (.own z) (l++xs)) s
  |_=>False
 |_=>False
theorem uU{P:Program}{s s1:St}{o:Oper}{x y:Operand}{t e z d:Nat}(ho:o.op=.call {callee:=.builtin .append,args:=#[x,y],argTypes:=#[t,t]})(hdst:o.dst=some d)(he:La P t e z){l xs:List AV}{oy:Cap}
  {ry:Opd} (hy:opd y=some ry) (hxe:s.ev ry=.sl oy xs) (hxz:∀y∈xs,y.cells.length=z) (hlen:l.length+xs.length<=glim) {K:St->Prop} (hK:K (s1.put (some d) (.sl (.own z) (l++xs))))
  (hsrc:∀E G a w,RS E G s a w->∃G1,RS E G1 s1 a w/\G1.M=G.M/\G1.σ=G.σ/\∃ad k B off,SV G.M l z (a.eval x) ad k B off/\Room E G1 s1 w ad z l.length k):OpS P o s K:=by
 intro E G a w rd n next Q hs hdlt hnext
 obtain⟨G1,h1,hM,hσ,ad,k,B,off,hv,hroom⟩:=hsrc E G a w hs;have hyv:=hs.ev hy;rw[hxe] at hyv;obtain⟨xa,c,Bx,offx,hxv⟩:=hyv.sv hxz;rw[<-hM] at hv hxv;obtain⟨v',G',w',hrun,h2,ad',k',B',off',hv',hroom'⟩:=Cl (P:=P) h1 he hv hxv hlen hroom o.type;obtain⟨G2,h3⟩:=h2.C0 (hdlt d hdst) hv' hroom';refine⟨λ_ _=>trivial,?_⟩;rw[Oper.semAt_eq _ _ _ (λc e=>by rw[ho] at e;cases e),kf P _ o ho (.inl rfl)]
 simp only[hrun,yZ];show next (a.put o.dst v') w'
 rw[hdst];exact hnext _ G2 _ w' hK h3 rfl
theorem z6{P:Program}{s:St}{o:Oper}{x y:Operand}{t e z d:Nat}(ho:o.op=.call {callee:=.builtin .append,args:=#[x,y],argTypes:=#[t,t]})(hdst:o.dst=some d)(he:La P t e z)
  {rx ry:Opd} (hx:opd x=some rx) (hy:opd y=some ry) {K:St->Prop} (h:fH z s rx (s.ev ry) λr s'=>K (s'.put o.dst r)):OpS P o s K:=by
 rw[hdst] at h;unfold fH at h;split at h
 .rename_i oy xs hxe
  have hfull:∀l,s.ev rx=.sl .full l->(∀y∈l++xs,y.cells.length=z)->l.length+xs.length<=glim->K (s.put (some d) (.sl (.own z) (l++xs)))->OpS P o s K:=λl hl hz hlen hK=>by
   refine uU ho hdst he hy hxe (λy hy=>hz y (ZW _ hy)) hlen hK λE G a w hs=>⟨G,hs,rfl,rfl,?_⟩;have hv:=hs.ev hx;rw[hl] at hv;obtain⟨ad,k,B,off,hsv⟩:=hv.sv (λy hy=>hz y (ZC _ hy));refine⟨ad,k,B,off,hsv,.inl ?_⟩;obtain⟨ad2,k2,_,_,_,h1,_,_,_,h2,_⟩:=hv.cq;rw[hsv.eq] at h1;cases h1;exact h2 rfl
  split at h
  .rename_i t0;split at h
   .rename_i z' l hg;obtain⟨h1,⟨h2,h3⟩,h4⟩:=af.1 h;have hzz:=zP h1;subst hzz;refine uU ho hdst he hy hxe h2 h3 h4 λE G a w hs=>?_
    have hat:s.at (.sl t0)=some (.sl (.own z) l):=by
     have:=hg;rw[St.get_at] at this
     cases hq:s.at (.sl t0) with
     |none=>rw[hq] at this;cases this
     |some q=>rw[hq] at this;simp at this;rw[this]
    have hev:a.eval x=aw G.σ a w (.sl t0):=by
     cases x with
     |tmp t=>cases hx;rfl
     |const v=>
      simp only[opd] at hx
      cases hv:cH v with
      |none=>rw[hv] at hx;cases hx
      |some x=>rw[hv] at hx;cases hx
     |func f=>cases hx
     |global g=>cases hx
    have hv:=hs.val _ _ hat;simp only[AV.aG] at hv;obtain⟨ad,k,hval,hz,hcl⟩:=hs.own _ _ _ hat;have h5:RS E G (s.put (some t0) (.sl .no l)) a w:=hs.upd (q:=.sl t0) hat hv;refine⟨G,h5,rfl,rfl,?_⟩;rw[hev];obtain⟨ad2,k2,B,off,hsv⟩:=hv.sv hz;have:=hsv.eq;rw[hval] at this;cases this;refine⟨ad,k,B,off,hsv,?_⟩;rcases hcl with hcl|⟨B1,hc1,hc2,hrow⟩
    .exact .inl hcl
    .refine .inr ⟨B1,.sl t0,hc2,⟨hrow,λq hq=>hs.clinj q _ B1 hq hc1,λb cs hb=>hs.clbox _ B1 hc1 b cs hb,(hs.cllt _ B1 hc1).1,λz' l' e=>?_,λb j e=>by cases e⟩⟩
     rw[St.ef,if_pos rfl] at e;cases e
   .rename_i l hg;exact hfull l (by simp[St.ev,hg,AV.aG]) h.1.1 h.1.2 h.2
   .exact h.elim
  .rename_i l;exact hfull l rfl h.1.1 h.1.2 h.2
  .exact h.elim
 .exact h.elim
end Go.AM
namespace Go.AM
open Go.CK Go.RowKit
section
variable{P:Program}{s:St}{o:Oper}{K:St->Prop}
def sb(s:St)(d:Option Nat)(o:Opd)(K:St->Prop):Prop:=
 match o with
 |.c x=>K (s.put d x)
 |.t t=>match s.get t with
  |.sl (.own z) l=>match d with
   |some d=>req (!(Nat.beq d t)) (K (((s.put (some d) (.sl .no l)).put (some t) (.sl .no l)).put (some d) (.sl (.own z) l)))
   |none=>False
  |x=>K (s.put d x)
theorem yp{t z:Nat}{l:List AV}(hg:s.get t=.sl (.own z) l):s.at (.sl t)=some (.sl (.own z) l):=by
 rw[St.get_at] at hg
 cases hq:s.at (.sl t) with
 |none=>rw[hq] at hg;cases hg
 |some q=>rw[hq] at hg;simp at hg;rw[hg]
theorem wc{x:Operand}(ho:o.op=.move x\/o.op=.assign x){rx:Opd}(hx:opd x=some rx)(h:sb s o.dst rx K):OpS P o s K:=by
 have hd:∀c,o.op≠.defer c:=λc e=>by rcases ho with ho|ho<;>(rw[ho] at e;cases e)
 have hrun:∀a w,(execOp (Act.eval a) o).run P w=.ok (.value (a.eval x)) w:=λa w=>by
  unfold execOp;rcases ho with ho|ho<;>simp[ho]
 have fin:∀y,s.ev rx=y->K (s.put o.dst y)->OpS P o s K:=λy hy hK=>OpS.pure y hd hK λE G a w hs=>⟨_,hrun a w,by rw[<-hy];exact hs.ev hx⟩
 unfold sb at h;split at h
 .exact fin _ rfl h
 .rename_i t;split at h
  .rename_i z l hg;split at h
   .rename_i d hdst;obtain⟨hne,hK⟩:=af.1 h;have hne:d≠t:=λe=>by subst e;simp at hne
    intro E G a w rd n next Q hs hdlt hnext
    have hat:=yp hg
    have hev:a.eval x=aw G.σ a w (.sl t):=by
     cases x with
     |tmp t=>cases hx;rfl
     |const v=>
      simp only[opd] at hx
      cases hv:cH v<;>(rw[hv] at hx;cases hx)
     |func f=>cases hx
     |global g=>cases hx
    have hv:=hs.val _ _ hat;simp only[AV.aG] at hv;have hdd:=hdlt d hdst;have hd':d<a.tmps.size:=by rw[hs.nt];exact hdd
    have h1:=hs.put (k:=d) hdd hv;have hp:(s.put (some d) (.sl .no l)).at (.sl t)=some (.sl (.own z) l):=by rw[St.ef,if_neg (by simpa using Ne.symm hne)];exact hat
    have hq:(s.put (some d) (.sl .no l)).at (.sl d)=some (.sl .no l):=by rw[St.ef,if_pos rfl]
    have h2:=h1.move (p:=.sl t) (q:=.sl d) (by simpa using Ne.symm hne) hp hq (by rw[cQ a w d _ _ hd',cQ a w d _ _ hd',if_pos rfl,if_neg (by simpa using Ne.symm hne)])
    refine⟨λ_ _=>trivial,?_⟩;rw[Oper.semAt_eq _ _ _ hd,hrun];show next (a.put o.dst (a.eval x)) w
    rw[hdst,hev];exact hnext _ _ _ w hK h2 rfl
   .exact h.elim
  .rename_i hnot;refine fin _ ?_ h;show (s.get t).aG=_;generalize s.get t=g at*
   cases g with
   |sl c l=>cases c with
    |own z=>exact absurd rfl (hnot z l)
    |_=>rfl
   |_=>rfl
def vW(c x y:AV)(K:AV->Prop):Prop:=
 match c with
 |.bool b=>(b=true->K x)/\(b=false->K y)
 |_=>False
theorem C2{c x y:Operand}(ho:o.op=.pick c x y){rc rx ry:Opd}(hc:opd c=some rc)(hx:opd x=some rx)(hy:opd y=some ry)(h:vW (s.ev rc) (s.ev rx) (s.ev ry) λr=>K (s.put o.dst r)):OpS P o s K:=by
 have hd:∀c,o.op≠.defer c:=λc e=>by rw[ho] at e;cases e
 unfold vW at h;split at h
 .rename_i b hb
  have hbv:∀E G a w,RS E G s a w->a.eval c=.bool b:=λE G a w hs=>by
   have:=hs.ev hc;rw[hb] at this;exact this.dm
  cases b with
  |true=>exact OpS.pure _ hd (h.1 rfl) λE G a w hs=>⟨a.eval x,by unfold execOp;simp[ho,hbv E G a w hs,asBool],hs.ev hx⟩
  |false=>exact OpS.pure _ hd (h.2 rfl) λE G a w hs=>⟨a.eval y,by unfold execOp;simp[ho,hbv E G a w hs,asBool],hs.ev hy⟩
 .exact h.elim
def tF(x:AV)(K:AV->Prop):Prop:=
 match x with
 |.ptr b off=>K (.ptr b off)
 |.ept cs=>K (.ept cs)
 |.fn (.func f) xs ys=>K (.fn (.func f) xs ys)
 |.elp b i z off=>K (.elp b i z off)
 |_=>False
theorem A3{x:Operand}(ho:o.op=.nilCheck x){rx:Opd}(hx:opd x=some rx)(h:tF (s.ev rx) λr=>K (s.put o.dst r)):OpS P o s K:=by
 have hd:∀c,o.op≠.defer c:=λc e=>by rw[ho] at e;cases e
 unfold tF at h;split at h
 .rename_i b off he;refine OpS.pure _ hd h λE G a w hs=>⟨a.eval x,?_,by rw[<-he];exact hs.ev hx⟩
  have:=hs.ev hx;rw[he] at this;unfold execOp;simp[ho,this.eP.1]
 .rename_i cs he;refine OpS.pure _ hd h λE G a w hs=>⟨a.eval x,?_,by rw[<-he];exact hs.ev hx⟩
  have:=hs.ev hx;rw[he] at this;obtain⟨B,off,h1,_⟩:=this.pQ;unfold execOp;simp[ho,h1]
 .rename_i f xs ys he;refine OpS.pure _ hd h λE G a w hs=>⟨a.eval x,?_,by rw[<-he];exact hs.ev hx⟩
  have:=hs.ev hx;rw[he] at this;obtain⟨us,vs,h1,_⟩:=this.nx;unfold execOp;simp[ho,h1]
 .rename_i b i z off he;refine OpS.pure _ hd h λE G a w hs=>⟨a.eval x,?_,by rw[<-he];exact hs.ev hx⟩
  have:=hs.ev hx;rw[he] at this;unfold execOp;simp[ho,this.pR.1]
 .exact h.elim
def su(off:Nat):AV->AV
 |.ptr b f=>.ptr b (f+off)
 |.ept cs=>.ept (cs.drop off)
 |.elp b i z f=>.elp b i z (f+off)
 |x=>x
def Bo:AV->Bool
 |.ptr .. |.ept _|.elp .. =>true
 |_=>false
theorem tL{M:Hp}{σ:Nat->Nat}{n off:Nat}{x:AV}{v:Value}(hx:RV M σ n x v)(h:Bo x=true):∃B f,v=.pointer (some ⟨B,f,none⟩)/\RV M σ n (su off x) (.pointer (some ⟨B,f+off,none⟩)):=by
 cases x<;>first|(simp[Bo] at h;done)|skip
 case ptr b f=>
  obtain⟨rfl,hb⟩:=hx.eP;exact⟨_,_,rfl,.ptr _ _ hb⟩
 case ept cs=>
  obtain⟨B,f,rfl,hc⟩:=hx.pQ;exact⟨_,_,rfl,.ept _ _ _ (hc.drop off)⟩
 case elp b i z f=>
  obtain⟨rfl,hb⟩:=hx.pR;exact⟨_,_,rfl,by rw[Zn];exact .elp _ _ _ _ hb⟩
def JR(off:Nat)(x:AV)(K:AV->Prop):Prop:=req (Bo x) (K (su off x))
theorem DA{x:Operand}{t f:Nat}(ho:o.op=.fieldAddr t x f){rx:Opd}(hx:opd x=some rx){fs:Array Field}{fd:Field}{k:Nat}(ht:P.underlying t=some (.struct fs))(hf:fs[f]? =some fd)(hk:dH P fd.type=some k)(hk0:k≠0)
  (h:JR fd.offset (s.ev rx) λr=>K (s.put o.dst r)):OpS P o s K:=by
 have hd:∀c,o.op≠.defer c:=λc e=>by rw[ho] at e;cases e
 obtain⟨h1,h2⟩:=af.1 h;refine OpS.pure _ hd h2 λE G a w hs=>?_;obtain⟨B,f',hv,hr⟩:=tL (off:=fd.offset) (hs.ev hx) h1;refine⟨_,?_,hr⟩;unfold execOp;simp[ho,Instr.fieldAt,run_underlying ht,hf,hv,Instr.sureAddr,fieldPlace,aL hk,hk0,bN]
def FC(sz:Nat)(x i:AV)(K:AV->Prop):Prop:=
 match x,i with
 |.sl _ l,.int _ n=>∃y,(0<=n/\l[n.toNat]? =some y/\y.cells.length=sz)/\K (.ept y.cells)
 |.bsl b m _,.int _ n=>(0<=n/\n<m)/\K (.elp b n.toNat sz 0)
 |_,_=>False
theorem FA{x i:Operand}{t e:Nat}(ho:o.op=.indexAddr t x i){rx ri:Opd}(hx:opd x=some rx)(hi:opd i=some ri){sz:Nat}(ht:P.underlying t=some (.slice e))(hsz:dH P e=some sz)
  (h:FC sz (s.ev rx) (s.ev ri) λr=>K (s.put o.dst r)):OpS P o s K:=by
 have hd:∀c,o.op≠.defer c:=λc e=>by rw[ho] at e;cases e
 unfold FC at h;split at h
 .rename_i oc l k n hxe hie;obtain⟨y,⟨h0,hy,hz⟩,hK⟩:=h;refine OpS.pure _ hd hK λE G a w hs=>?_;have hxv:=hs.ev hx;rw[hxe] at hxv;have hiv:=hs.ev hi;rw[hie] at hiv;have hiv:=hiv.aA;obtain⟨ad,cap,B,off,sz',h1,_,h3,h4,_,h6,h7⟩:=hxv.cq
  have hlt:n.toNat<l.length:=by
   rcases zu n.toNat l.length with h8|h8
   .exact h8
   .rw [zS h8] at hy;cases hy
  rw[zA hlt] at hy;simp only[zO] at hy;obtain⟨a1,a2⟩:=h7 _ hlt;rw[hy] at a1 a2;have had:=h6 (λe=>by subst e;simp at hlt)
  have hn:0<=n/\n<(l.length:Int):=by omega
  refine⟨.pointer (some ⟨B,off+n.toNat*sz,none⟩),?_,?_⟩
  .unfold execOp;simp[ho,Instr.indexAt,hiv,asIntOf,run_underlying ht,h1,had,hn,aL hsz,bN]
  .rw [<-a1,hz] at a2;exact .ept _ _ _ a2
 .rename_i b m cp k n hxe hie;obtain⟨hn,hK⟩:=h;refine OpS.pure _ hd hK λE G a w hs=>?_;have hxv:=hs.ev hx;rw[hxe] at hxv;have hiv:=hs.ev hi;rw[hie] at hiv;have hiv:=hiv.aA;obtain⟨ad,h1,hb,_,_,had⟩:=hxv.cd;have had:=had (by omega)
  refine⟨.pointer (some ⟨G.σ b,n.toNat*sz+0,none⟩),?_,.elp _ _ _ _ hb⟩;unfold execOp;simp[ho,Instr.indexAt,hiv,asIntOf,run_underlying ht,h1,had,hn,aL hsz,bN]
 .exact h.elim
def wB(x i:AV)(K:AV->Prop):Prop:=
 match x,i with
 |.str b,.int _ n=>∃y,(0<=n/\b[n.toNat]? =some y)/\K (.int .u8 y.toNat)
 |_,_=>False
theorem Dq{x i:Operand}{t:Nat}(ho:o.op=.index t x i){rx ri:Opd}(hx:opd x=some rx)(hi:opd i=some ri)(ht:P.underlying t=some .string)
  (h:wB (s.ev rx) (s.ev ri) λr=>K (s.put o.dst r)):OpS P o s K:=by
 have hd:∀c,o.op≠.defer c:=λc e=>by rw[ho] at e;cases e
 unfold wB at h;split at h
 .rename_i b k n hxe hie;obtain⟨y,⟨h0,hy⟩,hK⟩:=h;refine OpS.pure _ hd hK λE G a w hs=>⟨_,?_,.flat (.int _ _)⟩;have hxv:=hs.ev hx;rw[hxe] at hxv;have hiv:=hs.ev hi;rw[hie] at hiv;unfold execOp;simp[ho,Instr.index,hiv.aA,asIntOf,run_underlying ht,hxv.cG.1,h0,hy]
 .exact h.elim
def HY(agg:Bool)(off n:Nat)(x:AV)(K:AV->Prop):Prop:=
 match x with
 |.agg cs=>match agg with
  |true=>req (Nat.ble (off+n) cs.length) (K (.agg ((cs.drop off).take n)))
  |false=>match cs.drop off with
   |c::_=>K c
   |[]=>False
 |_=>False
theorem FE{x:Operand}{t f:Nat}(ho:o.op=.field t x f){rx:Opd}(hx:opd x=some rx){fs:Array Field}{fd:Field}(ht:P.underlying t=some (.struct fs))(hf:fs[f]? =some fd){agg:Bool}{n:Nat}(ha:nP P fd.type=some agg)(hn:agg=true->dH P fd.type=some n)
  (h:HY agg fd.offset n (s.ev rx) λr=>K (s.put o.dst r)):OpS P o s K:=by
 have hd:∀c,o.op≠.defer c:=λc e=>by rw[ho] at e;cases e
 unfold HY at h;split at h
 .rename_i cs hxe;split at h
  .obtain ⟨h1,h2⟩:=af.1 h;have hle:=zt h1;refine OpS.pure _ hd h2 λE G a w hs=>?_;have hxv:=hs.ev hx;rw[hxe] at hxv;obtain⟨vs,hv,hl,hone,hr⟩:=hxv.dR;refine⟨.agg ((vs.drop fd.offset).take n).toArray,?_,.agg _ _ ?_ (λv hv=>hone v (List.mem_of_mem_drop (List.mem_of_mem_take hv))) (λj hj v hjv=>?_)⟩
   .unfold execOp;simp[ho,Instr.field,run_underlying ht,hf,hv,asAgg,part,dD ha,aL (hn rfl),List.extract_eq_take_drop]
   .simp [hl]
   .simp only[zo,Zg] at hj;rw[Zs,yC];rw[Zd,if_pos (by omega),List.getElem?_drop] at hjv
    exact hr _ (by omega) v hjv
  .split at h
   .rename_i c rest hc;refine OpS.pure _ hd h λE G a w hs=>?_;have hxv:=hs.ev hx;rw[hxe] at hxv;obtain⟨vs,hv,hl,hone,hr⟩:=hxv.dR
    have hlt:fd.offset<cs.length:=by
     rcases zu fd.offset cs.length with h1|h1
     .exact h1
     .rw [List.drop_eq_nil_of_le h1] at hc;cases hc
    have hcc:cs[fd.offset]=c:=by
     rw[zH hlt] at hc;cases hc;rfl
    have hv2:vs[fd.offset]? =some (vs[fd.offset]'(by omega)):=zA _
    refine⟨_,?_,by rw[<-hcc];exact hr _ hlt _ hv2⟩
    unfold execOp;simp[ho,Instr.field,run_underlying ht,hf,hv,asAgg,part,dD ha,hv2]
   .exact h.elim
 .exact h.elim
def H0(i:Nat)(x:AV)(K:AV->Prop):Prop:=
 match x with
 |.tup vs=>match vs[i]? with
  |some y=>K y
  |none=>False
 |_=>False
theorem FG{x:Operand}{i:Nat}(ho:o.op=.extract x i){rx:Opd}(hx:opd x=some rx)(h:H0 i (s.ev rx) λr=>K (s.put o.dst r)):OpS P o s K:=by
 have hd:∀c,o.op≠.defer c:=λc e=>by rw[ho] at e;cases e
 unfold H0 at h;split at h
 .rename_i xs hxe;split at h
  .rename_i y hy;refine OpS.pure _ hd h λE G a w hs=>?_;have hxv:=hs.ev hx;rw[hxe] at hxv;obtain⟨vs,hv,hl,hr⟩:=hxv.sw
   have hlt:i<xs.length:=by
    rcases zu i xs.length with h1|h1
    .exact h1
    .rw [zS h1] at hy;cases hy
   rw[zA hlt] at hy;cases hy;have hv2:vs[i]? =some (vs[i]'(by omega)):=zA _
   refine⟨_,?_,hr i hlt _ hv2⟩;unfold execOp;simp[ho,Instr.extract,hv,hv2]
  .exact h.elim
 .exact h.elim
def Fu(str:Bool)(x:AV)(K:AV->Prop):Prop:=
 match str,x with
 |false,.sl _ l=>K (.int .i64 l.length)
 |true,.str b=>K (.int .i64 b.size)
 |false,.bsl _ m _=>K (.int .i64 m)
 |false,.lit _ m _=>K (.int .i64 m)
 |_,_=>False
theorem dM(P:Program)(ρ:Operand->Value)(o:Oper){x:Operand}{ts:Array TypeId}(ho:o.op=.call {callee:=.builtin .len,args:=#[x],argTypes:=ts})(w:World):
  (execOp ρ o).run P w=((Builtin.len_ ts o.type #[ρ x]).run P w).andThen λv w'=>.ok (.value v) w':=by
 unfold execOp;simp[ho,resolve,invoke,builtin]
theorem wj{x:Operand}{t:Nat}(ho:o.op=.call {callee:=.builtin .len,args:=#[x],argTypes:=#[t]}){rx:Opd}(hx:opd x=some rx){str:Bool}(ht:(str=true/\P.underlying t=some .string)\/(str=false/\∃e,P.underlying t=some (.slice e)))
  (h:Fu str (s.ev rx) λr=>K (s.put o.dst r)):OpS P o s K:=by
 have hd:∀c,o.op≠.defer c:=λc e=>by rw[ho] at e;cases e
 unfold Fu at h;split at h
 .rename_i oc l hxe;obtain⟨e,he⟩:∃e,P.underlying t=some (.slice e):=by rcases ht with ⟨h1,_⟩|⟨_,h1⟩;cases h1;exact h1
  refine OpS.pure _ hd h λE G a w hs=>⟨_,?_,.flat (.int _ _)⟩;have hxv:=hs.ev hx;rw[hxe] at hxv;obtain⟨ad,cap,B,off,sz',h1,_⟩:=hxv.cq;rw[dM P _ o ho];simp[Builtin.len_,run_underlying he,h1,goInt]
 .rename_i b hxe;have h0:P.underlying t=some .string:=by rcases ht with ⟨_,h1⟩|⟨h1,_⟩;exact h1;cases h1
  refine OpS.pure _ hd h λE G a w hs=>⟨_,?_,.flat (.int _ _)⟩;have hxv:=hs.ev hx;rw[hxe] at hxv;rw[dM P _ o ho];simp[Builtin.len_,run_underlying h0,hxv.cG.1,goInt]
 .rename_i b m cp hxe;obtain⟨e,he⟩:∃e,P.underlying t=some (.slice e):=by rcases ht with ⟨h1,_⟩|⟨_,h1⟩;cases h1;exact h1
  refine OpS.pure _ hd h λE G a w hs=>⟨_,?_,.flat (.int _ _)⟩;have hxv:=hs.ev hx;rw[hxe] at hxv;obtain⟨ad,h1,_⟩:=hxv.cd;rw[dM P _ o ho];simp[Builtin.len_,run_underlying he,h1,goInt]
 .rename_i b m cp hxe;obtain⟨e,he⟩:∃e,P.underlying t=some (.slice e):=by rcases ht with ⟨h1,_⟩|⟨_,h1⟩;cases h1;exact h1
  refine OpS.pure _ hd h λE G a w hs=>⟨_,?_,.flat (.int _ _)⟩;have hxv:=hs.ev hx;rw[hxe] at hxv;rw[dM P _ o ho];simp[Builtin.len_,run_underlying he,hxv.mi,goInt]
 .exact h.elim
def unK(op:UnOp)(x:AV)(K:AV->Prop):Prop:=
 match op,x with
 |.neg,.int k n=>K (.int k (k.wrap (0-n)))
 |.not,.bool b=>K (.bool (!b))
 |_,_=>False
theorem Gr{x:Operand}{op:UnOp}{t:Nat}(ho:o.op=.unOp op t x){rx:Opd}(hx:opd x=some rx)(h:unK op (s.ev rx) λr=>K (s.put o.dst r)):OpS P o s K:=by
 have hd:∀c,o.op≠.defer c:=λc e=>by rw[ho] at e;cases e
 unfold unK at h;split at h
 .rename_i k n hxe;refine OpS.pure _ hd h λE G a w hs=>⟨_,?_,.flat (.int _ _)⟩;have hxv:=hs.ev hx;rw[hxe] at hxv;unfold execOp;simp[ho,Op.unary,Op.intArith,hxv.aA]
 .rename_i b hxe;refine OpS.pure _ hd h λE G a w hs=>⟨_,?_,.flat (.bool _)⟩;have hxv:=hs.ev hx;rw[hxe] at hxv;unfold execOp;simp[ho,Op.unary,hxv.dm]
 .exact h.elim
def wQ(k:Option IntKind)(x:AV)(K:AV->Prop):Prop:=
 match k,x with
 |some k,.int _ n=>K (.int k (k.wrap n))
 |none,.str b=>K (.str b)
 |_,_=>False
theorem uv{x:Operand}{t u:Nat}(ho:o.op=.convert t u x){rx:Opd}(hx:opd x=some rx){k:Option IntKind}{dt:TypeDesc}(ht:P.underlying t=some dt)(hu:P.underlying u=some (match k with|some k=>.int k|none=>.string))
  (h:wQ k (s.ev rx) λr=>K (s.put o.dst r)):OpS P o s K:=by
 have hd:∀c,o.op≠.defer c:=λc e=>by rw[ho] at e;cases e
 unfold wQ at h;split at h
 .rename_i k k' n hxe;refine OpS.pure _ hd h λE G a w hs=>⟨_,?_,.flat (.int _ _)⟩;have hxv:=hs.ev hx;rw[hxe] at hxv;unfold execOp;simp[ho,convert,run_underlying ht,run_underlying hu,hxv.aA,Conv.intToInt]
 .rename_i b hxe;refine OpS.pure _ hd h λE G a w hs=>⟨_,?_,by have:=hs.ev hx;rw[hxe] at this;exact this⟩
  have hxv:=hs.ev hx;rw[hxe] at hxv;unfold execOp;simp[ho,convert,run_underlying ht,run_underlying hu,hxv.cG.1]
 .exact h.elim
end
end Go.AM
