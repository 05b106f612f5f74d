/-
  Texts of this bj joined (wip/gen/bundle.py),those declarations only that are needed:RdLkw. By an AI agent.
-/
import Derived.Test.YtcjfkbdbcgmomaaGreatDoorBbe
set_option linter.unusedSimpArgs false
set_option linter.unusedVariables false
set_option maxRecDepth 100000
namespace Go.CK
open Go.RowKit Go.Proofs Go.ChangeShapes Go.WideShapes Go.ChangeAt
open Go.Proofs.YtcjfkbdbcgmomaaGreatDoor.Rows (uptoBulk uptoBulkAll uptoSmall)
section
variable{H:Type}{enc:TypeId×Value->H}{P:Program}{W:World}{spare:Nat->Bool}{held:Bool}
theorem Ae{H:Type}{α:Type}(w:α->Nat):∀{n:Nat} (f:Fin n->α) (D:Nat->DataW H) (k:Nat),(∀i:Fin n,w (f i)<=uptoBulk (D (k+i.1)))->((List.ofFn f).map w).sum<=uptoBulkAll ((List.range' k n).map D)
 |0,f,D,k,_=>by simp
 |n+1,f,D,k,h=>by
  rw[List.ofFn_succ,List.range'_succ];simp only[zQ,List.sum_cons,uptoBulkAll];have h0:=h 0;simp only[Fin.val_zero,Ze] at h0
  have h1:=Ae w (λi=>f i.succ) D (k+1) λi=>by
   have:=h i.succ;rw[Fin.val_succ] at this;rw[show k+1+i.1=k+(i.1+1) by omega];exact this
  omega
theorem HX{α:Type}(w:α->Nat){T e:TypeId}{sz N:Nat}(hu:P.underlying T=some (.slice e))(hsz:P.cellsOf e=sz)(hp:0<sz)(R:List Value->α->Prop)(hN:N<=1048576)
  (ih:∀(cs:List Value) (d:DataW H) (ps:List MemPlace) (fuel:Nat),DataW.trod enc P W 0 spare held fuel e cs=some (d,ps)->uptoBulk d<N->∃x,R cs x/\w x<=uptoBulk d)
  {fuel:Nat} {cs:List Value} {d:DataW H} {ps:List MemPlace} (h:DataW.trod enc P W 0 spare held fuel T cs=some (d,ps)) (hb:uptoBulk d<=N):
  ∃(a:Option Addr) (l:List α) (cap:Nat),cs=[.slice a l.length cap]/\l.length<=cap/\Sl (Hp.of W) sz R a l/\l.length<=N/\(l.map w).sum<=uptoBulk d:=by
 subst hsz;rcases Deep.open_slice hu h with ⟨rfl,_⟩|⟨a,len,cap,m,n,D,Pl,rfl,_,hlc,_,hm,hx,hel⟩
 .exact ⟨none,[],0,rfl,by simp,Sl.nil,by simp,by simp⟩
 .simp only[Prod.mk.injEq] at hx;obtain⟨rfl,_⟩:=hx;have hlm:len<=m:=by rw[hm];split<;>omega
  simp only[uptoBulk] at hb;have hlen:=Ad ((List.range len).map D);rw[zF,List.length_range] at hlen
  have hD:∀i,i<len->∃x,(∃cs',W.cells? 0 (a.add (i*P.cellsOf e)) (P.cellsOf e)=some cs'/\R cs' x)/\w x<=uptoBulk (D i):=λi hi=>by
   obtain⟨cs',h1,h2⟩:=hel i (by omega)
   have hbi:uptoBulk (D i)<=uptoBulkAll ((List.range len).map D):=pW (zk.2 ⟨i,by simpa using hi,rfl⟩)
   obtain⟨x,hx,hwx⟩:=ih cs' (D i) (Pl i) n h2 (by omega)
   exact⟨x,⟨cs',h1,hx⟩,hwx⟩
  have hsum:=Ae w (λi:Fin len=>(hD i.1 i.2).choose) D 0 λi=>by
   rw[ZI];exact(hD i.1 i.2).choose_spec.2
  rw[<-List.range_eq_range'] at hsum;refine⟨some a,List.ofFn (λi:Fin len=>(hD i.1 i.2).choose),cap,by simp,by simpa using hlc,⟨by simp[lim];omega,λi hi=>?_⟩,by simp;omega,by simp only[uptoBulk];omega⟩
  rw[List.length_ofFn] at hi
  have hspot:a.spot=none:=by
   obtain⟨cs',h1,_⟩:=hel 0 (by omega)
   obtain⟨_,h2,h3⟩:=World.cells?_some h1;have h4:=h3 0 hp;rw[zA (by omega)] at h4
   simp only[Nat.zero_mul] at h4;have h5:(a.add 0).add 0=a:=by simp[Addr.add]
   rw[h5] at h4
   cases hs:a.spot with
   |none=>rfl
   |some k=>
    simp only[World.cell?,hs] at h4;split at h4<;>simp at h4
  obtain⟨cs',h1,h2⟩:=(hD i hi).choose_spec.1;obtain⟨_,h3,h4⟩:=World.cells?_some h1;have ha:a=⟨a.block,a.off,none⟩:=by cases a;simp only at hspot;subst hspot;rfl
  refine⟨a.block,a.off,cs',by rw[<-ha],h3,λj x hj=>?_,by simpa using h2⟩
  have hj2:j<P.cellsOf e:=by rw[<-h3];exact(zB.1 hj).1
  have h5:=h4 j hj2;rw[Deep.add_add] at h5
  have h6:a.add (i*P.cellsOf e+j)=⟨a.block,a.off+i*P.cellsOf e+j,none⟩:=by
   unfold Addr.add;split
   .rename_i h0;rw[ha];simp;omega
   .simp
  rw[h6,hj] at h5;exact h5
theorem FM{α:Type}(Q:α->Prop){T e:TypeId}{sz N:Nat}(hu:P.underlying T=some (.slice e))(hsz:P.cellsOf e=sz)(hp:0<sz)(R:Hp->List Value->α->Prop)(hN:N<=1048576)
  (ih:∀(cs:List Value) (d:DataW H) (ps:List MemPlace) (fuel:Nat),DataW.trod enc P W 0 spare held fuel e cs=some (d,ps)->uptoBulk d<N->∃x,R (Hp.of W) cs x/\Q x)
  {fuel:Nat} {cs:List Value} {d:DataW H} {ps:List MemPlace} (h:DataW.trod enc P W 0 spare held fuel T cs=some (d,ps)) (hb:uptoBulk d<=N):
  ∃x,RSl sz R (Hp.of W) cs x/\x.length<=N/\∀y∈x,Q y:=by
 obtain⟨a,l,k,e,h1,h2,h3⟩:=HY (N:=N) hu hsz hp (λcs x=>R (Hp.of W) cs x/\Q x) hN ih h hb;refine⟨l,⟨a,k,e,h1,h2.mono (λ_ _ _ h=>h) λ_ _ _ h=>h.1⟩,h3,λy hy=>?_⟩;obtain⟨i,hi,rfl⟩:=ZZ.1 hy;obtain⟨_,_,_,_,_,_,h⟩:=h2.at_ i hi;exact h.2
end
theorem nN:∀l:List Tm,Tm.bp l=(l.map Tm.nodes).sum
 |[]=>rfl
 |t::l=>by rw[Tm.bp,nN l];rfl
section
variable{H:Type}{enc:TypeId×Value->H}{W:World}{spare:Nat->Bool}{held:Bool}
theorem tm_w:∀(N:Nat),N<=1048576->∀(cs:List Value) (d:DataW H) (ps:List MemPlace) (fuel:Nat),DataW.trod enc Tryz.prog W 0 spare held fuel 81 cs=some (d,ps)->uptoBulk d<=N->∃t,RTm (Hp.of W) cs t/\t.nodes<=uptoBulk d:=by
 intro N
 induction N using Nat.strongRecOn with
 |_ N ih=>
 intro hN cs d ps fuel h hb;obtain⟨y0,y1,y2,y3,n,hx,hl,h0,h1,h2,h3⟩:=Joins.trod_struct4 Tryz.underlying81 h;simp only[Prod.mk.injEq] at hx;obtain⟨rfl,_⟩:=hx;rw[w5] at hl
 match cs,hl with
 |[c0,c1,c2,c3],_=>
  simp only[oV,my,tu,yG,List.drop_succ_cons,Zy,ZK] at h0 h1 h2 h3;simp only[uptoBulk,uptoBulkAll] at hb|-;have:=Ab y3.1;obtain⟨k,e0,ik⟩:=sY h0;obtain⟨m,e1,im⟩:=sY h1;obtain⟨s,e2,is⟩:=rJ (N:=N) h2 (by omega)
  obtain⟨a,l,cap,e3,hlc,hsl,_,hw⟩:=HX Tm.nodes (N:=N-1) Tryz.underlying24 w5 (by omega) (RTm (Hp.of W)) (by omega) (λcs d ps fuel h hb=>ih (N-1) (by omega) (by omega) cs d ps fuel h (by omega)) h3 (by omega)
  simp only[Zt,and_true] at e0 e1 e2 e3;subst e0;subst e1;subst e2;subst e3;exact⟨.mk k m s l,RTm.intro ik im (by unfold lim;omega) hlc hsl,by rw[Tm.nodes,nN];omega⟩
theorem GJ(N:Nat)(hN:N<=1048576)(cs:List Value)(d:DataW H)(ps:List MemPlace)(fuel:Nat)(h:DataW.trod enc Tryz.prog W 0 spare held fuel 24 cs=some (d,ps))(hb:uptoBulk d<=N):∃x,RSl 4 RTm (Hp.of W) cs x/\Tm.bp x<=100000000:=by
 obtain⟨a,l,k,e,h1,h2,_,h3⟩:=HX Tm.nodes (N:=N) Tryz.underlying24 w5 (by omega) (RTm (Hp.of W)) hN (λcs d ps fuel h hb=>tm_w N hN cs d ps fuel h (by omega)) h hb
 exact⟨l,⟨a,k,e,h1,h2⟩,by rw[nN];omega⟩
theorem vU{P:Program}{base:Nat}{t:TypeId}{f0 f1 f2 f3 f4 f5:Field}{fuel:Nat}{cs:List Value}{x:DataW H×List MemPlace}(ht:P.underlying t=some (.struct #[f0,f1,f2,f3,f4,f5]))(h:DataW.trod enc P W base spare held fuel t cs=some x):
  ∃y0 y1 y2 y3 y4 y5 n,x=(.agg [y0.1,y1.1,y2.1,y3.1,y4.1,y5.1],y0.2++(y1.2++(y2.2++(y3.2++(y4.2++y5.2)))))/\cs.length=P.cellsOf t/\DataW.trod enc P W base spare held n f0.type ((cs.drop f0.offset).take (P.cellsOf f0.type))=some y0/\DataW.trod enc P W base spare held n f1.type ((cs.drop f1.offset).take (P.cellsOf f1.type))=some y1/\DataW.trod enc P W base spare held n f2.type ((cs.drop f2.offset).take (P.cellsOf f2.type))=some y2/\DataW.trod enc P W base spare held n f3.type ((cs.drop f3.offset).take (P.cellsOf f3.type))=some y3/\DataW.trod enc P W base spare held n f4.type ((cs.drop f4.offset).take (P.cellsOf f4.type))=some y4/\DataW.trod enc P W base spare held n f5.type ((cs.drop f5.offset).take (P.cellsOf f5.type))=some y5:=by
 obtain⟨xs,n,_,rfl,hl,hlen,hf⟩:=DataW.trod_struct ht h
 match xs,hlen with
 |[y0,y1,y2,y3,y4,y5],_=>exact⟨y0,y1,y2,y3,y4,y5,n,by simp,hl,by simpa using hf 0 f0 rfl,by simpa using hf 1 f1 rfl,by simpa using hf 2 f2 rfl,by simpa using hf 3 f3 rfl,by simpa using hf 4 f4 rfl,by simpa using hf 5 f5 rfl⟩
theorem y9:Tryz.prog.cellsOf 125=2:=by kernel_rfl
theorem Ij(N:Nat)(_hN:N<=1048576)(cs:List Value)(d:DataW H)(ps:List MemPlace)(fuel:Nat)(h:DataW.trod enc Tryz.prog W 0 spare held fuel 125 cs=some (d,ps))(hb:uptoBulk d<=N):∃x,RDc (Hp.of W) cs x:=by
 obtain⟨y0,y1,n,hx,hl,h0,h1⟩:=trod_struct2 Tryz.underlying125 h;simp only[Prod.mk.injEq] at hx;obtain⟨rfl,_⟩:=hx;rw[y9] at hl
 match cs,hl with
 |[c0,c1],_=>
  simp only[my,oV,yG,List.drop_succ_cons,Zy,ZK] at h0 h1;simp only[uptoBulk,uptoBulkAll] at hb;obtain⟨v0,e0,i0⟩:=rJ (N:=N) h0 (by omega)
  obtain⟨v1,e1,i1⟩:=sY h1;simp only[Zt,and_true] at e0 e1;subst e0;subst e1;exact⟨⟨v0,v1⟩,rfl,ZN i0 (by unfold lim;omega),i1⟩
theorem Ih(N:Nat)(hN:N<=1048576)(cs:List Value)(d:DataW H)(ps:List MemPlace)(fuel:Nat)(h:DataW.trod enc Tryz.prog W 0 spare held fuel 48 cs=some (d,ps))(hb:uptoBulk d<=N):∃x,RSl 2 RDc (Hp.of W) cs x/\x.length<=N/\∀y∈x,True:=
 FM (λx=>True) Tryz.underlying48 y9 (by omega) RDc hN (λcs d ps fuel h hb=>let ⟨x,hx⟩:=Ij N hN cs d ps fuel h (by omega);⟨x,hx,trivial⟩) h hb
theorem z6:Tryz.prog.cellsOf 26=2:=by kernel_rfl
theorem at_w(N:Nat)(hN:N<=1048576)(cs:List Value)(d:DataW H)(ps:List MemPlace)(fuel:Nat)(h:DataW.trod enc Tryz.prog W 0 spare held fuel 26 cs=some (d,ps))(hb:uptoBulk d<=N):∃x,RAt (Hp.of W) cs x/\Tm.bp x.args<=100000000:=by
 obtain⟨y0,y1,n,hx,hl,h0,h1⟩:=trod_struct2 Tryz.underlying26 h;simp only[Prod.mk.injEq] at hx;obtain⟨rfl,_⟩:=hx;rw[z6] at hl
 match cs,hl with
 |[c0,c1],_=>
  simp only[my,tu,yG,List.drop_succ_cons,Zy,ZK] at h0 h1;simp only[uptoBulk,uptoBulkAll] at hb;obtain⟨v0,e0,i0⟩:=rJ (N:=N) h0 (by omega)
  obtain⟨v1,⟨a1,k1,e1,l1,s1⟩,n1⟩:=GJ N hN _ _ _ _ h1 (by omega)
  simp only[Zt,and_true] at e0 e1;subst e0;subst e1;exact⟨⟨v0,v1⟩,⟨a1,k1,rfl,ZN i0 (by unfold lim;omega),l1,s1⟩,n1⟩
theorem GL(N:Nat)(hN:N<=1048576)(cs:List Value)(d:DataW H)(ps:List MemPlace)(fuel:Nat)(h:DataW.trod enc Tryz.prog W 0 spare held fuel 65 cs=some (d,ps))(hb:uptoBulk d<=N):∃x,RSl 2 RAt (Hp.of W) cs x/\x.length<=N/\∀y∈x,Tm.bp y.args<=100000000:=
 FM (λx=>Tm.bp x.args<=100000000) Tryz.underlying65 z6 (by omega) RAt hN (λcs d ps fuel h hb=>at_w N hN cs d ps fuel h (by omega)) h hb
theorem y8:Tryz.prog.cellsOf 181=3:=by kernel_rfl
theorem gl_w(N:Nat)(hN:N<=1048576)(cs:List Value)(d:DataW H)(ps:List MemPlace)(fuel:Nat)(h:DataW.trod enc Tryz.prog W 0 spare held fuel 181 cs=some (d,ps))(hb:uptoBulk d<=N):∃x,RGl (Hp.of W) cs x/\Tm.bp x.args<=100000000:=by
 obtain⟨y0,y1,y2,n,hx,hl,h0,h1,h2⟩:=Deep.trod_struct3 Tryz.underlying181 h;simp only[Prod.mk.injEq] at hx;obtain⟨rfl,_⟩:=hx;rw[y8] at hl
 match cs,hl with
 |[c0,c1,c2],_=>
  simp only[oV,my,tu,yG,List.drop_succ_cons,Zy,ZK] at h0 h1 h2;simp only[uptoBulk,uptoBulkAll] at hb;obtain⟨v0,e0,i0⟩:=sY h0;obtain⟨v1,e1,i1⟩:=rJ (N:=N) h1 (by omega)
  obtain⟨v2,⟨a2,k2,e2,l2,s2⟩,n2⟩:=GJ N hN _ _ _ _ h2 (by omega)
  simp only[Zt,and_true] at e0 e1 e2;subst e0;subst e1;subst e2;exact⟨⟨v0,v1,v2⟩,⟨a2,k2,rfl,i0,ZN i1 (by unfold lim;omega),l2,s2⟩,n2⟩
theorem GK(N:Nat)(hN:N<=1048576)(cs:List Value)(d:DataW H)(ps:List MemPlace)(fuel:Nat)(h:DataW.trod enc Tryz.prog W 0 spare held fuel 66 cs=some (d,ps))(hb:uptoBulk d<=N):∃x,RSl 3 RGl (Hp.of W) cs x/\x.length<=N/\∀y∈x,Tm.bp y.args<=100000000:=
 FM (λx=>Tm.bp x.args<=100000000) Tryz.underlying66 y8 (by omega) RGl hN (λcs d ps fuel h hb=>gl_w N hN cs d ps fuel h (by omega)) h hb
theorem DB:Tryz.prog.cellsOf 65=1:=by kernel_rfl
theorem Dz:Tryz.prog.cellsOf 66=1:=by kernel_rfl
theorem y7:Tryz.prog.cellsOf 68=6:=by kernel_rfl
theorem rl_w(N:Nat)(hN:N<=1048576)(cs:List Value)(d:DataW H)(ps:List MemPlace)(fuel:Nat)(h:DataW.trod enc Tryz.prog W 0 spare held fuel 68 cs=some (d,ps))(hb:uptoBulk d<=N):∃x,RRl (Hp.of W) cs x/\x.size:=by
 obtain⟨y0,y1,y2,y3,y4,y5,n,hx,hl,h0,h1,h2,h3,h4,h5⟩:=vU Tryz.underlying68 h;simp only[Prod.mk.injEq] at hx;obtain⟨rfl,_⟩:=hx;rw[y7] at hl
 match cs,hl with
 |[c0,c1,c2,c3,c4,c5],_=>
  simp only[my,DB,Dz,oV,yG,List.drop_succ_cons,Zy,ZK] at h0 h1 h2 h3 h4 h5;simp only[uptoBulk,uptoBulkAll] at hb;obtain⟨v0,e0,i0⟩:=rJ (N:=N) h0 (by omega)
  obtain⟨v1,⟨a1,k1,e1,l1,s1⟩,n1⟩:=GL N hN _ _ _ _ h1 (by omega)
  obtain⟨v2,⟨a2,k2,e2,l2,s2⟩,n2⟩:=GL N hN _ _ _ _ h2 (by omega)
  obtain⟨v3,⟨a3,k3,e3,l3,s3⟩,n3⟩:=GK N hN _ _ _ _ h3 (by omega)
  obtain⟨v4,⟨a4,k4,e4,l4,s4⟩,n4⟩:=GK N hN _ _ _ _ h4 (by omega)
  obtain⟨v5,e5,i5⟩:=sY h5;simp only[Zt,and_true] at e0 e1 e2 e3 e4 e5;subst e0;subst e1;subst e2;subst e3;subst e4;subst e5;exact⟨⟨v0,v1,v2,v3,v4,v5⟩,⟨a1,k1,a2,k2,a3,k3,a4,k4,rfl,ZN i0 (by unfold lim;omega),l1,s1,l2,s2,l3,s3,l4,s4,i5⟩,⟨by have:=n1.1;show v1.length<=_;omega,by have:=n2.1;show v2.length<=_;omega,by have:=n3.1;show v3.length<=_;omega,by have:=n4.1;show v4.length<=_;omega,λh hh=>(zY.1 hh).elim (n1.2 h) (n2.2 h),λg hg=>(zY.1 hg).elim (n3.2 g) (n4.2 g)⟩⟩
theorem Ia(N:Nat)(hN:N<=1048576)(cs:List Value)(d:DataW H)(ps:List MemPlace)(fuel:Nat)(h:DataW.trod enc Tryz.prog W 0 spare held fuel 49 cs=some (d,ps))(hb:uptoBulk d<=N):∃x,RSl 6 RRl (Hp.of W) cs x/\x.length<=N/\∀y∈x,y.size:=
 FM (λx=>x.size) Tryz.underlying49 y7 (by omega) RRl hN (λcs d ps fuel h hb=>rl_w N hN cs d ps fuel h (by omega)) h hb
theorem DA:Tryz.prog.cellsOf 48=1:=by kernel_rfl
theorem Dy:Tryz.prog.cellsOf 49=1:=by kernel_rfl
theorem Fl:Tryz.prog.cellsOf 51=2:=by kernel_rfl
theorem pg_w(N:Nat)(hN:N<=1048576)(cs:List Value)(d:DataW H)(ps:List MemPlace)(fuel:Nat)(h:DataW.trod enc Tryz.prog W 0 spare held fuel 51 cs=some (d,ps))(hb:uptoBulk d<=N):∃x,RPg (Hp.of W) cs x/\x.size:=by
 obtain⟨y0,y1,n,hx,hl,h0,h1⟩:=trod_struct2 Tryz.underlying51 h;simp only[Prod.mk.injEq] at hx;obtain⟨rfl,_⟩:=hx;rw[Fl] at hl
 match cs,hl with
 |[c0,c1],_=>
  simp only[DA,Dy,yG,List.drop_succ_cons,Zy,ZK] at h0 h1;simp only[uptoBulk,uptoBulkAll] at hb;obtain⟨v0,⟨a0,k0,e0,l0,s0⟩,n0⟩:=Ih N hN _ _ _ _ h0 (by omega)
  obtain⟨v1,⟨a1,k1,e1,l1,s1⟩,n1⟩:=Ia N hN _ _ _ _ h1 (by omega)
  simp only[Zt,and_true] at e0 e1;subst e0;subst e1;exact⟨⟨v0,v1⟩,⟨a0,k0,a1,k1,rfl,l0,s0,l1,s1⟩,⟨by have:=n0.1;show v0.length<=_;omega,by have:=n1.1;show v1.length<=_;omega,n1.2⟩⟩
end
end Go.CK
