/-
  Texts of this aV joined (wip/gen/bundle.py),those declarations only that are needed:RdIx. By an AI agent.
-/
import Derived.Test.YtcjfkbdbcgmomaaGreatDoorSbi
set_option linter.unusedSimpArgs false
set_option linter.unusedVariables false
set_option maxRecDepth 100000
namespace Go.CK
open Go.RowKit Go.Proofs Go.ChangeShapes Go.WideShapes Go.ChangeAt Go.AM
open Go.Proofs.YtcjfkbdbcgmomaaGreatDoor.Rows (uptoBulk uptoBulkAll uptoSmall)
section
variable{H:Type}{enc:TypeId×Value->H}{W:World}{spare:Nat->Bool}{held:Bool}
theorem Hc(N:Nat)(hN:0 ≤ N)(cs:List Value)(d:DataW H)(ps:List MemPlace)(fuel:Nat)(h:DataW.trod enc Tryz.prog W 0 spare held fuel 24 cs=some (d,ps))(hb:uptoBulk d<=N):∃x,RSl 4 RTm (Hp.of W) cs x:=by
 obtain⟨a,l,k,e,h1,h2,_⟩:=sZ (N:=N) Tryz.underlying24 sC (by omega) (RTm (Hp.of W)) hN (λcs d ps fuel h hb=>JH N hN cs d ps fuel h (by omega)) h hb
 exact⟨l,a,k,e,h1,h2⟩
theorem BZ:Tryz.prog.cellsOf 26=2:=by kernel_rfl
theorem LC(N:Nat)(hN:0 ≤ N)(cs:List Value)(d:DataW H)(ps:List MemPlace)(fuel:Nat)(h:DataW.trod enc Tryz.prog W 0 spare held fuel 26 cs=some (d,ps))(hb:uptoBulk d<=N):∃x,RAt (Hp.of W) cs x:=by
 obtain⟨y0,y1,n,hx,hl,h0,h1⟩:=trod_struct2 Tryz.underlying26 h;simp only[Prod.mk.injEq] at hx;obtain⟨rfl,_⟩:=hx;rw[BZ] at hl
 match cs,hl with
 |[c0,c1],_=>
  simp only[uD,Ca,yU,List.drop_succ_cons,yG,ZM] at h0 h1;simp only[uptoBulk,uptoBulkAll] at hb;obtain⟨v0,e0,i0⟩:=CI (N:=N) h0 (by omega)
  obtain⟨v1,a1,k1,e1,l1,s1⟩:=Hc N hN _ _ _ _ h1 (by omega)
  simp only[yA,and_true] at e0 e1;subst e0;subst e1;exact⟨⟨v0,v1⟩,a1,k1,rfl,i0,l1,s1⟩
theorem uC:Tryz.prog.cellsOf 28=3:=by kernel_rfl
theorem JN(N:Nat)(hN:0 ≤ N)(cs:List Value)(d:DataW H)(ps:List MemPlace)(fuel:Nat)(h:DataW.trod enc Tryz.prog W 0 spare held fuel 28 cs=some (d,ps))(hb:uptoBulk d<=N):∃x,RIt (Hp.of W) cs x:=by
 obtain⟨y0,y1,n,hx,hl,h0,h1⟩:=trod_struct2 Tryz.underlying28 h;simp only[Prod.mk.injEq] at hx;obtain⟨rfl,_⟩:=hx;rw[uC] at hl
 match cs,hl with
 |[c0,c1,c2],_=>
  simp only[lA,BZ,yU,List.drop_succ_cons,yG,ZM] at h0 h1;simp only[uptoBulk,uptoBulkAll] at hb;obtain⟨v0,e0,i0⟩:=ny h0;obtain⟨v1,e1⟩:=LC N hN _ _ _ _ h1 (by omega)
  simp only[yA,and_true] at e0;subst e0;exact⟨⟨v0,v1⟩,_,rfl,i0,e1⟩
theorem Hh(N:Nat)(hN:0 ≤ N)(cs:List Value)(d:DataW H)(ps:List MemPlace)(fuel:Nat)(h:DataW.trod enc Tryz.prog W 0 spare held fuel 22 cs=some (d,ps))(hb:uptoBulk d<=N):∃x,RSl 3 RIt (Hp.of W) cs x:=by
 obtain⟨a,l,k,e,h1,h2,_⟩:=sZ (N:=N) Tryz.underlying22 uC (by omega) (RIt (Hp.of W)) hN (λcs d ps fuel h hb=>JN N hN cs d ps fuel h (by omega)) h hb
 exact⟨l,a,k,e,h1,h2⟩
theorem Jg(N:Nat)(hN:0 ≤ N)(cs:List Value)(d:DataW H)(ps:List MemPlace)(fuel:Nat)(h:DataW.trod enc Tryz.prog W 0 spare held fuel 41 cs=some (d,ps))(hb:uptoBulk d<=N):∃x,RSl 1 Ga (Hp.of W) cs x:=by
 obtain⟨a,l,k,e,h1,h2,_⟩:=sZ (N:=N) Tryz.underlying41 lA (by omega) (Ga (Hp.of W)) hN (λcs d ps fuel h _=>let ⟨n,e,i⟩:=ny h;⟨n,e,i⟩) h hb
 exact⟨l,a,k,e,h1,h2⟩
theorem DI:Tryz.prog.cellsOf 41=1:=by kernel_rfl
theorem B9:Tryz.prog.cellsOf 70=3:=by kernel_rfl
theorem LD(N:Nat)(hN:0 ≤ N)(cs:List Value)(d:DataW H)(ps:List MemPlace)(fuel:Nat)(h:DataW.trod enc Tryz.prog W 0 spare held fuel 70 cs=some (d,ps))(hb:uptoBulk d<=N):∃x,RAc (Hp.of W) cs x:=by
 obtain⟨y0,y1,y2,n,hx,hl,h0,h1,h2⟩:=Deep.trod_struct3 Tryz.underlying70 h;simp only[Prod.mk.injEq] at hx;obtain⟨rfl,_⟩:=hx;rw[B9] at hl
 match cs,hl with
 |[c0,c1,c2],_=>
  simp only[uD,lA,DI,yU,List.drop_succ_cons,yG,ZM] at h0 h1 h2;simp only[uptoBulk,uptoBulkAll] at hb;obtain⟨v0,e0,i0⟩:=CI (N:=N) h0 (by omega)
  obtain⟨v1,e1,i1⟩:=ny h1;obtain⟨v2,a2,k2,e2,l2,s2⟩:=Jg N hN _ _ _ _ h2 (by omega)
  simp only[yA,and_true] at e0 e1 e2;subst e0;subst e1;subst e2;exact⟨⟨v0,v1,v2⟩,a2,k2,rfl,i0,i1,l2,s2⟩
theorem Ho(N:Nat)(hN:0 ≤ N)(cs:List Value)(d:DataW H)(ps:List MemPlace)(fuel:Nat)(h:DataW.trod enc Tryz.prog W 0 spare held fuel 23 cs=some (d,ps))(hb:uptoBulk d<=N):∃x,RSl 3 RAc (Hp.of W) cs x:=by
 obtain⟨a,l,k,e,h1,h2,_⟩:=sZ (N:=N) Tryz.underlying23 B9 (by omega) (RAc (Hp.of W)) hN (λcs d ps fuel h hb=>LD N hN cs d ps fuel h (by omega)) h hb
 exact⟨l,a,k,e,h1,h2⟩
theorem BY:Tryz.prog.cellsOf 102=5:=by kernel_rfl
theorem Ly(N:Nat)(hN:0 ≤ N)(cs:List Value)(d:DataW H)(ps:List MemPlace)(fuel:Nat)(h:DataW.trod enc Tryz.prog W 0 spare held fuel 102 cs=some (d,ps))(hb:uptoBulk d<=N):∃x,RBd (Hp.of W) cs x:=by
 obtain⟨y0,y1,n,hx,hl,h0,h1⟩:=trod_struct2 Tryz.underlying102 h;simp only[Prod.mk.injEq] at hx;obtain⟨rfl,_⟩:=hx;rw[BY] at hl
 match cs,hl with
 |[c0,c1,c2,c3,c4],_=>
  simp only[lA,sC,yU,List.drop_succ_cons,yG,ZM] at h0 h1;simp only[uptoBulk,uptoBulkAll] at hb;obtain⟨v0,e0,i0⟩:=ny h0;obtain⟨v1,e1⟩:=JH N hN _ _ _ _ h1 (by omega)
  simp only[yA,and_true] at e0;subst e0;exact⟨⟨v0,v1⟩,_,rfl,i0,e1⟩
theorem KD(N:Nat)(hN:0 ≤ N)(cs:List Value)(d:DataW H)(ps:List MemPlace)(fuel:Nat)(h:DataW.trod enc Tryz.prog W 0 spare held fuel 30 cs=some (d,ps))(hb:uptoBulk d<=N):∃x,RSl 5 RBd (Hp.of W) cs x:=by
 obtain⟨a,l,k,e,h1,h2,_⟩:=sZ (N:=N) Tryz.underlying30 BY (by omega) (RBd (Hp.of W)) hN (λcs d ps fuel h hb=>Ly N hN cs d ps fuel h (by omega)) h hb
 exact⟨l,a,k,e,h1,h2⟩
theorem xn{P:Program}{base:Nat}{t:TypeId}{f0 f1 f2 f3 f4:Field}{fuel:Nat}{cs:List Value}{x:DataW H×List MemPlace}(ht:P.underlying t=some (.struct #[f0,f1,f2,f3,f4]))(h:DataW.trod enc P W base spare held fuel t cs=some x):
  ∃y0 y1 y2 y3 y4 n,x=(.agg [y0.1,y1.1,y2.1,y3.1,y4.1],y0.2++(y1.2++(y2.2++(y3.2++y4.2))))/\cs.length=P.cellsOf t/\DataW.trod enc P W base spare held n f0.type ((cs.drop f0.offset).take (P.cellsOf f0.type))=some y0/\DataW.trod enc P W base spare held n f1.type ((cs.drop f1.offset).take (P.cellsOf f1.type))=some y1/\DataW.trod enc P W base spare held n f2.type ((cs.drop f2.offset).take (P.cellsOf f2.type))=some y2/\DataW.trod enc P W base spare held n f3.type ((cs.drop f3.offset).take (P.cellsOf f3.type))=some y3/\DataW.trod enc P W base spare held n f4.type ((cs.drop f4.offset).take (P.cellsOf f4.type))=some y4:=by
 obtain⟨xs,n,_,rfl,hl,hlen,hf⟩:=DataW.trod_struct ht h
 match xs,hlen with
 |[y0,y1,y2,y3,y4],_=>exact⟨y0,y1,y2,y3,y4,n,by simp,hl,by simpa using hf 0 f0 rfl,by simpa using hf 1 f1 rfl,by simpa using hf 2 f2 rfl,by simpa using hf 3 f3 rfl,by simpa using hf 4 f4 rfl⟩
theorem RTm.io{M:Hp}{c:List Value}{t:Tm}(h:RTm M c t):t.io:=by
 induction h with
 |mk k n s a cap args es bo hk hn hs hl hc ha hsz hcell hr ih=>
  refine⟨hk,hn,Tm.jr.2 λt ht=>?_⟩;obtain⟨i,hi,rfl⟩:=Zc.1 ht;exact ih i hi
theorem F9.ios{M:Hp}{a:Option Addr}{l:List Tm}(h:F9 M a l):Tm.ios l:=Tm.jr.2 λt ht=>by
 obtain⟨i,hi,rfl⟩:=Zc.1 ht;obtain⟨_,_,_,_,_,_,hr⟩:=h.at_ i hi;exact hr.io
theorem RIt.ios{M:Hp}{c:List Value}{x:It}(h:RIt M c x):Tm.ios x.atom.args:=by
 obtain⟨c1,_,_,a1,k1,_,_,_,hs⟩:=h;exact F9.ios hs
def ROp(M:Hp)(c:List Value)(x:cP):Prop:=CF M x.av.cells c/\(∀u∈c,u.oneCell'=true)/\Tm.ios x.item.atom.args/\Tm.ios x.key/\∀b∈x.binds,b.t.io
theorem ROp.cf{M:Hp}{c:List Value}{x:cP}(h:ROp M c x):CF M x.av.cells c/\∀u∈c,u.oneCell'=true:=⟨h.1,h.2.1⟩
def bnd(b:Bd):Bnd:=⟨b.var,b.term⟩
theorem KW(l:List Bd):(l.map bnd).map Bnd.av=l.map Bd.av:=by rw[List.map_map];rfl
theorem BX:Tryz.prog.cellsOf 32=7:=by kernel_rfl
theorem FT:Tryz.prog.cellsOf 24=1:=by kernel_rfl
theorem FU:Tryz.prog.cellsOf 30=1:=by kernel_rfl
theorem Ll(N:Nat)(hN:0 ≤ N)(cs:List Value)(d:DataW H)(ps:List MemPlace)(fuel:Nat)(h:DataW.trod enc Tryz.prog W 0 spare held fuel 32 cs=some (d,ps))(hb:uptoBulk d<=N):∃x,ROp (Hp.of W) cs x:=by
 obtain⟨y0,y1,y2,y3,y4,n,hx,hl,h0,h1,h2,h3,h4⟩:=xn Tryz.underlying32 h;simp only[Prod.mk.injEq] at hx;obtain⟨rfl,_⟩:=hx;rw[BX] at hl
 match cs,hl with
 |[c0,c1,c2,c3,c4,c5,c6],_=>
  simp only[lA,uC,FT,FU,yU,List.drop_succ_cons,yG,ZM] at h0 h1 h2 h3 h4;simp only[uptoBulk,uptoBulkAll] at hb;obtain⟨v0,e0,i0⟩:=ny h0;obtain⟨v1,e1,i1⟩:=ny h1;obtain⟨v2,r2⟩:=JN N hN _ _ _ _ h2 (by omega)
  obtain⟨v3,r3⟩:=Hc N hN _ _ _ _ h3 (by omega)
  obtain⟨v4,r4⟩:=KD N hN _ _ _ _ h4 (by omega)
  simp only[yA,and_true] at e0 e1;subst e0;subst e1;have t:=CF.app (CF.cons (FV.int .i64 v0) (CF.cons (FV.int .i64 v1) CF.nil)) (CF.app r2.cf.1 (CF.app (r3.cf (f:=Tm.av) λ_ _ _ hc=>RTm.cf hc).1 (r4.cf (f:=Bd.av) λ_ _ _ hc=>RBd.cf hc).1));refine⟨⟨v0,v1,v2,v3,v4.map bnd⟩,?_,λu hu=>?_,r2.ios,?_,λb hbm=>?_⟩
  .show CF _ (AV.cells (.agg [.int .i64 v0,.int .i64 v1,.int .i64 v2.id,.str v2.atom.name,.sl .no (v2.atom.args.map Tm.av),.sl .no (v3.map Tm.av),.sl .no ((v4.map bnd).map Bnd.av)])) _;rw[KW];exact t
  .have h2:=r2.cf.2;have h3:=(r3.cf (f:=Tm.av) λ_ _ _ hc=>RTm.cf hc).2;have h4:=(r4.cf (f:=Bd.av) λ_ _ _ hc=>RBd.cf hc).2;simp only[zI,yY,or_false] at hu h2 h3 h4;rcases hu with rfl|rfl|rfl|rfl|rfl|rfl|rfl
   .rfl
   .rfl
   .exact h2 _ (.inl rfl)
   .exact h2 _ (.inr (.inl rfl))
   .exact h2 _ (.inr (.inr rfl))
   .exact h3 _ rfl
   .exact h4 _ rfl
  .obtain ⟨a,k,_,_,hs⟩:=r3;exact F9.ios hs
  .obtain ⟨y,hy,rfl⟩:=zl.1 hbm;obtain⟨_,_,_,_,hs⟩:=r4;obtain⟨m,hm,rfl⟩:=Zc.1 hy;obtain⟨_,_,_,_,_,_,hr⟩:=hs.at_ m hm;obtain⟨_,_,_,hr⟩:=hr;exact hr.io
theorem Hg(N:Nat)(hN:0 ≤ N)(cs:List Value)(d:DataW H)(ps:List MemPlace)(fuel:Nat)(h:DataW.trod enc Tryz.prog W 0 spare held fuel 34 cs=some (d,ps))(hb:uptoBulk d<=N):∃x,RSl 7 ROp (Hp.of W) cs x:=by
 obtain⟨a,l,k,e,h1,h2,_⟩:=sZ (N:=N) Tryz.underlying34 BX (by omega) (ROp (Hp.of W)) hN (λcs d ps fuel h hb=>Ll N hN cs d ps fuel h (by omega)) h hb
 exact⟨l,a,k,e,h1,h2⟩
end
theorem pL{P:Program}{x:String×DataW Unit}{r:List (String×DataW Unit)}{W:World}(h:laidMet P (x::r) W):laidMet P r W:=by
 obtain⟨ps,⟨g,t,cs,fuel,p,q,_,_,_,_,hq,rfl⟩,hn,hr⟩:=h;exact⟨q,hq,(List.nodup_append.1 hn).2.1,λb off hm=>hr b off (ZW _ hm)⟩
theorem JI {x y : String × DataW Unit} {W : World} (h : laidMet Tryz.prog [x, y, ("internal/strconv.uint64pow10", Lib.tabData .u64 Lib.pow10Tab)] W) : ∃ T fz, W.heap[AM.KB]? = some (.cells AM.KV.toArray T fz) := by
 have h1 : Lib.TabIs Tryz.prog W "internal/strconv.uint64pow10" .u64 Lib.pow10Tab := Lib.tabIs_of_head (g := 1) (t := 314) (n := 20) (by kernel_rfl) (by kernel_rfl) (by kernel_rfl) Tryz.underlying76 (by kernel_rfl) (by kernel_rfl) (pL (pL h))
 have hg : Tryz.prog.globalNamed "internal/strconv.uint64pow10" = some 1 := by kernel_rfl
 have hz:(Lib.pow10Tab.map λz=>Value.int .u64 z)=AM.KV:=by kernel_rfl
 unfold Lib.TabIs World.var? at h1;rw[hg,ZH,hz] at h1;split at h1
 .rename_i cs T fz e;cases h1;exact⟨T,fz,e⟩
 .cases h1
end Go.CK
