/-
  Texts of this aQ joined (wip/gen/bundle.py),those declarations only that are needed:AskM AskN FunC Read RdBnd RdAsk. By an AI agent.
-/
import Derived.Test.YtahnpgfkkngimaaGreatBec
import Derived.Test.YtahnpgfkkngimaaGreatRows
import Derived.ProofKit
import Derived.OpenShut
import Derived.ShutString
import Derived.ChangeOld
import Derived.JoinedCond
import Derived.Deep.Slices
import Derived.Lib.SmallJoins
set_option linter.unusedSimpArgs false
set_option linter.unusedVariables false
set_option maxRecDepth 100000
set_option maxRecDepth 100000
namespace Go.CK
open Go.AM Go.Proofs
theorem PM{b:List Bnd}{t:Tm}(h:¬t.kind=1):(cR b t).kind=t.kind:=by
 by_cases h2:t.kind=2
 .rw [HM h2];rfl
 .rw [HL h h2]
mutual
theorem Pm{b:List Bnd}:∀t:Tm,t.vs=[]->cR b t=t
 |.mk k n s l,h=>by
  rw[Tm.vs] at h
  by_cases h1:k=1
  .rw [if_pos h1] at h;cases h
  rw[if_neg h1] at h
  by_cases h2:k=2
  .rw [if_pos h2] at h;have:=Px (b:=b) l h;rw[x7] at this;rw[HM (t:=.mk k n s l) h2];show Tm.mk k n s (l.map (cR b))=_;rw[this]
  .rw [HL (t:=.mk k n s l) h1 h2]
theorem Px{b:List Bnd}:∀l:List Tm,Tm.vss l=[]->Ef b l=l
 |[],_=>by simp[Ef]
 |t::r,h=>by
  simp only[Tm.vss,List.append_eq_nil_iff] at h;simp only[Ef];rw[Pm t h.1,Px r h.2]
end
mutual
theorem Pq{b:List Bnd}:∀t:Tm,(cR b t).Mm=true->t.Mm=true
 |.mk k n s l,h=>by
  by_cases h1:k=0\/k=1
  .exact Oj (t:=.mk k n s l) h1
  by_cases h2:k=2
  .rw [HM (t:=.mk k n s l) h2] at h;have h:(Tm.mk k n s (l.map (cR b))).Mm=true:=h;rw[OD (t:=.mk k n s (l.map (cR b))) h2] at h;rw[OD (t:=.mk k n s l) h2];simp only[Tm.name,Tm.args,ZF,ZD] at h|-;rw[<-x7] at h;exact⟨h.1,h.2.1,Pv l h.2.2⟩
  .rw [HL (t:=.mk k n s l) (λe=>h1 (.inr e)) h2] at h;exact h
theorem Pv{b:List Bnd}:∀l:List Tm,Tm.Nx (Ef b l)=true->Tm.Nx l=true
 |[],_=>rfl
 |t::r,h=>by
  simp only[Ef,Tm.Nx,ZD] at h|-;exact⟨Pq t h.1,Pv r h.2⟩
end
theorem Po{b:List Bnd}{g:Gl}{i:Nat}(h:i<g.args.length):arg (Nh b g) i=cR b (arg g i):=by
 have h1:=MK h;have h2:=MK (g:=Nh b g) (i:=i) (by show i<(g.args.map _).length;rw[ZF];exact h)
 have h3:(Nh b g).args[i]? =some (cR b (arg g i)):=by show (g.args.map _)[i]? =_;rw[YD,h1];rfl
 rw[h3] at h2;exact(XV h2).symm
theorem PF{b:List Bnd}{g:Gl}(hb:∀x∈b,x.t.nodes<=40)(hN:Tm.ai g.args<=100)(hr:g.right=true)(hh:(Nh b g).right=true):MQ g=0\/MQ (Nh b g)=MQ g:=by
 have hNh:=Ps hb g
 cases ht:g.test with
 |false=>
  have hth:(Nh b g).test=false:=by
   unfold Gl.test at ht|-;rw[hr,Bool.and_true] at ht;rw[hh,Bool.and_true];exact ht
  refine .inr ?_;unfold MQ NF
  rw[ht,hth,hr,hh];rfl
 |true=>
 have hth:(Nh b g).test=true:=by
  unfold Gl.test at ht|-;rw[hr,Bool.and_true] at ht;rw[hh,Bool.and_true];exact ht
 obtain⟨hop,hn,hl,hv⟩:=Pf ht;rw[Pp ht,Pp hth];show _\/Oz g.op _ _ _=_
 have h0:0<g.args.length:=by
  by_cases hq:g.op<=10
  .have:=Pz ht hq;omega
  .have:=PV ht hq;omega
 rw[Po h0]
 by_cases h11:g.op=11
 .unfold Oz;rw[if_pos h11,if_pos h11]
  by_cases hk:(arg g 0).kind=1
  .rw [if_pos hk];exact .inl rfl
  .rw [PM hk];exact .inr rfl
 by_cases h12:g.op=12
 .unfold Oz;rw[if_neg h11,if_pos h12,if_neg h11,if_pos h12]
  by_cases hk:(arg g 0).gnd=true
  .have:=hk;unfold Tm.gnd at this;rw[decide_eq_true_eq] at this;rw[Pm _ this];exact .inr rfl
  .rw [if_neg hk];exact .inl rfl
 have h2:=Pz ht (by omega)
 have h2h:=Pz hth (by show g.op<=10;omega)
 rw[Po (i:=1) (by omega)]
 have a0:=Pj ht (i:=0) (by omega)
 have a1:=Pj ht (i:=1) (by omega)
 have c0:=Pj hth (i:=0) (by omega)
 have c1:=Pj hth (i:=1) (by omega)
 have n0:=MS g 0;have n1:=MS g 1;have m0:=MS (Nh b g) 0;have m1:=MS (Nh b g) 1;rw[Po h0] at c0 m0;rw[Po (i:=1) (by omega)] at c1 m1
 generalize arg g 0=x at*;generalize arg g 1=y at*
 by_cases h56:g.op=5\/g.op=6
 .unfold Oz;rw[if_neg h11,if_neg h12,if_pos h56,if_neg h11,if_neg h12,if_pos h56]
  by_cases hc:x.cmp y=0
  .rw [PJ (cU a0) (cU a1)] at hc;subst hc;rw[if_pos (Tm.HD _),if_pos (Tm.HD _)];exact .inr rfl
  rw[if_neg hc]
  cases hu:uni x y with
  |true=>exact .inl rfl
  |false=>
   have hno:∀σ,¬app σ x=app σ y:=λσ e=>by
    have:=(PH a0 a1 (by omega)).2 ⟨σ,e⟩
    rw[hu] at this;cases this
   have ex:=PD b x (fi x (cU a0));have ey:=PD b y (fi y (cU a1))
   have hc2:¬(cR b x).cmp (cR b y)=0:=λe=>by
    rw[PJ (cU c0) (cU c1),ex,ey] at e;exact hno _ e
   have hu2:uni (cR b x) (cR b y)=false:=by
    rw[Bool.eq_false_iff];intro e;obtain⟨σ,hσ⟩:=(PH c0 c1 (by omega)).1 e
    rw[ex,ey,PK,PK] at hσ;exact hno _ hσ
   rw[if_neg hc2,hu2];exact .inr rfl
 .rw [Pu (by omega),Pu (by omega)]
  unfold N3 MU
  by_cases hnn:x.Mm=true/\y.Mm=true
  .rw [if_pos hnn]
   by_cases hgg:x.gnd=true/\y.gnd=true
   .have g0:=hgg.1;have g1:=hgg.2;unfold Tm.gnd at g0 g1;rw[decide_eq_true_eq] at g0 g1;rw[Pm _ g0,Pm _ g1,if_pos hnn,if_pos hgg];exact .inr rfl
   .rw [if_neg hgg];exact .inl rfl
  .have hn2:¬((cR b x).Mm=true/\(cR b y).Mm=true):=λe=>hnn ⟨Pq _ e.1,Pq _ e.2⟩;rw[if_neg hnn,if_neg hn2];exact .inr rfl
theorem Py{b:List Bnd}(hb:∀x∈b,x.t.nodes<=40):∀x∈b,x.t.nodes<=1000000/\x.t.vs.length<=100000:=λx hx=>by
 have:=hb x hx;have:=zw x.t;omega
theorem PB(b:List Bnd)(g:Gl):Fun Tryz.prog 8 [.sl .no (b.map Bnd.av),g.av] (.bool true):=by
 have hlg:=PQ b;have g1:=ND (l:=[g]) (most:=100) (by decide) (by decide)
 cases h1:Pr b with
 |true=>
  rw[h1] at hlg;refine Fun.of (O7 (by simp) ?_) rfl rfl
  conv=>whnf
  repeat' (first|(refine gF ?_;first|refine ab.fn (hlg) ?_|refine ab.fn (Nz) ?_)|refine gC (cY ?_)|refine af.nrm ?_)<;>conv=>whnf
 |false=>
 rw[h1] at hlg;obtain⟨hb1,hb2⟩:=PR h1;have hrb:=EE b (Py hb2)
 cases h2:cL b with
 |false=>
  rw[h2] at hrb;refine Fun.of (O7 (by simp) ?_) rfl rfl
  conv=>whnf
  repeat' (first|(refine gF ?_;first|refine ab.fn (hlg) ?_|refine ab.fn (hrb) ?_|refine ab.fn (Nz) ?_)|(refine gC ?_;first|refine cY ?_|refine cN ?_|refine .not ?_)|refine af.nrm ?_)<;>conv=>whnf
 |true=>
 rw[h2] at hrb
 cases h3:L2 ([g].map gl2) 100 with
 |true=>
  rw[h3] at g1;refine Fun.of (O7 (by simp) ?_) rfl rfl
  conv=>whnf
  repeat' (first|(refine gF ?_;first|refine ab.fn (hlg) ?_|refine ab.fn (hrb) ?_|refine ab.fn (g1) ?_|refine ab.fn (Nz) ?_)|(refine gC ?_;first|refine cY ?_|refine cN ?_|refine .not ?_)|refine af.nrm ?_)<;>conv=>whnf
 |false=>
 rw[h3] at g1;have hq:=NZ h3 g (by simp)
 have hn:=Ps hb2 g;have hlen:(Nh b g).args.length<=1000:=by show (g.args.map _).length<=_;rw[ZF];omega
 have ha:=Pn b g (by omega);have hrh:=MP (Nh b g) (by omega) (by omega)
 cases h4:(Nh b g).right with
 |false=>
  rw[h4] at hrh;refine Fun.of (O7 (by simp) ?_) rfl rfl
  conv=>whnf
  repeat' (first|(refine gF ?_;first|refine ab.fn (hlg) ?_|refine ab.fn (hrb) ?_|refine ab.fn (g1) ?_|refine ab.fn (ha) ?_|refine ab.fn (hrh) ?_|refine ab.fn (Nz) ?_)|(refine gC ?_;first|refine cY ?_|refine cN ?_|refine .not ?_)|refine af.nrm ?_)<;>conv=>whnf
 |true=>
 rw[h4] at hrh;have ht:=M8 g (by omega) (by omega)
 have hrg:=MP g (by omega) (by omega)
 have hIn:=OS (b:=b) (known:=[]) (g:=g) (by omega) (by omega) (by omega) (fun x hx=>by cases hx) (M8 (Nh b g) (by omega) (by omega))
 have hin:inG b [] g (MQ (Nh b g))=MQ (Nh b g):=by unfold inG inK;simp
 rw[hin] at hIn
 cases h5:g.right with
 |false=>
  rw[h5] at hrg;refine Fun.of (O7 (by simp) ?_) rfl rfl
  conv=>whnf
  repeat' (first|(refine gF ?_;first|refine ab.fn (hlg) ?_|refine ab.fn (hrb) ?_|refine ab.fn (g1) ?_|refine ab.fn (ha) ?_|refine ab.fn (hrh) ?_|refine ab.fn (ht) ?_|refine ab.fn (hrg) ?_|refine ab.fn (Nz) ?_)|(refine gC ?_;first|refine cY ?_|refine cN ?_|refine .not ?_|(refine gD ?_;first|refine cI ?_|refine cJ ?_)|refine aq.dec (λhc=>?_) (λhc=>?_))|refine af.nrm ?_)<;>conv=>whnf
  all_goals rfl
 |true=>
 rw[h5] at hrg;rcases PF hb2 (by omega) h5 h4 with h6|h6
 .rw [h6] at ht;refine Fun.of (O7 (by simp) ?_) rfl rfl
  conv=>whnf
  repeat' (first|(refine gF ?_;first|refine ab.fn (hlg) ?_|refine ab.fn (hrb) ?_|refine ab.fn (g1) ?_|refine ab.fn (ha) ?_|refine ab.fn (hrh) ?_|refine ab.fn (ht) ?_|refine ab.fn (Nz) ?_)|(refine gC ?_;first|refine cY ?_|refine cN ?_|refine .not ?_|refine gD (cI ?_))|refine af.nrm ?_)<;>conv=>whnf
  all_goals rfl
 .rw [h6] at hIn;refine Fun.of (O7 (by simp) ?_) rfl rfl
  conv=>whnf
  repeat' (first|(refine gF ?_;first|refine ab.fn (hlg) ?_|refine ab.fn (hrb) ?_|refine ab.fn (g1) ?_|refine ab.fn (ha) ?_|refine ab.fn (hrh) ?_|refine ab.fn (ht) ?_|refine ab.fn (hrg) ?_|refine ab.fn (hIn) ?_|refine ab.fn (Nz) ?_)|(refine gC ?_;first|refine cY ?_|refine cN ?_|refine .not ?_|(refine gD ?_;first|refine cI ?_|refine cJ ?_)|refine aq.dec (λhc=>?_) (λhc=>?_))|refine af.nrm ?_)<;>conv=>whnf
  all_goals rfl
end Go.CK
namespace Go.CK
open Go.AM Go.Proofs
theorem Pt{b:List Bd}{g:Gl}:Fun Tryz.prog 8 [slA Bd.av b,g.av] (.bool true):=by
 have h:=PB (b.map Bd.bnd) g;rw[List.map_map] at h;exact h
end Go.CK
namespace Go.CK
open Go.RowKit Go.AM
def sF(M:Hp):List AV->List Value->Prop
 |[],[]=>True
 |x::xs,v::vs=>FV M x v/\sF M xs vs
 |_,_=>False
theorem sF.len{M:Hp}:∀{xs:List AV} {vs:List Value},sF M xs vs->vs.length=xs.length
 |[],[],_=>rfl
 |_::xs,_::vs,h=>by simp[sF.len h.2]
 |[],_::_,h=>h.elim
 |_::_,[],h=>h.elim
theorem sF.get{M:Hp}:∀{xs:List AV} {vs:List Value},sF M xs vs->∀j (h:j<xs.length) v,vs[j]? =some v->FV M xs[j] v
 |[],[],_,j,h,_,_=>by cases h
 |_::xs,_::vs,h,0,_,v,hv=>by
  simp only[Yq,ZN] at hv
  subst hv;exact h.1
 |_::xs,_::vs,h,j+1,hj,v,hv=>sF.get h.2 j (by simpa using hj) v (by simpa using hv)
 |[],_::_,h,_,_,_,_=>h.elim
 |_::_,[],h,_,_,_,_=>h.elim
theorem Fun.calls{P:Program}{f:FuncId}{vals:List AV}{b:Bool}(h:Fun P f vals (.bool b)){w:World}{args:List Value}(ha:sF (Hp.of w) vals args):
  Calls P f args.toArray w λe w'=>e=.returned (.bool b)/\Ext w w':=by
 refine(((h []).mono (Q':=λr _=>r=.bool b) λr bs hq=>hq.1).calls (Hp.le_refl _) ha.len ha.get).mono ?_;rintro e w' ⟨v,r,bs',M',σ,n,rfl,rfl,hv,hx,_⟩;exact⟨by rw[hv.cB],hx⟩
end Go.CK
namespace Go.CK
open Go.RowKit Go.Proofs Go.ChangeShapes Go.WideShapes Go.ChangeAt
open Go.Proofs.YtahnpgfkkngimaaGreat.Rows (uptoBulk uptoBulkAll uptoSmall)
theorem Bs{H:Type}(d:DataW H):1<=uptoBulk d:=by
 cases d with
 |lit l=>cases l<;>simp[uptoBulk]
 |nil=>simp[uptoBulk]
 |ptr d=>simp[uptoBulk]
 |slice elems spare=>simp[uptoBulk]
 |agg parts=>simp[uptoBulk]
 |iface t d=>simp[uptoBulk]
 |map entries=>simp[uptoBulk]
 |held h=>simp[uptoBulk]
theorem om{H:Type}{d:DataW H}{l:List (DataW H)}(h:d∈l):uptoBulk d<=uptoBulkAll l:=by
 induction l with
 |nil=>cases h
 |cons x r ih=>
  simp only[uptoBulkAll]
  cases ZI.1 h with
  |inl e=>subst e;omega
  |inr e=>have:=ih e;omega
theorem HI{H:Type}(l:List (DataW H)):l.length<=uptoBulkAll l:=by
 induction l with
 |nil=>simp[uptoBulkAll]
 |cons x r ih=>have:=Bs x;simp only[uptoBulkAll,ZX];omega
theorem C3{H:Type}{l:List (DataW H)}(hk:uptoSmall H l=true):uptoBulkAll l<=1048576:=of_decide_eq_true hk
section
variable{H:Type}{enc:TypeId×Value->H}{P:Program}{W:World}{spare:Nat->Bool}{held:Bool}
theorem Ju{α:Type}{T e:TypeId}{sz N:Nat}(hu:P.underlying T=some (.slice e))(hsz:P.cellsOf e=sz)(hp:0<sz)(R:List Value->α->Prop)(hN:0 ≤ N)
  (ih:∀(cs:List Value) (d:DataW H) (ps:List MemPlace) (fuel:Nat),DataW.trod enc P W 0 spare held fuel e cs=some (d,ps)->uptoBulk d<N->∃x,R cs x)
  {fuel:Nat} {cs:List Value} {d:DataW H} {ps:List MemPlace} (h:DataW.trod enc P W 0 spare held fuel T cs=some (d,ps)) (hb:uptoBulk d<=N):
  ∃(a:Option Addr) (l:List α) (cap:Nat),cs=[.slice a l.length cap]/\l.length<=cap/\Sl (Hp.of W) sz R a l/\l.length<=N:=by
 subst hsz;rcases Deep.open_slice hu h with ⟨rfl,_⟩|⟨a,len,cap,m,n,D,Pl,rfl,_,hlc,hcm,hm,hx,hel⟩
 .exact ⟨none,[],0,rfl,by simp,Sl.nil,by simp⟩
 .simp only[Prod.mk.injEq] at hx;obtain⟨rfl,_⟩:=hx;have hlm:len<=m:=by rw[hm];split<;>omega
  simp only[uptoBulk] at hb;have hlen:=HI ((List.range len).map D);rw[ZF,Yu] at hlen
  have hD:∀i,i<len->∃x cs',W.cells? 0 (a.add (i*P.cellsOf e)) (P.cellsOf e)=some cs'/\R cs' x:=λi hi=>by
   obtain⟨cs',h1,h2⟩:=hel i (by omega)
   have hbi:uptoBulk (D i)<=uptoBulkAll ((List.range len).map D):=om (Zk.2 ⟨i,by simpa using hi,rfl⟩)
   obtain⟨x,hx⟩:=ih cs' (D i) (Pl i) n h2 (by omega)
   exact⟨x,cs',h1,hx⟩
  refine⟨some a,List.ofFn (λi:Fin len=>(hD i.1 i.2).choose),cap,by simp,by simpa using hlc,⟨by simp only [List.length_ofFn];unfold maxLen at hcm;unfold lim;omega,λi hi=>?_⟩,by simp;omega⟩
  rw[List.length_ofFn] at hi
  have hspot:a.spot=none:=by
   obtain⟨cs',h1,_⟩:=hel 0 (by omega)
   obtain⟨_,h2,h3⟩:=World.cells?_some h1;have h4:=h3 0 hp;rw[ZA (by omega)] at h4
   simp only[Nat.zero_mul] at h4;have h5:(a.add 0).add 0=a:=by simp[Addr.add]
   rw[h5] at h4
   cases hs:a.spot with
   |none=>rfl
   |some k=>
    simp only[World.cell?,hs] at h4;split at h4<;>simp at h4
  obtain⟨cs',h1,h2⟩:=(hD i hi).choose_spec;obtain⟨_,h3,h4⟩:=World.cells?_some h1;have ha:a=⟨a.block,a.off,none⟩:=by cases a;simp only at hspot;subst hspot;rfl
  refine⟨a.block,a.off,cs',by rw[<-ha],h3,λj x hj=>?_,by simpa using h2⟩
  have hj2:j<P.cellsOf e:=by rw[<-h3];exact(ZB.1 hj).1
  have h5:=h4 j hj2;rw[Deep.add_add] at h5
  have h6:a.add (i*P.cellsOf e+j)=⟨a.block,a.off+i*P.cellsOf e+j,none⟩:=by
   unfold Addr.add;split
   .rename_i h0;rw[ha];simp;omega
   .simp
  rw[h6,hj] at h5;exact h5
end
theorem Bm:Tryz.prog.cellsOf 3=1:=by kernel_rfl
theorem HG:Tryz.prog.cellsOf 9=1:=by kernel_rfl
theorem HF:Tryz.prog.cellsOf 24=1:=by kernel_rfl
theorem y9:Tryz.prog.cellsOf 26=4:=by kernel_rfl
section
variable{H:Type}{enc:TypeId×Value->H}{W:World}{spare:Nat->Bool}{held:Bool}
theorem CL{fuel:Nat}{cs:List Value}{d:DataW H}{ps:List MemPlace}(h:DataW.trod enc Tryz.prog W 0 spare held fuel 3 cs=some (d,ps)):∃n,cs=[.int .i64 n]/\bW n:=by
 obtain⟨n,h1,_,h3⟩:=DataW.trod_int Tryz.underlying3 h;exact⟨n,h1,bW.K2 h3⟩
theorem JP{N fuel:Nat}{cs:List Value}{d:DataW H}{ps:List MemPlace}(h:DataW.trod enc Tryz.prog W 0 spare held fuel 9 cs=some (d,ps))(hb:uptoBulk d<=N):∃s:ByteArray,cs=[.string s]/\s.size<=lim:=by
 obtain⟨s,h1,_,h3⟩:=DataW.trod_string Tryz.underlying9 h;exact ⟨s,h1,by unfold maxLen at h3;unfold lim;omega⟩
theorem F1:∀(N:Nat),0 ≤ N->∀(cs:List Value) (d:DataW H) (ps:List MemPlace) (fuel:Nat),DataW.trod enc Tryz.prog W 0 spare held fuel 26 cs=some (d,ps)->uptoBulk d<=N->∃t,RTm (Hp.of W) cs t:=by
 intro N
 induction N using Nat.strongRecOn with
 |_ N ih=>
 intro hN cs d ps fuel h hb;obtain⟨y0,y1,y2,y3,n,hx,hl,h0,h1,h2,h3⟩:=Joins.trod_struct4 Tryz.underlying26 h;simp only[Prod.mk.injEq] at hx;obtain⟨rfl,_⟩:=hx;rw[y9] at hl
 match cs,hl with
 |[c0,c1,c2,c3],_=>
  simp only[Bm,HG,HF,Xb,List.drop_succ_cons,XN,YJ] at h0 h1 h2 h3;simp only[uptoBulk,uptoBulkAll] at hb;have:=Bs y3.1;obtain⟨k,e0,ik⟩:=CL h0;obtain⟨m,e1,im⟩:=CL h1;obtain⟨s,e2,is⟩:=JP (N:=N) h2 (by omega)
  obtain⟨a,l,cap,e3,hlc,hsl,_⟩:=Ju (N:=N-1) Tryz.underlying24 y9 (by omega) (RTm (Hp.of W)) (by omega) (λcs d ps fuel h hb=>ih (N-1) (by omega) (by omega) cs d ps fuel h (by omega)) h3 (by omega)
  simp only[XG,and_true] at e0 e1 e2 e3;subst e0;subst e1;subst e2;subst e3;exact⟨.mk k m s l,RTm.intro ik im is hlc hsl⟩
end
end Go.CK
namespace Go.CK
open Go.RowKit Go.Proofs Go.ChangeShapes Go.WideShapes Go.ChangeAt
open Go.Proofs.YtahnpgfkkngimaaGreat.Rows (uptoBulk uptoBulkAll uptoSmall)
section
variable{H:Type}{enc:TypeId×Value->H}{W:World}{spare:Nat->Bool}{held:Bool}
theorem Bl:Tryz.prog.cellsOf 56=5:=by kernel_rfl
theorem Ld(N:Nat)(hN:0 ≤ N)(cs:List Value)(d:DataW H)(ps:List MemPlace)(fuel:Nat)(h:DataW.trod enc Tryz.prog W 0 spare held fuel 56 cs=some (d,ps))(hb:uptoBulk d<=N):∃x,RBd (Hp.of W) cs x:=by
 obtain⟨y0,y1,n,hx,hl,h0,h1⟩:=trod_struct2 Tryz.underlying56 h;simp only[Prod.mk.injEq] at hx;obtain⟨rfl,_⟩:=hx;rw[Bl] at hl
 match cs,hl with
 |[c0,c1,c2,c3,c4],_=>
  simp only[Bm,y9,Xb,List.drop_succ_cons,XN,YJ] at h0 h1;simp only[uptoBulk,uptoBulkAll] at hb;obtain⟨v0,e0,i0⟩:=CL h0;obtain⟨v1,e1⟩:=F1 N hN _ _ _ _ h1 (by omega)
  simp only[XG,and_true] at e0;subst e0;exact⟨⟨v0,v1⟩,_,rfl,i0,e1⟩
theorem Kn(N:Nat)(hN:0 ≤ N)(cs:List Value)(d:DataW H)(ps:List MemPlace)(fuel:Nat)(h:DataW.trod enc Tryz.prog W 0 spare held fuel 23 cs=some (d,ps))(hb:uptoBulk d<=N):∃x,RSl 5 RBd (Hp.of W) cs x:=by
 obtain⟨a,l,k,e,h1,h2,_⟩:=Ju (N:=N) Tryz.underlying23 Bl (by omega) (RBd (Hp.of W)) hN (λcs d ps fuel h hb=>Ld N hN cs d ps fuel h (by omega)) h hb
 exact⟨l,a,k,e,h1,h2⟩
end
end Go.CK
namespace Go.CK
open Go.RowKit Go.Proofs Go.ChangeShapes Go.WideShapes Go.ChangeAt
open Go.Proofs.YtahnpgfkkngimaaGreat.Rows (uptoBulk uptoBulkAll uptoSmall)
section
variable{H:Type}{enc:TypeId×Value->H}{W:World}{spare:Nat->Bool}{held:Bool}
theorem OW(N:Nat)(hN:0 ≤ N)(cs:List Value)(d:DataW H)(ps:List MemPlace)(fuel:Nat)(h:DataW.trod enc Tryz.prog W 0 spare held fuel 24 cs=some (d,ps))(hb:uptoBulk d<=N):∃x,RSl 4 RTm (Hp.of W) cs x:=by
 obtain⟨a,l,k,e,h1,h2,_⟩:=Ju (N:=N) Tryz.underlying24 y9 (by omega) (RTm (Hp.of W)) hN (λcs d ps fuel h hb=>F1 N hN cs d ps fuel h (by omega)) h hb
 exact⟨l,a,k,e,h1,h2⟩
theorem OH:Tryz.prog.cellsOf 41=3:=by kernel_rfl
theorem O1(N:Nat)(hN:0 ≤ N)(cs:List Value)(d:DataW H)(ps:List MemPlace)(fuel:Nat)(h:DataW.trod enc Tryz.prog W 0 spare held fuel 41 cs=some (d,ps))(hb:uptoBulk d<=N):∃x,RGl (Hp.of W) cs x:=by
 obtain⟨y0,y1,y2,n,hx,hl,h0,h1,h2⟩:=Deep.trod_struct3 Tryz.underlying41 h;simp only[Prod.mk.injEq] at hx;obtain⟨rfl,_⟩:=hx;rw[OH] at hl
 match cs,hl with
 |[c0,c1,c2],_=>
  simp only[Bm,HG,HF,Xb,List.drop_succ_cons,XN,YJ] at h0 h1 h2;simp only[uptoBulk,uptoBulkAll] at hb;obtain⟨v0,e0,i0⟩:=CL h0;obtain⟨v1,e1,i1⟩:=JP (N:=N) h1 (by omega)
  obtain⟨v2,a2,k2,e2,l2,s2⟩:=OW N hN _ _ _ _ h2 (by omega)
  simp only[XG,and_true] at e0 e1 e2;subst e0;subst e1;subst e2;exact⟨⟨v0,v1,v2⟩,a2,k2,rfl,i0,i1,l2,s2⟩
end
end Go.CK
