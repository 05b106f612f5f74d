/-
  Texts of this aX joined (wip/gen/bundle.py),those declarations only that are needed:GdN GdO GdP GdQ FunC Read RdGua. By an AI agent.
-/
import Derived.Test.YtpihbplamelcnaaGreatBbm
import Derived.Test.YtpihbplamelcnaaGreatRows
import Derived.ProofKit
import Derived.OpenShut
import Derived.ShutString
import Derived.ChangeOld
import Derived.JoinedCond
import Derived.Deep.Slices
import Derived.Lib.SmallJoins
import Derived.SizedLaws
set_option linter.unusedSimpArgs false
set_option linter.unusedVariables false
set_option maxRecDepth 100000
set_option maxRecDepth 100000
namespace Go.CK
open Go.AM Go.Proofs
theorem bN:∀{l:List (List Tm×ByteArray)} {most:Int},0<=most->a7 l most=false->(l.length:Int)<=most
 |[],_,h0,_=>by simpa using h0
 |a::l,most,h0,h=>by
  rw[a7,if_neg (by omega)] at h
  have h8:=jS a.2.size;rcases Int.lt_or_le (bH a.1 (most-1-(a.2.size:Int).tdiv 8) 64) 0 with h1|h1
  .rw [dV _ h1] at h;cases h
  .have h2:=(dN h1).2.2;have:=bN h1 h;rw[zX];omega
theorem mP{l:List Gl}{most:Int}(h0:0<=most)(hm:most<=1000)(h:a7 (l.map gl2) most=false):(∀g∈l,Tm.aj g.args<=90000/\g.args.length<=4000000000)/\l.length<=1000:=by
 refine⟨λg hg=>by have:=dU h g hg;omega,?_⟩
 have:=bN h0 h;rw[zF] at this;omega
theorem ve(l:List Gl):b9 l=([],2)\/b9 l=([],1)\/∃m,0<m.length/\b9 l=(m,0):=by
 cases h:cW [] l with
 |none=>exact .inl (su h)
 |some m=>cases m with
  |nil=>exact .inr (.inl (sw h))
  |cons x r=>exact .inr (.inr ⟨x::r,by simp,mc h (by simp)⟩)
theorem p5:∀{l out m:List Gl},cW out l=some m->(∀g∈m,g∈out\/g∈l)/\m.length<=out.length+l.length
 |[],out,m,h=>by
  cases h
  exact⟨λg hg=>.inl hg,zG _⟩
 |g::r,out,m,h=>by
  rw[cW] at h;split at h
  .cases h
  .split at h
   .obtain ⟨h1,h2⟩:=p5 h;refine⟨λx hx=>?_,by simp only[zC,zX,ZQ] at*;omega⟩
    rcases h1 x hx with h|h
    .rcases zY.1 h with h|h
     .exact .inl h
     .exact .inr (by simp at h;simp[h])
    .exact .inr (zQ _ h)
   .obtain ⟨h1,h2⟩:=p5 h;refine⟨λx hx=>?_,by simp only[zX] at*;omega⟩
    rcases h1 x hx with h|h
    .exact .inl h
    .exact .inr (zQ _ h)
theorem JU(l:List Gl):∀g∈(b9 l).1,g∈l:=λg hg=>by
 rcases ve l with e|e|⟨m,hm,e⟩
 .rw [e] at hg;cases hg
 .rw [e] at hg;cases hg
 .rw [e] at hg
  cases h:cW [] l with
  |none=>rw[su h] at e;cases e
  |some q=>
   have:q=m:=by
    cases q with
    |nil=>rw[sw h] at e;cases e
    |cons x r=>rw[mc h (by simp)] at e;cases e;rfl
   subst this;exact((p5 h).1 g hg).elim (λh=>by cases h) id
theorem JV(l:List Gl):(b9 l).1.length<=l.length:=by
 cases h:cW [] l with
 |none=>rw[su h];exact zJ _
 |some q=>
  have:=(p5 h).2
  cases q with
  |nil=>rw[sw h];exact zJ _
  |cons x r=>rw[mc h (by simp)];simpa using this
theorem Kr(l:List Gl)(b:List Bnd):Fun Tryz.prog 7 [slA Gl.av l,.sl .no (b.map Bnd.av)] (.bool true):=by
 have lv:=mN;have hgr:=eM (l:=l) (most:=200) (by decide) (by decide)
 have hgb:=CC (b:=b) (most:=200) (by decide) (by decide)
 cases hg:a7 (l.map gl2) 200 with
 |true=>
  rw[hg] at hgr;refine Fun.of (bz (by simp) ?_) rfl rfl
  conv=>whnf
  repeat' (first|(refine gF ?_;first|refine aa.fn (lv) ?_|refine aa.fn (hgr) ?_)|(refine gC ?_;first|refine cY ?_|refine .not ?_)|refine ae.nrm ?_)<;>conv=>whnf
 |false=>
 rw[hg] at hgr;obtain⟨hl,hn⟩:=mP (by decide) (by decide) hg
 have hgg:=dU hg
 cases h6:uI b 200 with
 |true=>
  rw[h6] at hgb;refine Fun.of (bz (by simp) ?_) rfl rfl
  conv=>whnf
  repeat' (first|(refine gF ?_;first|refine aa.fn (lv) ?_|refine aa.fn (hgr) ?_|refine aa.fn (hgb) ?_)|(refine gC ?_;first|refine cY ?_|refine cN ?_|refine .not ?_)|refine ae.nrm ?_)<;>conv=>whnf
 |false=>
 rw[h6] at hgb;obtain⟨hb1,hb2⟩:=CD h6;have hb3:∀x∈b,x.t.nodes<=200:=λx hx=>by have:=hb2 x hx;omega
 have hrb:=BX b (λx hx=>by have:=hb3 x hx;have:=wO x.t;omega)
 cases hr:rz b with
 |false=>
  rw[hr] at hrb;refine Fun.of (bz (by simp) ?_) rfl rfl
  conv=>whnf
  repeat' (first|(refine gF ?_;first|refine aa.fn (lv) ?_|refine aa.fn (hgr) ?_|refine aa.fn (hgb) ?_|refine aa.fn (hrb) ?_)|(refine gC ?_;first|refine cY ?_|refine cN ?_|refine .not ?_)|refine ae.nrm ?_)<;>conv=>whnf
 |true=>
 rw[hr] at hrb
 have hap:∀g∈l,Tm.aj (bh b g).args<=90000/\(bh b g).args.length<=1000:=λg hg=>by
  have:=r8 (K:=200) (by decide) hb3 g
  have:=hgg g hg;refine⟨by omega,?_⟩
  show (g.args.map _).length<=_;rw[zF];omega
 refine Fun.of (bz (by simp) ?_) rfl rfl
 conv=>whnf
 repeat' (first|(refine gF ?_;first|refine aa.fn (lv) ?_|refine aa.fn (hgr) ?_|refine aa.fn (hgb) ?_|refine aa.fn (hrb) ?_)|(refine gC ?_;first|refine cY ?_|refine cN ?_|refine .not ?_))<;>conv=>whnf
 refine ax.count (fb:=true) (l.length) (λst_ j=>st_.dO [(5,.int .i64 j)]) (λj=>∀i g,i<j->l[i]? =some g->g.right=true/\(bh b g).right=true) ?_ ?_ (λj hj hij=>?_) (λhij=>?_)
 .intro i g hi;omega
 .exact aH
 .obtain ⟨g,hx⟩:∃g,l[j]? =some g:=⟨_,zA hj⟩;have hm:=zE hx;have q1:=dq g (by have:=(hl g hm).1;omega) (by have:=(hl g hm).2;omega)
  have q2:=om b g (by have:=(hl g hm).1;omega);have q3:=dq (bh b g) (by have:=(hap g hm).1;omega) (by have:=(hap g hm).2;omega)
  cases c1:g.right with
  |false=>
   rw[c1] at q1
   conv=>whnf
   repeat' (first|refine gF (aa.fn (q1) ?_)|(refine gC ?_;first|refine cY ?_|refine cN ?_|refine .not ?_|refine gD (cI ?_))|refine gL (.map ?_)|refine gI (gM (iE ?_))|refine ae.nrm ?_)<;>conv=>whnf
  |true=>
  rw[c1] at q1
  cases c2:(bh b g).right with
  |false=>
   rw[c2] at q3
   conv=>whnf
   repeat' (first|(refine gF ?_;first|refine aa.fn (q1) ?_|refine aa.fn (q2) ?_|refine aa.fn (q3) ?_)|(refine gC ?_;first|refine cY ?_|refine cN ?_|refine .not ?_|refine gD (cI ?_))|refine gL (.map ?_)|refine gI (gM (iE ?_))|refine ae.nrm ?_)<;>conv=>whnf
  |true=>
  rw[c2] at q3
  conv=>whnf
  repeat' (first|(refine gF ?_;first|refine aa.fn (q1) ?_|refine aa.fn (q2) ?_|refine aa.fn (q3) ?_)|(refine gC ?_;first|refine cY ?_|refine .not ?_|refine gD (cI ?_))|refine gW (wI ?_)|refine gL (.map ?_)|refine gI (gM (iE ?_)))<;>conv=>whnf
  refine⟨λi x hi hy=>?_,?_⟩
  .by_cases e:i=j
   .subst e;rw[hx] at hy;cases hy;exact⟨c1,c2⟩
   .exact hij i x (by omega) hy
  exact aH
 .have hv:∀g∈l,g.right=true/\(bh b g).right=true/\Tm.aj g.args<=1000:=λg hg=>by
   obtain⟨i,hi⟩:=ZS hg;have:=hij i g (zB.1 hi).1 hi;have h2:=hgg g hg;exact⟨this.1,this.2,by omega⟩
  have hmean:=Kf hb3 hv
  have hI:∀g:Gl,Tm.aj (bh b g).args<=90000/\(bh b g).args.length<=1000->Tm.aj g.args<=1000000->Fun Tryz.prog 53 [.sl .no (b.map Bnd.av),.sl .no (([]:List Gl).map Gl.av),g.av] (.int .i64 (aQ (bh b g))):=λg hq hq2=>by
   have hIn:=OZ (b:=b) (known:=[]) (g:=g) (by omega) (by have:=gg g.args;omega) hq2 (fun x hx=>by cases hx) (Ew (bh b g) (by omega) (by omega))
   have hin:inG b [] g (aQ (bh b g))=aQ (bh b g):=by unfold inG inK;simp
   rw[hin] at hIn;exact hIn
  have hA:=ED (b:=b) (known:=[]) (l:=l) (rs:=λg=>aQ (bh b g)) (λg hg=>hI g (hap g hg) (by have:=(hl g hg).1;omega)) (λg _=>ni _);have s1:=oR hl (by omega)
  have hsub:∀g∈(b9 l).1,g∈l:=JU l;have hA2:=ED (b:=b) (known:=[]) (l:=(b9 l).1) (rs:=λg=>aQ (bh b g)) (λg hg=>hI g (hap g (hsub g hg)) (by have:=(hl g (hsub g hg)).1;omega)) (λg _=>ni _);have s2:=oR (l:=(b9 l).1) (λg hg=>hl g (hsub g hg)) (by have:=JV l;omega)
  have s3:=sC (b9 l).1;rcases ve l with e|e|⟨m,hm,e⟩
  .rw [e] at s1 hmean;have:=(hmean.1 rfl).1;rw[this] at hA
   conv=>whnf
   repeat' (first|(refine gF ?_;first|refine aa.fn (s1) ?_|refine aa.fn (hA) ?_)|(refine gC ?_;(refine gD ?_;first|refine cI ?_|refine cJ ?_))|refine gL (.map ?_)|refine ae.nrm ?_)<;>conv=>whnf
   all_goals rfl
  .rw [e] at s1 s2 s3 hmean hA2;obtain⟨e1,e2,e3⟩:=hmean.2 (by decide)
   rw[<-e1] at hA;rw[e2] at s2;dsimp only at*;generalize qy _=v at hA hA2
   conv=>whnf
   repeat' (first|(refine gF ?_;first|refine aa.fn (s1) ?_|refine aa.fn (hA) ?_|refine aa.fn (s2) ?_|refine aa.fn (hA2) ?_|refine aa.fn (s3) ?_)|(refine gC ?_;first|refine cY ?_|(refine gD ?_;first|refine cI ?_|refine cJ ?_))|refine gL (.map ?_)|refine ae.nrm ?_)<;>conv=>whnf
   all_goals rfl
  .rw [e] at s1 s2 s3 hmean hA2;obtain⟨e1,e2,e3⟩:=hmean.2 (show¬(0:Int)=2 by decide)
   rw[<-e1] at hA;rw[e2] at s2;dsimp only at*;generalize qy _=v at hA hA2
   conv=>whnf
   repeat' (first|(refine gF ?_;first|refine aa.fn (s1) ?_|refine aa.fn (hA) ?_|refine aa.fn (s2) ?_|refine aa.fn (hA2) ?_|refine aa.fn (s3) ?_)|(refine gC ?_;first|refine cY ?_|(refine gD ?_;first|refine cI ?_|refine cJ ?_))|refine gL (.map ?_)|refine ae.nrm ?_)<;>conv=>whnf
   all_goals first|rfl|(rw[decide_eq_false (show¬((m.length:Int)=0) by omega)];rfl)
end Go.CK
set_option maxRecDepth 100000
namespace Go.CK
open Go.AM Go.Proofs
end Go.CK
set_option maxRecDepth 100000
namespace Go.CK
open Go.AM Go.Proofs
end Go.CK
namespace Go.CK
open Go.AM Go.Proofs
theorem z8{l:List Gl}{b:List Bd}:Fun Tryz.prog 7 [slA Gl.av l,slA Bd.av b] (.bool true):=by
 have h:=Kr l (b.map Bd.bnd);rw[List.map_map] at h;exact h
end Go.CK
namespace Go.CK
open Go.RowKit Go.AM
def bB(M:Hp):List AV->List Value->Prop
 |[],[]=>True
 |x::xs,v::vs=>FV M x v/\bB M xs vs
 |_,_=>False
theorem bB.len{M:Hp}:∀{xs:List AV} {vs:List Value},bB M xs vs->vs.length=xs.length
 |[],[],_=>rfl
 |_::xs,_::vs,h=>by simp[bB.len h.2]
 |[],_::_,h=>h.elim
 |_::_,[],h=>h.elim
theorem bB.get{M:Hp}:∀{xs:List AV} {vs:List Value},bB M xs vs->∀j (h:j<xs.length) v,vs[j]? =some v->FV M xs[j] v
 |[],[],_,j,h,_,_=>by cases h
 |_::xs,_::vs,h,0,_,v,hv=>by
  simp only[Zr,zN] at hv
  subst hv;exact h.1
 |_::xs,_::vs,h,j+1,hj,v,hv=>bB.get h.2 j (by simpa using hj) v (by simpa using hv)
 |[],_::_,h,_,_,_,_=>h.elim
 |_::_,[],h,_,_,_,_=>h.elim
theorem Fun.calls{P:Program}{f:FuncId}{vals:List AV}{b:Bool}(h:Fun P f vals (.bool b)){w:World}{args:List Value}(ha:bB (Hp.of w) vals args):
  Calls P f args.toArray w λe w'=>e=.returned (.bool b)/\Ext w w':=by
 refine(((h []).mono (Q':=λr _=>r=.bool b) λr bs hq=>hq.1).calls (Hp.le_refl _) ha.len ha.get).mono ?_;rintro e w' ⟨v,r,bs',M',σ,n,rfl,rfl,hv,hx,_⟩;exact⟨by rw[hv.cu],hx⟩
end Go.CK
namespace Go.CK
open Go.RowKit Go.Proofs Go.ChangeShapes Go.WideShapes Go.ChangeAt
open Go.Proofs.YtpihbplamelcnaaGreat.Rows (uptoBulk uptoBulkAll uptoSmall)
/-- all that d holds weighs at most what a process reaches -/
def Fit {H : Type} (P : Program) (t : TypeId) (d : DataW H) : Prop := ∀ n ∈ d.weights P t, n ≤ reachBytes
def FitAll {H : Type} (P : Program) : List TypeId → List (DataW H) → Prop
  | t :: ts, d :: r => Fit P t d ∧ FitAll P ts r
  | _, _ => True
theorem FitAll.of {H : Type} {P : Program} : ∀ {ts : List TypeId} {ds : List (DataW H)}, (∀ n ∈ DataW.weightsEach P ts ds, n ≤ reachBytes) → FitAll P ts ds
  | [], _, _ => trivial
  | _ :: _, [], _ => trivial
  | t :: ts, d :: ds, h => by
    simp only [DataW.weightsEach, List.mem_append] at h
    exact ⟨fun n hn => h n (.inl hn), FitAll.of fun n hn => h n (.inr hn)⟩
theorem Fit.agg {H : Type} {P : Program} {t : TypeId} {fs : Array Field} {parts : List (DataW H)} (hu : P.underlying t = some (.struct fs)) (h : Fit P t (.agg parts)) : FitAll P (fs.toList.map (·.type)) parts := by
  refine FitAll.of fun n hn => h n ?_
  simp only [DataW.weights, hu]; exact hn
theorem weights_all {H : Type} {P : Program} {e : TypeId} {d : DataW H} : ∀ {l : List (DataW H)}, d ∈ l → ∀ n ∈ d.weights P e, n ∈ DataW.weightsAll P e l
  | x :: l, hd, n, hn => by
    simp only [DataW.weightsAll, List.mem_append]
    rcases List.mem_cons.1 hd with rfl | hd
    · exact .inl hn
    · exact .inr (weights_all hd n hn)
theorem Fit.slice {H : Type} {P : Program} {t e : TypeId} {elems spare : List (DataW H)} (hu : P.underlying t = some (.slice e)) (h : Fit P t (.slice elems spare)) : (elems.length + spare.length) * P.bytesOf e ≤ reachBytes ∧ ∀ d ∈ elems, Fit P e d := by
  simp only [Fit, DataW.weights, hu, List.mem_cons, List.mem_append] at h
  exact ⟨h _ (.inl rfl), fun d hd n hn => h n (.inr (.inl (weights_all hd n hn)))⟩
theorem Fit.of {H : Type} {P : Program} {ts : List TypeId} {ds : List (DataW H)} (h : (DataW.weightsEach P ts ds).all (· ≤ reachBytes) = true) {j : Nat} {t : TypeId} {d : DataW H} (ht : ts[j]? = some t) (hd : ds[j]? = some d) : Fit P t d := fun n hn => by
  simpa using List.all_eq_true.1 h n (DataW.weights_mem_each ht hd n hn)
theorem cO{H:Type}(d:DataW H):1<=uptoBulk d:=by
 cases d with
 |lit l=>cases l<;>simp[uptoBulk]
 |nil=>simp[uptoBulk]
 |ptr d=>simp[uptoBulk]
 |slice elems spare=>simp[uptoBulk]
 |agg parts=>simp[uptoBulk]
 |iface t d=>simp[uptoBulk]
 |map entries=>simp[uptoBulk]
 |held h=>simp[uptoBulk]
theorem bn{H:Type}{d:DataW H}{l:List (DataW H)}(h:d∈l):uptoBulk d<=uptoBulkAll l:=by
 induction l with
 |nil=>cases h
 |cons x r ih=>
  simp only[uptoBulkAll]
  cases zI.1 h with
  |inl e=>subst e;omega
  |inr e=>have:=ih e;omega
theorem fL{H:Type}(l:List (DataW H)):l.length<=uptoBulkAll l:=by
 induction l with
 |nil=>simp[uptoBulkAll]
 |cons x r ih=>have:=cO x;simp only[uptoBulkAll,zX];omega
theorem dn{H:Type}{l:List (DataW H)}(hk:uptoSmall H l=true):uptoBulkAll l<=1048576:=of_decide_eq_true hk
section
variable{H:Type}{enc:TypeId×Value->H}{P:Program}{W:World}{spare:Nat->Bool}{held:Bool}
theorem dp{α:Type}{T e:TypeId}{sz N:Nat}(hu:P.underlying T=some (.slice e))(hsz:P.cellsOf e=sz)(hp:0<sz)(R:List Value->α->Prop)(hN:0 ≤ N)
  (ih:∀(cs:List Value) (d:DataW H) (ps:List MemPlace) (fuel:Nat),DataW.trod enc P W 0 spare held fuel e cs=some (d,ps)->uptoBulk d<N->Fit P e d → ∃x,R cs x) (hby : 0 < P.bytesOf e)
  {fuel:Nat} {cs:List Value} {d:DataW H} {ps:List MemPlace} (h:DataW.trod enc P W 0 spare held fuel T cs=some (d,ps)) (hb:uptoBulk d<=N) (hf : Fit P T d):
  ∃(a:Option Addr) (l:List α) (cap:Nat),cs=[.slice a l.length cap]/\l.length<=cap/\Sl (Hp.of W) sz R a l/\l.length<=N:=by
 subst hsz;rcases Deep.open_slice hu h with ⟨rfl,_⟩|⟨a,len,cap,m,n,D,Pl,rfl,_,hlc,hcm,hm,hx,hel⟩
 .exact ⟨none,[],0,rfl,by simp,Sl.nil,by simp⟩
 .simp only[Prod.mk.injEq] at hx;obtain⟨rfl,_⟩:=hx;obtain ⟨hf1, hf2⟩ := Fit.slice hu hf;have hf3 : len ≤ reachBytes := (by rw [List.length_map, List.length_range] at hf1; have := Nat.le_mul_of_pos_right (len + ((List.range (m - len)).map fun j => D (len + j)).length) hby; omega);have hlm:len<=m:=by rw[hm];split<;>omega
  simp only[uptoBulk] at hb;have hlen:=fL ((List.range len).map D);rw[zF,Zv] at hlen
  have hD:∀i,i<len->∃x cs',W.cells? 0 (a.add (i*P.cellsOf e)) (P.cellsOf e)=some cs'/\R cs' x:=λi hi=>by
   obtain⟨cs',h1,h2⟩:=hel i (by omega)
   have hbi:uptoBulk (D i)<=uptoBulkAll ((List.range len).map D):=bn (zk.2 ⟨i,by simpa using hi,rfl⟩)
   obtain⟨x,hx⟩:=ih cs' (D i) (Pl i) n h2 (by omega) (hf2 _ (List.mem_map.2 ⟨i, by simpa using hi, rfl⟩))
   exact⟨x,cs',h1,hx⟩
  refine⟨some a,List.ofFn (λi:Fin len=>(hD i.1 i.2).choose),cap,by simp,by simpa using hlc,⟨by simp only [List.length_ofFn];unfold reachBytes at hf3;unfold lim;omega,λi hi=>?_⟩,by simp;omega⟩
  rw[List.length_ofFn] at hi
  have hspot:a.spot=none:=by
   obtain⟨cs',h1,_⟩:=hel 0 (by omega)
   obtain⟨_,h2,h3⟩:=World.cells?_some h1;have h4:=h3 0 hp;rw[zA (by omega)] at h4
   simp only[Nat.zero_mul] at h4;have h5:(a.add 0).add 0=a:=by simp[Addr.add]
   rw[h5] at h4
   cases hs:a.spot with
   |none=>rfl
   |some k=>
    simp only[World.cell?,hs] at h4;split at h4<;>simp at h4
  obtain⟨cs',h1,h2⟩:=(hD i hi).choose_spec;obtain⟨_,h3,h4⟩:=World.cells?_some h1;have ha:a=⟨a.block,a.off,none⟩:=by cases a;simp only at hspot;subst hspot;rfl
  refine⟨a.block,a.off,cs',by rw[<-ha],h3,λj x hj=>?_,by simpa using h2⟩
  have hj2:j<P.cellsOf e:=by rw[<-h3];exact(zB.1 hj).1
  have h5:=h4 j hj2;rw[Deep.add_add] at h5
  have h6:a.add (i*P.cellsOf e+j)=⟨a.block,a.off+i*P.cellsOf e+j,none⟩:=by
   unfold Addr.add;split
   .rename_i h0;rw[ha];simp;omega
   .simp
  rw[h6,hj] at h5;exact h5
end
theorem bJ:Tryz.prog.cellsOf 3=1:=by kernel_rfl
theorem bS:Tryz.prog.cellsOf 9=1:=by kernel_rfl
theorem cw:Tryz.prog.cellsOf 46=1:=by kernel_rfl
theorem bW:Tryz.prog.cellsOf 59=4:=by kernel_rfl
section
variable{H:Type}{enc:TypeId×Value->H}{W:World}{spare:Nat->Bool}{held:Bool}
theorem cn{fuel:Nat}{cs:List Value}{d:DataW H}{ps:List MemPlace}(h:DataW.trod enc Tryz.prog W 0 spare held fuel 3 cs=some (d,ps)):∃n,cs=[.int .i64 n]/\bO n:=by
 obtain⟨n,h1,_,h3⟩:=DataW.trod_int Tryz.underlying3 h;exact⟨n,h1,bO.Fp h3⟩
theorem dG{N fuel:Nat}{cs:List Value}{d:DataW H}{ps:List MemPlace}(h:DataW.trod enc Tryz.prog W 0 spare held fuel 9 cs=some (d,ps))(hb:uptoBulk d<=N) (hf : Fit Tryz.prog 9 d):∃s:ByteArray,cs=[.string s]/\s.size<=lim:=by
  obtain ⟨s, h1, h2, _⟩ := DataW.trod_string Tryz.underlying9 h
  simp only [Prod.mk.injEq] at h2
  obtain ⟨rfl, _⟩ := h2
  have h3 := hf s.data.toList.length (by simp [DataW.weights])
  have e : s.data.toList.length = s.size := by rw [Array.length_toList]; rfl
  exact ⟨s, h1, by unfold reachBytes at h3; unfold lim; omega⟩
theorem oM:∀(N:Nat),0 ≤ N->∀(cs:List Value) (d:DataW H) (ps:List MemPlace) (fuel:Nat),DataW.trod enc Tryz.prog W 0 spare held fuel 59 cs=some (d,ps)->uptoBulk d<=N->Fit Tryz.prog 59 d → ∃t,RTm (Hp.of W) cs t:=by
 intro N
 induction N using Nat.strongRecOn with
 |_ N ih=>
 intro hN cs d ps fuel h hb hf;obtain⟨y0,y1,y2,y3,n,hx,hl,h0,h1,h2,h3⟩:=Joins.trod_struct4 Tryz.underlying59 h;simp only[Prod.mk.injEq] at hx;obtain⟨rfl,_⟩:=hx;obtain ⟨_, _, F2, F3, _⟩ := Fit.agg Tryz.underlying59 hf;rw[bW] at hl
 match cs,hl with
 |[c0,c1,c2,c3],_=>
  simp only[bJ,bS,cw,yZ,List.drop_succ_cons,yM,ZL] at h0 h1 h2 h3;simp only[uptoBulk,uptoBulkAll] at hb;have:=cO y3.1;obtain⟨k,e0,ik⟩:=cn h0;obtain⟨m,e1,im⟩:=cn h1;obtain⟨s,e2,is⟩:=dG (N:=N) h2 (by omega) F2
  obtain⟨a,l,cap,e3,hlc,hsl,_⟩:=dp (N:=N-1) Tryz.underlying46 bW (by omega) (RTm (Hp.of W)) (by omega) (fun cs d ps fuel h hb hf => ih (N-1) (by omega) (by omega) cs d ps fuel h (by omega) hf) (of_decide_eq_true (by kernel_rfl)) h3 (by omega) F3
  simp only[yG,and_true] at e0 e1 e2 e3;subst e0;subst e1;subst e2;subst e3;exact⟨.mk k m s l,RTm.intro ik im is hlc hsl⟩
end
end Go.CK
namespace Go.CK
open Go.RowKit Go.Proofs Go.ChangeShapes Go.WideShapes Go.ChangeAt
open Go.Proofs.YtpihbplamelcnaaGreat.Rows (uptoBulk uptoBulkAll uptoSmall)
section
variable{H:Type}{enc:TypeId×Value->H}{W:World}{spare:Nat->Bool}{held:Bool}
theorem kj(N:Nat)(hN:0 ≤ N)(cs:List Value)(d:DataW H)(ps:List MemPlace)(fuel:Nat)(h:DataW.trod enc Tryz.prog W 0 spare held fuel 46 cs=some (d,ps))(hb:uptoBulk d<=N) (hf : Fit Tryz.prog 46 d):∃x,RSl 4 RTm (Hp.of W) cs x:=by
 obtain⟨a,l,k,e,h1,h2,_⟩:=dp (N:=N) Tryz.underlying46 bW (by omega) (RTm (Hp.of W)) hN (λ cs d ps fuel h hb hf => oM N hN cs d ps fuel h (by omega) hf) (of_decide_eq_true (by kernel_rfl)) h hb hf
 exact⟨l,a,k,e,h1,h2⟩
theorem cM:Tryz.prog.cellsOf 48=3:=by kernel_rfl
theorem tu(N:Nat)(hN:0 ≤ N)(cs:List Value)(d:DataW H)(ps:List MemPlace)(fuel:Nat)(h:DataW.trod enc Tryz.prog W 0 spare held fuel 48 cs=some (d,ps))(hb:uptoBulk d<=N) (hf : Fit Tryz.prog 48 d):∃x,RGl (Hp.of W) cs x:=by
 obtain⟨y0,y1,y2,n,hx,hl,h0,h1,h2⟩:=Deep.trod_struct3 Tryz.underlying48 h;simp only[Prod.mk.injEq] at hx;obtain⟨rfl,_⟩:=hx;obtain ⟨F0, F1, F2, _⟩ := Fit.agg Tryz.underlying48 hf;rw[cM] at hl
 match cs,hl with
 |[c0,c1,c2],_=>
  simp only[bJ,bS,cw,yZ,List.drop_succ_cons,yM,ZL] at h0 h1 h2;simp only[uptoBulk,uptoBulkAll] at hb;obtain⟨v0,e0,i0⟩:=cn h0;obtain⟨v1,e1,i1⟩:=dG (N:=N) h1 (by omega) F1
  obtain⟨v2,a2,k2,e2,l2,s2⟩:=kj N hN _ _ _ _ h2 (by omega) F2
  simp only[yG,and_true] at e0 e1 e2;subst e0;subst e1;subst e2;exact⟨⟨v0,v1,v2⟩,a2,k2,rfl,i0,i1,l2,s2⟩
theorem kr(N:Nat)(hN:0 ≤ N)(cs:List Value)(d:DataW H)(ps:List MemPlace)(fuel:Nat)(h:DataW.trod enc Tryz.prog W 0 spare held fuel 22 cs=some (d,ps))(hb:uptoBulk d<=N) (hf : Fit Tryz.prog 22 d):∃x,RSl 3 RGl (Hp.of W) cs x:=by
 obtain⟨a,l,k,e,h1,h2,_⟩:=dp (N:=N) Tryz.underlying22 cM (by omega) (RGl (Hp.of W)) hN (λ cs d ps fuel h hb hf => tu N hN cs d ps fuel h (by omega) hf) (of_decide_eq_true (by kernel_rfl)) h hb hf
 exact⟨l,a,k,e,h1,h2⟩
theorem pG:Tryz.prog.cellsOf 71=5:=by kernel_rfl
theorem MV(N:Nat)(hN:0 ≤ N)(cs:List Value)(d:DataW H)(ps:List MemPlace)(fuel:Nat)(h:DataW.trod enc Tryz.prog W 0 spare held fuel 71 cs=some (d,ps))(hb:uptoBulk d<=N) (hf : Fit Tryz.prog 71 d):∃x,RBd (Hp.of W) cs x:=by
 obtain⟨y0,y1,n,hx,hl,h0,h1⟩:=trod_struct2 Tryz.underlying71 h;simp only[Prod.mk.injEq] at hx;obtain⟨rfl,_⟩:=hx;obtain ⟨F0, F1, _⟩ := Fit.agg Tryz.underlying71 hf;rw[pG] at hl
 match cs,hl with
 |[c0,c1,c2,c3,c4],_=>
  simp only[bJ,bW,yZ,List.drop_succ_cons,yM,ZL] at h0 h1;simp only[uptoBulk,uptoBulkAll] at hb;obtain⟨v0,e0,i0⟩:=cn h0;obtain⟨v1,e1⟩:=oM N hN _ _ _ _ h1 (by omega) F1
  simp only[yG,and_true] at e0;subst e0;exact⟨⟨v0,v1⟩,_,rfl,i0,e1⟩
theorem HL(N:Nat)(hN:0 ≤ N)(cs:List Value)(d:DataW H)(ps:List MemPlace)(fuel:Nat)(h:DataW.trod enc Tryz.prog W 0 spare held fuel 42 cs=some (d,ps))(hb:uptoBulk d<=N) (hf : Fit Tryz.prog 42 d):∃x,RSl 5 RBd (Hp.of W) cs x:=by
 obtain⟨a,l,k,e,h1,h2,_⟩:=dp (N:=N) Tryz.underlying42 pG (by omega) (RBd (Hp.of W)) hN (λ cs d ps fuel h hb hf => MV N hN cs d ps fuel h (by omega) hf) (of_decide_eq_true (by kernel_rfl)) h hb hf
 exact⟨l,a,k,e,h1,h2⟩
end
end Go.CK
