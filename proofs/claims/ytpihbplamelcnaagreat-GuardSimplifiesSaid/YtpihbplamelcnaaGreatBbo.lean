/-
  Texts of this aZ joined (wip/gen/bundle.py),those declarations only that are needed:Read RdGua. By an AI agent.
-/
import Derived.Test.YtpihbplamelcnaaGreatRows
import Derived.ProofKit
import Derived.OpenShut
import Derived.ShutString
import Derived.ChangeOld
import Derived.JoinedCond
import Derived.Deep.Slices
import Derived.Lib.SmallJoins
import Derived.Test.YtpihbplamelcnaaGreatBbn
import Derived.SizedLaws
set_option linter.unusedSimpArgs false
set_option linter.unusedVariables false
set_option maxRecDepth 100000
namespace Go.CK
open Go.RowKit Go.Proofs Go.ChangeShapes Go.WideShapes Go.ChangeAt
open Go.Proofs.YtpihbplamelcnaaGreat.Rows (uptoBulk uptoBulkAll uptoSmall)
/-- all that d holds weighs at most what a process reaches -/
def Fit {H : Type} (P : Program) (t : TypeId) (d : DataW H) : Prop := ∀ n ∈ d.weights P t, n ≤ reachBytes
def FitAll {H : Type} (P : Program) : List TypeId → List (DataW H) → Prop
  | t :: ts, d :: r => Fit P t d ∧ FitAll P ts r
  | _, _ => True
theorem FitAll.of {H : Type} {P : Program} : ∀ {ts : List TypeId} {ds : List (DataW H)}, (∀ n ∈ DataW.weightsEach P ts ds, n ≤ reachBytes) → FitAll P ts ds
  | [], _, _ => trivial
  | _ :: _, [], _ => trivial
  | t :: ts, d :: ds, h => by
    simp only [DataW.weightsEach, List.mem_append] at h
    exact ⟨fun n hn => h n (.inl hn), FitAll.of fun n hn => h n (.inr hn)⟩
theorem Fit.agg {H : Type} {P : Program} {t : TypeId} {fs : Array Field} {parts : List (DataW H)} (hu : P.underlying t = some (.struct fs)) (h : Fit P t (.agg parts)) : FitAll P (fs.toList.map (·.type)) parts := by
  refine FitAll.of fun n hn => h n ?_
  simp only [DataW.weights, hu]; exact hn
theorem weights_all {H : Type} {P : Program} {e : TypeId} {d : DataW H} : ∀ {l : List (DataW H)}, d ∈ l → ∀ n ∈ d.weights P e, n ∈ DataW.weightsAll P e l
  | x :: l, hd, n, hn => by
    simp only [DataW.weightsAll, List.mem_append]
    rcases List.mem_cons.1 hd with rfl | hd
    · exact .inl hn
    · exact .inr (weights_all hd n hn)
theorem Fit.slice {H : Type} {P : Program} {t e : TypeId} {elems spare : List (DataW H)} (hu : P.underlying t = some (.slice e)) (h : Fit P t (.slice elems spare)) : (elems.length + spare.length) * P.bytesOf e ≤ reachBytes ∧ ∀ d ∈ elems, Fit P e d := by
  simp only [Fit, DataW.weights, hu, List.mem_cons, List.mem_append] at h
  exact ⟨h _ (.inl rfl), fun d hd n hn => h n (.inr (.inl (weights_all hd n hn)))⟩
theorem Fit.of {H : Type} {P : Program} {ts : List TypeId} {ds : List (DataW H)} (h : (DataW.weightsEach P ts ds).all (· ≤ reachBytes) = true) {j : Nat} {t : TypeId} {d : DataW H} (ht : ts[j]? = some t) (hd : ds[j]? = some d) : Fit P t d := fun n hn => by
  simpa using List.all_eq_true.1 h n (DataW.weights_mem_each ht hd n hn)
theorem Fq{H:Type}(d:DataW H):1<=uptoBulk d:=by
 cases d with
 |lit l=>cases l<;>simp[uptoBulk]
 |nil=>simp[uptoBulk]
 |ptr d=>simp[uptoBulk]
 |slice elems spare=>simp[uptoBulk]
 |agg parts=>simp[uptoBulk]
 |iface t d=>simp[uptoBulk]
 |map entries=>simp[uptoBulk]
 |held h=>simp[uptoBulk]
theorem BD{H:Type}{d:DataW H}{l:List (DataW H)}(h:d∈l):uptoBulk d<=uptoBulkAll l:=by
 induction l with
 |nil=>cases h
 |cons x r ih=>
  simp only[uptoBulkAll]
  cases zI.1 h with
  |inl e=>subst e;omega
  |inr e=>have:=ih e;omega
theorem LL{H:Type}(l:List (DataW H)):l.length<=uptoBulkAll l:=by
 induction l with
 |nil=>simp[uptoBulkAll]
 |cons x r ih=>have:=Fq x;simp only[uptoBulkAll,zX];omega
theorem Hd{H:Type}{l:List (DataW H)}(hk:uptoSmall H l=true):uptoBulkAll l<=1048576:=of_decide_eq_true hk
section
variable{H:Type}{enc:TypeId×Value->H}{P:Program}{W:World}{spare:Nat->Bool}{held:Bool}
theorem Kt{α:Type}{T e:TypeId}{sz N:Nat}(hu:P.underlying T=some (.slice e))(hsz:P.cellsOf e=sz)(hp:0<sz)(R:List Value->α->Prop)(hN:0 ≤ N)
  (ih:∀(cs:List Value) (d:DataW H) (ps:List MemPlace) (fuel:Nat),DataW.trod enc P W 0 spare held fuel e cs=some (d,ps)->uptoBulk d<N->Fit P e d → ∃x,R cs x) (hby : 0 < P.bytesOf e)
  {fuel:Nat} {cs:List Value} {d:DataW H} {ps:List MemPlace} (h:DataW.trod enc P W 0 spare held fuel T cs=some (d,ps)) (hb:uptoBulk d<=N) (hf : Fit P T d):
  ∃(a:Option Addr) (l:List α) (cap:Nat),cs=[.slice a l.length cap]/\l.length<=cap/\Sl (Hp.of W) sz R a l/\l.length<=N:=by
 subst hsz;rcases Deep.open_slice hu h with ⟨rfl,_⟩|⟨a,len,cap,m,n,D,Pl,rfl,_,hlc,hcm,hm,hx,hel⟩
 .exact ⟨none,[],0,rfl,by simp,Sl.nil,by simp⟩
 .simp only[Prod.mk.injEq] at hx;obtain⟨rfl,_⟩:=hx;obtain ⟨hf1, hf2⟩ := Fit.slice hu hf;have hf3 : len ≤ reachBytes := (by rw [List.length_map, List.length_range] at hf1; have := Nat.le_mul_of_pos_right (len + ((List.range (m - len)).map fun j => D (len + j)).length) hby; omega);have hlm:len<=m:=by rw[hm];split<;>omega
  simp only[uptoBulk] at hb;have hlen:=LL ((List.range len).map D);rw[zF,Zw] at hlen
  have hD:∀i,i<len->∃x cs',W.cells? 0 (a.add (i*P.cellsOf e)) (P.cellsOf e)=some cs'/\R cs' x:=λi hi=>by
   obtain⟨cs',h1,h2⟩:=hel i (by omega)
   have hbi:uptoBulk (D i)<=uptoBulkAll ((List.range len).map D):=BD (zk.2 ⟨i,by simpa using hi,rfl⟩)
   obtain⟨x,hx⟩:=ih cs' (D i) (Pl i) n h2 (by omega) (hf2 _ (List.mem_map.2 ⟨i, by simpa using hi, rfl⟩))
   exact⟨x,cs',h1,hx⟩
  refine⟨some a,List.ofFn (λi:Fin len=>(hD i.1 i.2).choose),cap,by simp,by simpa using hlc,⟨by simp only [List.length_ofFn];unfold reachBytes at hf3;unfold lim;omega,λi hi=>?_⟩,by simp;omega⟩
  rw[List.length_ofFn] at hi
  have hspot:a.spot=none:=by
   obtain⟨cs',h1,_⟩:=hel 0 (by omega)
   obtain⟨_,h2,h3⟩:=World.cells?_some h1;have h4:=h3 0 hp;rw[zA (by omega)] at h4
   simp only[Nat.zero_mul] at h4;have h5:(a.add 0).add 0=a:=by simp[Addr.add]
   rw[h5] at h4
   cases hs:a.spot with
   |none=>rfl
   |some k=>
    simp only[World.cell?,hs] at h4;split at h4<;>simp at h4
  obtain⟨cs',h1,h2⟩:=(hD i hi).choose_spec;obtain⟨_,h3,h4⟩:=World.cells?_some h1;have ha:a=⟨a.block,a.off,none⟩:=by cases a;simp only at hspot;subst hspot;rfl
  refine⟨a.block,a.off,cs',by rw[<-ha],h3,λj x hj=>?_,by simpa using h2⟩
  have hj2:j<P.cellsOf e:=by rw[<-h3];exact(zB.1 hj).1
  have h5:=h4 j hj2;rw[Deep.add_add] at h5
  have h6:a.add (i*P.cellsOf e+j)=⟨a.block,a.off+i*P.cellsOf e+j,none⟩:=by
   unfold Addr.add;split
   .rename_i h0;rw[ha];simp;omega
   .simp
  rw[h6,hj] at h5;exact h5
end
theorem Fl:Tryz.prog.cellsOf 3=1:=by kernel_rfl
theorem Fk:Tryz.prog.cellsOf 9=1:=by kernel_rfl
theorem Fj:Tryz.prog.cellsOf 46=1:=by kernel_rfl
theorem CX:Tryz.prog.cellsOf 59=4:=by kernel_rfl
section
variable{H:Type}{enc:TypeId×Value->H}{W:World}{spare:Nat->Bool}{held:Bool}
theorem GM{fuel:Nat}{cs:List Value}{d:DataW H}{ps:List MemPlace}(h:DataW.trod enc Tryz.prog W 0 spare held fuel 3 cs=some (d,ps)):∃n,cs=[.int .i64 n]/\bM n:=by
 obtain⟨n,h1,_,h3⟩:=DataW.trod_int Tryz.underlying3 h;exact⟨n,h1,bM.Pe h3⟩
theorem Kg{N fuel:Nat}{cs:List Value}{d:DataW H}{ps:List MemPlace}(h:DataW.trod enc Tryz.prog W 0 spare held fuel 9 cs=some (d,ps))(hb:uptoBulk d<=N) (hf : Fit Tryz.prog 9 d):∃s:ByteArray,cs=[.string s]/\s.size<=lim:=by
  obtain ⟨s, h1, h2, _⟩ := DataW.trod_string Tryz.underlying9 h
  simp only [Prod.mk.injEq] at h2
  obtain ⟨rfl, _⟩ := h2
  have h3 := hf s.data.toList.length (by simp [DataW.weights])
  have e : s.data.toList.length = s.size := by rw [Array.length_toList]; rfl
  exact ⟨s, h1, by unfold reachBytes at h3; unfold lim; omega⟩
theorem O1:∀(N:Nat),0 ≤ N->∀(cs:List Value) (d:DataW H) (ps:List MemPlace) (fuel:Nat),DataW.trod enc Tryz.prog W 0 spare held fuel 59 cs=some (d,ps)->uptoBulk d<=N->Fit Tryz.prog 59 d → ∃t,RTm (Hp.of W) cs t:=by
 intro N
 induction N using Nat.strongRecOn with
 |_ N ih=>
 intro hN cs d ps fuel h hb hf;obtain⟨y0,y1,y2,y3,n,hx,hl,h0,h1,h2,h3⟩:=Joins.trod_struct4 Tryz.underlying59 h;simp only[Prod.mk.injEq] at hx;obtain⟨rfl,_⟩:=hx;obtain ⟨_, _, F2, F3, _⟩ := Fit.agg Tryz.underlying59 hf;rw[CX] at hl
 match cs,hl with
 |[c0,c1,c2,c3],_=>
  simp only[Fl,Fk,Fj,List.drop_zero,List.drop_succ_cons,yP,ZL] at h0 h1 h2 h3;simp only[uptoBulk,uptoBulkAll] at hb;have:=Fq y3.1;obtain⟨k,e0,ik⟩:=GM h0;obtain⟨m,e1,im⟩:=GM h1;obtain⟨s,e2,is⟩:=Kg (N:=N) h2 (by omega) F2
  obtain⟨a,l,cap,e3,hlc,hsl,_⟩:=Kt (N:=N-1) Tryz.underlying46 CX (by omega) (RTm (Hp.of W)) (by omega) (fun cs d ps fuel h hb hf => ih (N-1) (by omega) (by omega) cs d ps fuel h (by omega) hf) (of_decide_eq_true (by kernel_rfl)) h3 (by omega) F3
  simp only[yI,and_true] at e0 e1 e2 e3;subst e0;subst e1;subst e2;subst e3;exact⟨.mk k m s l,RTm.intro ik im is hlc hsl⟩
end
end Go.CK
namespace Go.CK
open Go.RowKit Go.Proofs Go.ChangeShapes Go.WideShapes Go.ChangeAt
open Go.Proofs.YtpihbplamelcnaaGreat.Rows (uptoBulk uptoBulkAll uptoSmall)
section
variable{H:Type}{enc:TypeId×Value->H}{W:World}{spare:Nat->Bool}{held:Bool}
theorem Ox(N:Nat)(hN:0 ≤ N)(cs:List Value)(d:DataW H)(ps:List MemPlace)(fuel:Nat)(h:DataW.trod enc Tryz.prog W 0 spare held fuel 46 cs=some (d,ps))(hb:uptoBulk d<=N) (hf : Fit Tryz.prog 46 d):∃x,RSl 4 RTm (Hp.of W) cs x:=by
 obtain⟨a,l,k,e,h1,h2,_⟩:=Kt (N:=N) Tryz.underlying46 CX (by omega) (RTm (Hp.of W)) hN (λ cs d ps fuel h hb hf => O1 N hN cs d ps fuel h (by omega) hf) (of_decide_eq_true (by kernel_rfl)) h hb hf
 exact⟨l,a,k,e,h1,h2⟩
theorem Fi:Tryz.prog.cellsOf 48=3:=by kernel_rfl
theorem Po(N:Nat)(hN:0 ≤ N)(cs:List Value)(d:DataW H)(ps:List MemPlace)(fuel:Nat)(h:DataW.trod enc Tryz.prog W 0 spare held fuel 48 cs=some (d,ps))(hb:uptoBulk d<=N) (hf : Fit Tryz.prog 48 d):∃x,RGl (Hp.of W) cs x:=by
 obtain⟨y0,y1,y2,n,hx,hl,h0,h1,h2⟩:=Deep.trod_struct3 Tryz.underlying48 h;simp only[Prod.mk.injEq] at hx;obtain⟨rfl,_⟩:=hx;obtain ⟨F0, F1, F2, _⟩ := Fit.agg Tryz.underlying48 hf;rw[Fi] at hl
 match cs,hl with
 |[c0,c1,c2],_=>
  simp only[Fl,Fk,Fj,List.drop_zero,List.drop_succ_cons,yP,ZL] at h0 h1 h2;simp only[uptoBulk,uptoBulkAll] at hb;obtain⟨v0,e0,i0⟩:=GM h0;obtain⟨v1,e1,i1⟩:=Kg (N:=N) h1 (by omega) F1
  obtain⟨v2,a2,k2,e2,l2,s2⟩:=Ox N hN _ _ _ _ h2 (by omega) F2
  simp only[yI,and_true] at e0 e1 e2;subst e0;subst e1;subst e2;exact⟨⟨v0,v1,v2⟩,a2,k2,rfl,i0,i1,l2,s2⟩
theorem Oz(N:Nat)(hN:0 ≤ N)(cs:List Value)(d:DataW H)(ps:List MemPlace)(fuel:Nat)(h:DataW.trod enc Tryz.prog W 0 spare held fuel 22 cs=some (d,ps))(hb:uptoBulk d<=N) (hf : Fit Tryz.prog 22 d):∃x,RSl 3 RGl (Hp.of W) cs x:=by
 obtain⟨a,l,k,e,h1,h2,_⟩:=Kt (N:=N) Tryz.underlying22 Fi (by omega) (RGl (Hp.of W)) hN (λ cs d ps fuel h hb hf => Po N hN cs d ps fuel h (by omega) hf) (of_decide_eq_true (by kernel_rfl)) h hb hf
 exact⟨l,a,k,e,h1,h2⟩
end
end Go.CK
