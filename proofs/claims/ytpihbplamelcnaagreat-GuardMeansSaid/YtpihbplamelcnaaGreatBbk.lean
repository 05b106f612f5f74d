/-
  Texts of this aX joined (wip/gen/bundle.py),those declarations only that are needed:GdA GdB GdC GdD GdE GdF GdG. By an AI agent.
-/
import Derived.Test.YtpihbplamelcnaaGreatBbj
set_option linter.unusedSimpArgs false
set_option linter.unusedVariables false
set_option maxRecDepth 100000
set_option maxRecDepth 100000
namespace Go.CK
open Go.AM Go.Proofs
theorem vh{g:Gl}(h:g.right=true):Tm.b5 g.args=true:=by
 have key:vLB 200 20 g.args=true:=by
  by_cases h0:g.op=0
  .unfold Gl.right at h;rw[if_pos h0] at h;unfold At.right at h;simp only[zD] at h;exact h.2.2
  .exact (vg h h0).2.2.2
 unfold vLB at key;rw[zD] at key;exact key.1
theorem IH{a g:Gl}(ha:a.right=true)(hg:g.right=true)(h:a.same g=true):a=g:=by
 unfold Gl.same at h;simp only[zD,decide_eq_true_eq] at h;obtain⟨e1,e2,_,e4⟩:=h;have e3:=wF a.args g.args (λx _ b=>AG x b) (vh ha) (vh hg) e4;obtain⟨o,n,l⟩:=a;obtain⟨o',n',l'⟩:=g;simp only at e1 e2 e3;rw[e1,e2,e3]
def cW:List Gl->List Gl->Option (List Gl)
 |out,[]=>some out
 |out,g::r=>if aQ g=2 then none else if aQ g=0/\(out.any λx=>x.same g)=false then cW (out++[g]) r else cW out r
def b9(l:List Gl):List Gl×Int:=match cW [] l with
 |none=>([],2)
 |some []=>([],1)
 |some (x::r)=>(x::r,0)
theorem w6:∀{l out:List Gl},cW out l=none->∃g∈l,aQ g=2
 |[],out,h=>by cases h
 |g::r,out,h=>by
  rw[cW] at h;split at h
  .exact ⟨g,zV ..,by assumption⟩
  .split at h<;>(obtain⟨x,hx,e⟩:=w6 h;exact⟨x,zQ _ hx,e⟩)
def Apt:List Gl->Prop
 |l=>(∀g∈l,aQ g=0)/\l.Pairwise λx y=>x.same y=false
theorem qZ:∀{l out m:List Gl},(∀g∈l,g.right=true)->(∀g∈out,g.right=true)->Apt out->cW out l=some m->Apt m/\(∀g∈m,g∈out\/g∈l)/\(∀g∈out,g∈m)/\∀g∈l,aQ g=1\/g∈m
 |[],out,m,_,_,ha,h=>by
  cases h
  exact⟨ha,λg hg=>.inl hg,λg hg=>hg,λg hg=>by cases hg⟩
 |g::r,out,m,hl,ho,ha,h=>by
  have hg:=hl g (zV ..);have hr:∀x∈r,x.right=true:=λx hx=>hl x (zQ _ hx);rw[cW] at h;split at h
  .cases h
  .rename_i h2;split at h
   .rename_i h0
    have hap:Apt (out++[g]):=by
     refine⟨λx hx=>?_,?_⟩
     .rcases zY.1 hx with hx|hx
      .exact ha.1 x hx
      .rw [zp.1 hx];exact h0.1
     .rw [List.pairwise_append];refine⟨ha.2,List.pairwise_singleton _ _,λx hx y hy=>?_⟩;rw[zp.1 hy];have:=List.any_eq_false.1 h0.2 x hx;simpa using this
    obtain⟨q1,q2,q3,q4⟩:=qZ hr (λx hx=>by
     rcases zY.1 hx with hx|hx
     .exact ho x hx
     .rw [zp.1 hx];exact hg) hap h
    refine⟨q1,λx hx=>?_,λx hx=>q3 x (ZB _ hx),λx hx=>?_⟩
    .rcases q2 x hx with hx|hx
     .rcases zY.1 hx with hx|hx
      .exact .inl hx
      .rw [zp.1 hx];exact .inr (zV ..)
     .exact .inr (zQ _ hx)
    .rcases zI.1 hx with rfl|hx
     .exact .inr (q3 _ (ZW _ (zp.2 rfl)))
     .exact q4 x hx
   .rename_i h0;obtain⟨q1,q2,q3,q4⟩:=qZ hr ho ha h;refine⟨q1,λx hx=>?_,q3,λx hx=>?_⟩
    .rcases q2 x hx with hx|hx
     .exact .inl hx
     .exact .inr (zQ _ hx)
    .rcases zI.1 hx with rfl|hx
     .rcases ni x with h3|h3|h3
      .have hs:(out.any λy=>y.same x)=true:=by
        cases hq:out.any λy=>y.same x with
        |true=>rfl
        |false=>exact absurd ⟨h3,hq⟩ h0
       obtain⟨y,hy,hs⟩:=List.any_eq_true.1 hs;have:=IH (ho y hy) hg hs;subst this;exact .inr (q3 _ hy)
      .exact .inl h3
      .exact absurd h3 h2
     .exact q4 x hx
theorem BS:∀{m out:List Gl},(∀g∈m,aQ g=0)->(out++m).Pairwise (λx y=>x.same y=false)->cW out m=some (out++m)
 |[],out,_,_=>by rw[zy];rfl
 |g::r,out,h,hp=>by
  have h0:=h g (zV ..)
  have hs:(out.any λx=>x.same g)=false:=by
   rw[List.any_eq_false];intro x hx;have:=(List.pairwise_append.1 hp).2.2 x hx g (zV ..);rw[this];exact Za
  rw[cW,if_neg (by omega),if_pos ⟨h0,hs⟩,BS (λx hx=>h x (zQ _ hx)) (by simpa using hp)]
  simp
theorem A6{l m:List Int}(h2:(2:Int)∈l↔(2:Int)∈m)(h0:(0:Int)∈l↔(0:Int)∈m):qy l=qy m:=by
 unfold qy;simp only[h2,h0]
theorem Kf{b:List Bnd}{l:List Gl}(hb:∀x∈b,x.t.nodes<=200)(hv:∀g∈l,g.right=true/\(bh b g).right=true/\Tm.aj g.args<=1000):
  ((b9 l).2=2->qy (l.map λg=>aQ (bh b g))=2/\(b9 l).1=[])/\(¬(b9 l).2=2->qy ((b9 l).1.map λg=>aQ (bh b g))=qy (l.map λg=>aQ (bh b g))/\b9 (b9 l).1=b9 l/\((b9 l).2=1↔(b9 l).1=[])):=by
 have hst:∀g∈l,aQ g=0\/aQ (bh b g)=aQ g:=λg hg=>G5 hb (hv g hg).2.2 (hv g hg).1 (hv g hg).2.1
 cases hs:cW [] l with
 |none=>
  have e:b9 l=([],2):=by unfold b9;rw[hs]
  rw[e];refine⟨λ_=>⟨?_,rfl⟩,λh=>absurd rfl h⟩;obtain⟨g,hg,h2⟩:=w6 hs
  have:aQ (bh b g)=2:=by
   rcases hst g hg with h|h
   .rw [h2] at h;cases h
   .rw [h,h2]
  unfold qy
  rw[if_pos (zk.2 ⟨g,hg,this⟩)]
 |some m=>
  have e1:(b9 l).1=m:=by unfold b9;rw[hs];cases m<;>rfl
  have e2:(b9 l).2=if m=[] then 1 else 0:=by unfold b9;rw[hs];cases m<;>rfl
  obtain⟨q1,q2,q3,q4⟩:=qZ (λg hg=>(hv g hg).1) (λg hg=>by cases hg) ⟨λg hg=>by (cases hg),List.Pairwise.nil⟩ hs
  refine⟨λh=>?_,λ_=>⟨?_,?_,?_⟩⟩
  .rw [e2] at h;split at h<;>cases h
  .rw [e1]
   have key:∀v:Int,¬v=1->(v∈m.map (λg=>aQ (bh b g))↔v∈l.map λg=>aQ (bh b g)):=λv hne=>by
    constructor
    .intro h;obtain⟨g,hg,h⟩:=zk.1 h;rcases q2 g hg with h3|h3
     .cases h3
     .exact zk.2 ⟨g,h3,h⟩
    .intro h;obtain⟨g,hg,h⟩:=zk.1 h;rcases q4 g hg with h3|h3
     .rcases hst g hg with h4|h4
      .rw [h3] at h4;cases h4
      .rw [h4,h3] at h;exact absurd h.symm hne
     .exact zk.2 ⟨g,h3,h⟩
   exact A6 (key 2 (by decide)) (key 0 (by decide))
  .rw [e1];have:=BS (out:=[]) q1.1 (by simpa using q1.2)
   rw[Zn] at this;unfold b9;rw[hs,this]
  .rw [e2,e1];constructor
   .intro h;split at h
    .assumption
    .cases h
   .intro h;rw[if_pos h]
end Go.CK
set_option maxRecDepth 100000
namespace Go.CK
open Go.AM Go.Proofs
def oe(a g:Gl):Prop:=a=g\/(a.args.length=2/\g.args.length=2/\((arg a 0=arg g 0/\arg a 1=arg g 1/\ruB a.op g.op false=true)\/(arg a 0=arg g 1/\arg a 1=arg g 0/\ruB a.op g.op true=true)))
theorem Ai{a g:Gl}(ha:a.test=true)(hg:g.test=true):oF a g=true↔oe a g:=by
 unfold oF oe;rw[if_pos ⟨ha,hg⟩]
 by_cases hs:a.same g=true
 .rw [if_pos hs];exact⟨λ_=>.inl (IH (qW ha) (qW hg) hs),λ_=>rfl⟩
 .rw [if_neg hs];have hne:¬a=g:=λe=>hs (by rw[e];exact Gl.tQ _)
  by_cases h2:a.args.length=2/\g.args.length=2
  .rw [if_pos h2];have f0:=aK (cd ha (i:=0) (by omega))
   have f1:=aK (cd ha (i:=1) (by omega))
   have e0:=aK (cd hg (i:=0) (by omega))
   have e1:=aK (cd hg (i:=1) (by omega))
   unfold Ll MR;simp only[ZN,zD,decide_eq_true_eq];rw[gY f0 e0,gY f1 e1,gY f0 e1,gY f1 e0];constructor
   .rintro (⟨⟨q1,q2⟩,q3⟩|⟨⟨q1,q2⟩,q3⟩)
    .exact .inr ⟨h2.1,h2.2,.inl ⟨q1,q2,q3⟩⟩
    .exact .inr ⟨h2.1,h2.2,.inr ⟨q1,q2,q3⟩⟩
   .rintro (h|⟨_,_,⟨q1,q2,q3⟩|⟨q1,q2,q3⟩⟩)
    .exact absurd h hne
    .exact .inl ⟨⟨q1,q2⟩,q3⟩
    .exact .inr ⟨⟨q1,q2⟩,q3⟩
  .rw [if_neg h2];constructor
   .intro h;cases h
   .rintro (h|⟨q1,q2,_⟩)
    .exact absurd h hne
    .exact absurd ⟨q1,q2⟩ h2
theorem Qi{a g:Gl}(ha:a.test=true)(hg:g.test=true)(ho:a.op=g.op)(h2:a.args.length=2)(h3:g.args.length=2)(h0:arg a 0=arg g 0)(h1:arg a 1=arg g 1):a=g:=by
 have n1:=(cg ha).2.1;have n2:=(cg hg).2.1;have l1:=AZ h2;have l2:=AZ h3;rw[h0,h1,<-l2] at l1;obtain⟨o,n,l⟩:=a;obtain⟨o',n',l'⟩:=g;simp only at n1 n2 l1 ho;rw[n1,n2,l1,ho]
theorem oe.trans{a g h:Gl}(ha:a.test=true)(hh:h.test=true)(q:oe a g)(r:oe g h):oe a h:=by
 rcases q with rfl|⟨q1,q2,q⟩
 .exact r
 rcases r with rfl|⟨r1,r2,r⟩
 .exact .inr ⟨q1,q2,q⟩
 rcases q with ⟨x1,x2,x3⟩|⟨x1,x2,x3⟩<;>rcases r with ⟨y1,y2,y3⟩|⟨y1,y2,y3⟩<;>simp only[ruB,decide_eq_true_eq] at x3 y3
 .omega
 .exact .inr ⟨q1,r2,.inr ⟨by rw[x1,y1],by rw[x2,y2],by simp only[ruB,decide_eq_true_eq];omega⟩⟩
 .exact .inr ⟨q1,r2,.inr ⟨by rw[x1,y2],by rw[x2,y1],by simp only[ruB,decide_eq_true_eq];omega⟩⟩
 .by_cases ho:a.op=h.op
  .exact .inl (Qi ha hh ho q1 r2 (by rw[x1,y2]) (by rw[x2,y1]))
  .exact .inr ⟨q1,r2,.inl ⟨by rw[x1,y2],by rw[x2,y1],by simp only[ruB,decide_eq_true_eq];omega⟩⟩
theorem oe.app{a g:Gl}(b:List Bnd)(q:oe a g):oe (bh b a) (bh b g):=by
 rcases q with rfl|⟨q1,q2,q⟩
 .exact .inl rfl
 .have l1:(bh b a).args.length=2:=by show (a.args.map _).length=2;rw[zF,q1]
  have l2:(bh b g).args.length=2:=by show (g.args.map _).length=2;rw[zF,q2]
  refine .inr ⟨l1,l2,?_⟩;rw[k7 (i:=0) (g:=a) (by omega),k7 (i:=1) (g:=a) (by omega),k7 (i:=0) (g:=g) (by omega),k7 (i:=1) (g:=g) (by omega)]
  rcases q with ⟨x1,x2,x3⟩|⟨x1,x2,x3⟩
  .exact .inl ⟨by rw[x1],by rw[x2],x3⟩
  .exact .inr ⟨by rw[x1],by rw[x2],x3⟩
theorem Jp{op:Int}{a b:Tm}:mR op a b=2↔(cU a b).2.2=2\/((cU a b).2.2=1/\Eb op (cU a b).1 (cU a b).2.1=false):=by
 unfold mR
 by_cases h:(cU a b).2.2=1
 .rw [if_pos h,h];cases Eb op (cU a b).1 (cU a b).2.1<;>simp[uS]
 .rw [if_neg h];exact⟨λe=>.inl e,λe=>e.elim id λe=>absurd e.1 h⟩
theorem MB{a g:Gl}(hta:a.test=true)(htg:g.test=true)(hN:Tm.aj a.args<=100000)(h:oe a g)(h1:aQ g=2):aQ a=2:=by
 rcases h with rfl|⟨h2,h3,h⟩
 .exact h1
 have a0:=cd hta (i:=0) (by omega)
 have a1:=cd hta (i:=1) (by omega)
 have n0:=dF a 0;have n1:=dF a 1;have hop:=(cg hta).1;have hog:=(cg htg).1;rw[fU htg] at h1;rw[fU hta];rcases h with ⟨e1,e2,h⟩|⟨e1,e2,h⟩
 .rw [<-e1,<-e2] at h1;simp only[ruB,decide_eq_true_eq] at h;rw[jI (by omega)] at h1|-
  rw[Jp] at h1|-;rcases h1 with h1|⟨h1,h4⟩
  .exact .inl h1
  .refine .inr ⟨h1,?_⟩;unfold Eb at h4|-;rcases h with ⟨q1,q2⟩|⟨q1,q2⟩|⟨q1,q2⟩<;>rw[q2] at h4<;>rw[q1]<;>simp at h4|-<;>omega
 .rw [<-e1,<-e2] at h1;simp only[ruB,decide_eq_true_eq] at h
  by_cases h7:7<=a.op
  .rw [jI (by omega)] at h1|-
   rw[Jp] at h1|-;rw[wQ] at h1;rcases h1 with h1|⟨h1,h4⟩
   .exact .inl h1
   .refine .inr ⟨h1,?_⟩;unfold Eb at h4|-;rcases h with ⟨q1,q2⟩|⟨q1,q2⟩|⟨q1,q2⟩|⟨q1,q2⟩|⟨q1,q2⟩|⟨q1,q2⟩<;>rw[q2] at h4<;>rw[q1]<;>simp at h4|-<;>omega
  .rw [EI (a:=arg a 1) a1 a0 (by omega)] at h1
   have hcs:(arg a 1).cmp (arg a 0)=0↔(arg a 0).cmp (arg a 1)=0:=⟨tC _ _,tC _ _⟩;have e6:g.op=a.op:=by omega
   rw[e6] at h1;unfold og at h1|-;rw[if_neg (by omega),if_neg (by omega),if_pos (by omega)] at h1|-
   simp only[hcs] at h1;exact h1
end Go.CK
set_option maxRecDepth 100000
namespace Go.CK
open Go.AM Go.Proofs
def j7(l:List Gl)(j k:Nat):Bool:=match l[j]?,l[k]? with
 |some x,some y=>decide (j≠k)&&(oF x y&&(decide (j<k)||!oF y x))
 |_,_=>false
def j8(l:List Gl)(k:Nat):Bool:=!(List.range l.length).any λj=>j7 l j k
theorem x7{l:List Gl}(ht:∀g∈l,g.test=true){j k:Nat}:j7 l j k=true↔∃x y,l[j]? =some x/\l[k]? =some y/\j≠k/\oe x y/\(j<k\/¬oe y x):=by
 unfold j7
 cases hj:l[j]? with
 |none=>simp
 |some x=>
  cases hk:l[k]? with
  |none=>simp
  |some y=>
   have hx:=ht x (zE hj);have hy:=ht y (zE hk);have e1:=Ai hx hy;have e2:=Ai hy hx;simp only[zD,ZN,decide_eq_true_eq,zb,<-Bool.not_eq_true,e1,e2];constructor
   .rintro ⟨h1,h2,h3⟩;exact⟨x,y,rfl,rfl,h1,h2,h3⟩
   .rintro ⟨x',y',q1,q2,h1,h2,h3⟩;cases q1;cases q2;exact⟨h1,h2,h3⟩
theorem HC{l:List Gl}(ht:∀g∈l,g.test=true){i j k:Nat}(h1:j7 l i j=true)(h2:j7 l j k=true):j7 l i k=true:=by
 rw[x7 ht] at h1 h2|-;obtain⟨x,y,q1,q2,n1,f1,o1⟩:=h1;obtain⟨y',z,q3,q4,n2,f2,o2⟩:=h2;rw[q2] at q3;cases q3;have hx:=ht x (zE q1);have hy:=ht y (zE q2);have hz:=ht z (zE q4)
 have hik:i≠k:=λe=>by
  subst e;rw[q1] at q4;cases q4;rcases o1 with o1|o1
  .rcases o2 with o2|o2
   .omega
   .exact o2 f1
  .exact o1 f2
 refine⟨x,z,q1,q4,hik,f1.trans hx hz f2,?_⟩
 by_cases hzx:oe z x
 .have h3:j<k:=o2.elim id λe=>absurd (hzx.trans hz hy f1) e;have h4:i<j:=o1.elim id λe=>absurd (f2.trans hy hx hzx) e;exact .inl (by omega)
 .exact .inr hzx
theorem L6{l:List Gl}(ht:∀g∈l,g.test=true){i:Nat}:¬j7 l i i=true:=by
 rw[x7 ht];rintro⟨_,_,_,_,h,_⟩;exact h rfl
theorem oe.refl(a:Gl):oe a a:=.inl rfl
theorem NV{l:List Gl}(ht:∀g∈l,g.test=true):∀(n k:Nat) (y:Gl),((List.range l.length).countP λj=>j7 l j k)<=n->l[k]? =some y->∃j x,l[j]? =some x/\j8 l j=true/\oe x y:=by
 intro n
 induction n with
 |zero=>
  intro k y h hk;refine⟨k,y,hk,?_,oe.refl y⟩;unfold j8;rw[zb,List.any_eq_false];intro j hj hq;have:0<(List.range l.length).countP λj=>j7 l j k:=List.countP_pos_iff.2 ⟨j,hj,hq⟩
  omega
 |succ n ih=>
  intro k y h hk
  cases hn:j8 l k with
  |true=>exact⟨k,y,hk,hn,oe.refl y⟩
  |false=>
   unfold j8 at hn;rw[Bool.not_eq_false',List.any_eq_true] at hn;obtain⟨j,hj,hq⟩:=hn;obtain⟨x,y',q1,q2,_,f,_⟩:=(x7 ht).1 hq;rw[hk] at q2;cases q2
   have hlt:((List.range l.length).countP λi=>j7 l i j)<(List.range l.length).countP λi=>j7 l i k:=by
    have hsub:∀r:List Nat,(r.countP λi=>j7 l i j)<=r.countP λi=>j7 l i k:=λr=>List.countP_mono_left λi _ hi=>HC ht hi hq;obtain⟨p,s,hps⟩:=List.append_of_mem hj;rw[hps,List.countP_append,List.countP_append,List.countP_cons,List.countP_cons,if_pos hq,if_neg (L6 ht)];have:=hsub p;have:=hsub s;omega
   obtain⟨i,w,w1,w2,w3⟩:=ih j x (by omega) q1
   exact⟨i,w,w1,w2,w3.trans (ht w (zE w1)) (ht y (zE hk)) f⟩
def eK(l:List Gl):Nat->List Gl
 |0=>[]
 |k+1=>eK l k++match l[k]? with
  |some x=>if j8 l k=true then [x] else []
  |none=>[]
theorem mM{l:List Gl}{x:Gl}:∀{n:Nat},x∈eK l n↔∃k,k<n/\l[k]? =some x/\j8 l k=true
 |0=>by simp[eK]
 |n+1=>by
  rw[eK,zY,mM];constructor
  .rintro (⟨k,h1,h2,h3⟩|h)
   .exact ⟨k,by omega,h2,h3⟩
   .cases hq:l[n]? with
    |none=>rw[hq] at h;cases h
    |some y=>
     rw[hq] at h;simp only at h;split at h
     .rw [zp] at h;subst h;exact⟨n,by omega,hq,by assumption⟩
     .cases h
  .rintro ⟨k,h1,h2,h3⟩
   by_cases hk:k=n
   .subst hk;right;rw[h2];simp only;rw[if_pos h3];simp
   .exact .inl ⟨k,by omega,h2,h3⟩
theorem H7{b:List Bnd}{l:List Gl}(ht:∀g∈l,g.test=true)(hh:∀g∈l,(bh b g).test=true/\Tm.aj (bh b g).args<=90000):qy ((eK l l.length).map λg=>aQ (bh b g))=qy (l.map λg=>aQ (bh b g)):=by
 have sub:∀v:Int,v∈(eK l l.length).map (λg=>aQ (bh b g))->v∈l.map λg=>aQ (bh b g):=λv h=>by
  obtain⟨g,hg,e⟩:=zk.1 h;obtain⟨k,_,hk,_⟩:=mM.1 hg;exact zk.2 ⟨g,zE hk,e⟩
 have ex:∀g∈l,∃x∈eK l l.length,oe (bh b x) (bh b g):=λg hg=>by
  obtain⟨k,hk⟩:=ZS hg;obtain⟨j,x,h1,h2,h3⟩:=NV ht _ k g (zG _) hk;exact⟨x,mM.2 ⟨j,(zB.1 h1).1,h1,h2⟩,h3.app b⟩
 have inl:∀x∈eK l l.length,x∈l:=λx hx=>by
  obtain⟨k,_,hk,_⟩:=mM.1 hx;exact zE hk
 have two:(2:Int)∈l.map (λg=>aQ (bh b g))->(2:Int)∈(eK l l.length).map λg=>aQ (bh b g):=λh=>by
  obtain⟨g,hg,e⟩:=zk.1 h;obtain⟨x,hx,hf⟩:=ex g hg;exact zk.2 ⟨x,hx,MB (hh x (inl x hx)).1 (hh g hg).1 (by have:=(hh x (inl x hx)).2;omega) hf e⟩
 by_cases h2:(2:Int)∈l.map λg=>aQ (bh b g)
 .unfold qy;rw[if_pos h2,if_pos (two h2)]
 .refine A6 ⟨sub 2,two⟩ ⟨sub 0,λh=>?_⟩;obtain⟨g,hg,e⟩:=zk.1 h;obtain⟨x,hx,hf⟩:=ex g hg;rcases ni (bh b x) with h3|h3|h3
  .exact zk.2 ⟨x,hx,h3⟩
  .have:=Of (hh x (inl x hx)).2 ((Ai (hh x (inl x hx)).1 (hh g hg).1).2 hf) h3;rw[e] at this;cases this
  .exact absurd (sub 2 (zk.2 ⟨x,hx,h3⟩)) h2
end Go.CK
namespace Go.CK
def tr(p:Nat->Bool):Nat->List Int
 |0=>[]
 |j+1=>tr p j++if p j then [(j:Int)] else []
theorem pq{p:Nat->Bool}{i:Int}:∀{n:Nat},i∈tr p n↔∃m:Nat,m<n/\i=m/\p m=true
 |0=>by simp[tr]
 |n+1=>by
  rw[tr,zY,pq];constructor
  .rintro (⟨m,h1,h2,h3⟩|h)
   .exact ⟨m,by omega,h2,h3⟩
   .split at h
    .rw [zp] at h;exact⟨n,by omega,h,by assumption⟩
    .cases h
  .rintro ⟨m,h1,h2,h3⟩
   by_cases hm:m=n
   .subst hm;right;rw[if_pos h3,h2];exact zp.2 rfl
   .exact .inl ⟨m,by omega,h2,h3⟩
theorem pr{p:Nat->Bool}:∀{n:Nat},(tr p n).length=(List.range n).countP p
 |0=>rfl
 |n+1=>by
  rw[tr,zC,pr,List.range_succ,List.countP_append];cases h:p n<;>simp[h]
def Fs(cov:Nat->Nat->Bool):Nat->Nat->Bool
 |0,m=>cov 0 m
 |k+1,m=>cov (k+1) m&&!cov k m
def pB(cov:Nat->Nat->Bool)(n:Nat):Nat->List Int
 |0=>[]
 |k+1=>pB cov n k++tr (Fs cov k) n
theorem uM{cov:Nat->Nat->Bool}(hm:∀k m,cov k m=true->cov (k+1) m=true){n:Nat}{i:Int}:∀{k:Nat},i∈pB cov n (k+1)↔∃m:Nat,m<n/\i=m/\cov k m=true
 |0=>by
  rw[pB,pB,Zn,pq];rfl
 |k+1=>by
  rw[pB,zY,uM hm,pq];constructor
  .rintro (⟨m,h1,h2,h3⟩|⟨m,h1,h2,h3⟩)
   .exact ⟨m,h1,h2,hm k m h3⟩
   .simp only[Fs,zD] at h3;exact⟨m,h1,h2,h3.1⟩
  .rintro ⟨m,h1,h2,h3⟩
   cases hc:cov k m with
   |true=>exact .inl ⟨m,h1,h2,hc⟩
   |false=>exact .inr ⟨m,h1,h2,by simp[Fs,h3,hc]⟩
theorem FZ{cov:Nat->Nat->Bool}(hm:∀k m,cov k m=true->cov (k+1) m=true){n k:Nat}{i:Int}(h:i∈tr (Fs cov k) n):i∉pB cov n k:=by
 intro hf;obtain⟨m,h1,h2,h3⟩:=pq.1 h
 cases k with
 |zero=>cases hf
 |succ k=>
  obtain⟨m',h4,h5,h6⟩:=(uM hm).1 hf;have:m'=m:=by omega
  subst this;simp only[Fs,h6,zD,Bool.not_true] at h3;exact Za h3.2
theorem AB{a c:Nat->Bool}(h:∀m,a m=true->c m=true):∀l:List Nat,l.countP a+l.countP (λm=>c m&&!a m)=l.countP c
 |[]=>rfl
 |m::l=>by
  have ih:=AB h l;simp only[List.countP_cons]
  cases ha:a m with
  |true=>rw[h m ha];simp;omega
  |false=>cases hc:c m<;>simp<;>omega
theorem uN{cov:Nat->Nat->Bool}(hm:∀k m,cov k m=true->cov (k+1) m=true){n:Nat}:∀{k:Nat},(pB cov n (k+1)).length=(tr (cov k) n).length
 |0=>by rw[pB,pB,Zn];rfl
 |k+1=>by
  rw[pB,zC,uN hm,pr,pr,pr];exact AB (hm k) _
end Go.CK
set_option maxRecDepth 100000
namespace Go.CK
open Go.AM Go.Proofs
open Go.AM Go.Proofs
def Rl.aR(x:Rl):List At:=x.keep++x.remove
theorem Rl.Ko(x:Rl):x.aR.length=x.keep.length+x.remove.length:=by simp[Rl.aR]
theorem MS{x:Rl}(h:x.keep.length+x.remove.length<=100000):Fun Tryz.prog 70 [x.av] (.int .i64 (x.keep.length+x.remove.length)):=by
 refine Fun.of (xS (by simp) ?_) rfl rfl
 conv=>whnf
 repeat' (first|refine gW (wI ?_)|refine gL (.map ?_)|refine ae.nrm ?_)<;>conv=>whnf
theorem FQ{x:Rl}(h:x.keep.length+x.remove.length<=100000):Fun Tryz.prog 40 [x.av] (slA At.av x.aR):=by
 refine Fun.of (xT (by simp) ?_) rfl rfl
 conv=>whnf
 repeat' (first|refine gF (aa.fn (MS h) ?_)|refine gN (nS ?_)|refine ae.nrm ?_)<;>conv=>whnf
 simp[Rl.aR]
theorem E7{x:Rl}(h:x.keep.length+x.remove.length<=100000):Fun Tryz.prog 73 [x.av] (slA At.av x.aR):=by
 refine Fun.of (lJ (by simp) ?_) rfl rfl
 conv=>whnf
 repeat' (first|refine gN (nS ?_)|refine ae.nrm ?_)<;>conv=>whnf
 simp[Rl.aR]
def kvs(hs:List At):List Int->List Int
 |[]=>[]
 |k::r=>(if 0<=k then match hs[k.toNat]? with
  |some h=>a8 (Tm.vss h.args)
  |none=>[]
  else [])++kvs hs r
theorem qc(hs:List At):∀l m,kvs hs (l++m)=kvs hs l++kvs hs m
 |[],m=>rfl
 |k::l,m=>by rw[ze,kvs,kvs,qc hs l m,zg]
theorem N5{hs:List At}{l:List Int}{j:Nat}{k:Int}{h:At}(hk:l[j]? =some k)(h0:0<=k)(hh:hs[k.toNat]? =some h):kvs hs (l.take (j+1))=kvs hs (l.take j)++a8 (Tm.vss h.args):=by
 obtain⟨hj,rfl⟩:=zB.1 hk;rw[List.take_succ_eq_append_getElem hj,qc];simp[kvs,h0,hh]
theorem PE{hs:List At}{l:List Int}{j:Nat}{k:Int}(hk:l[j]? =some k)(h0:k<0\/(hs.length:Int)<=k):kvs hs (l.take (j+1))=kvs hs (l.take j):=by
 obtain⟨hj,rfl⟩:=zB.1 hk;rw[List.take_succ_eq_append_getElem hj,qc];rcases h0 with h0|h0
 .simp [kvs,Int.not_le.2 h0]
 .have:hs[(l[j]).toNat]? =none:=zR (by omega)
  simp[kvs,this]
open Go.AM Go.Proofs
def cr(hs:List At):List Int->List Tm
 |[]=>[]
 |k::r=>(if 0<=k then match hs[k.toNat]? with
  |some h=>h.args
  |none=>[]
  else [])++cr hs r
theorem rZ(hs:List At):∀l m,cr hs (l++m)=cr hs l++cr hs m
 |[],m=>rfl
 |k::l,m=>by rw[ze,cr,cr,rZ hs l m,zg]
theorem Ik{hs:List At}{l:List Int}{j:Nat}{k:Int}{h:At}(hk:l[j]? =some k)(h0:0<=k)(hh:hs[k.toNat]? =some h):cr hs (l.take (j+1))=cr hs (l.take j)++h.args:=by
 obtain⟨hj,rfl⟩:=zB.1 hk;rw[List.take_succ_eq_append_getElem hj,rZ];simp[cr,h0,hh]
theorem KT{hs:List At}{l:List Int}{j:Nat}{k:Int}(hk:l[j]? =some k)(h0:k<0\/(hs.length:Int)<=k):cr hs (l.take (j+1))=cr hs (l.take j):=by
 obtain⟨hj,rfl⟩:=zB.1 hk;rw[List.take_succ_eq_append_getElem hj,rZ];rcases h0 with h0|h0
 .simp [cr,Int.not_le.2 h0]
 .have:hs[(l[j]).toNat]? =none:=zR (by omega)
  simp[cr,this]
theorem A1(hs:List At):∀(l:List Int) (x:Int),x∈a8 (Tm.vss (cr hs l))↔x∈kvs hs l
 |[],x=>by simp[cr,kvs,a8,bp,Tm.vss]
 |k::r,x=>by
  have ih:=A1 hs r x;unfold a8 at ih;rw[qm] at ih;unfold a8;rw[cr,kvs,Tm.se,qm,zY,zY,<-ih];simp only[ye,false_or];refine or_congr ?_ Iff.rfl
  by_cases h0:0<=k
  .rw [if_pos h0,if_pos h0]
   cases hs[k.toNat]? with
   |some h=>
    simp only
    unfold a8;rw[qm];simp
   |none=>simp[Tm.vss]
  .rw [if_neg h0,if_neg h0];simp[Tm.vss]
theorem A0{hs:List At}(hh:∀h∈hs,h.args.length<=200/\(Tm.vss h.args).length<=200):∀l:List Int,(cr hs l).length<=200*l.length/\(Tm.vss (cr hs l)).length<=200*l.length
 |[]=>by simp[cr,Tm.vss]
 |k::r=>by
  have ih:=A0 hh r;rw[cr,Tm.se,zC,zC,zX];split
  .split
   .rename_i h hk;have:=hh h (zE hk);omega
   .simp only[ZQ,Tm.vss];omega
  .simp only[ZQ,Tm.vss];omega
open Go.AM Go.Proofs
def at2(a:At):List Tm×ByteArray:=(a.args,a.name)
theorem qJ{l:List At}{most:Int}(b1:-1<=most)(b2:most<=100000):Fun Tryz.prog 39 [slA At.av l,.int .i64 most] (.bool (a7 (l.map at2) most)):=by
 refine Fun.assume rfl λhg0=>?_;have hgs:=aJ (hg0 (slA At.av l) (by simp))
 have hg:=hgs.1;have hml:(l.map at2).length=l.length:=by simp
 refine Fun.of (iB (by simp) ?_) rfl rfl
 conv=>whnf
 skip;refine ax.by (fb:=true) (λs (q:Nat×Int)=>s.dO [(1,.int .i64 q.2),(5,.int .i64 q.1)]) (λq=>q.1<=l.length/\(-1<=q.2/\q.2<=100000)/\a7 ((l.map at2).drop q.1) q.2=a7 (l.map at2) most) (λq=>l.length-q.1) (0,most) ⟨zJ _,by simp only;omega,rfl⟩ ?_ ?_
 .exact aH
 .rintro ⟨j,r⟩ ⟨hj,hr,he⟩;dsimp only at hj hr he|-
  by_cases hlt:j<l.length
  .obtain ⟨x,hx⟩:∃x,l[j]? =some x:=⟨_,zA hlt⟩;have hx2:(l.map at2)[j]? =some (at2 x):=by rw[ZF,hx];rfl
   have hxs:=(At.good (hgs.2 x (zE hx))).1
   by_cases hr0:0<=r
   .rw [vu hx2 hr0,show (at2 x).1=x.args from rfl,show (at2 x).2=x.name from rfl] at he;have hw:=wN (.mk 0 0 .empty x.args) (r-1-(x.name.size:Int).tdiv 8) 64;rw[show (Tm.mk 0 0 .empty x.args).args=x.args from rfl] at hw;have h8:=jS x.name.size
    conv=>whnf
    repeat' (first|(refine gG ?_;refine al.fn (wM (by omega) (by omega) (by omega) (by omega)) ?_)|refine gC (gD (cI ?_))|refine gW (wI ?_)|refine gL (.map ?_)|refine gN (nS ?_)|refine gI (gM (iE ?_)))<;>conv=>whnf
    refine⟨(j+1,bH x.args (r-1-(x.name.size:Int).tdiv 8) 64),⟨⟨hlt,?_,he⟩,by simp only;omega⟩,?_⟩
    .simp only;omega
    .exact aH
   .rw [dV _ (by omega)] at he
    conv=>whnf
    repeat' (first|(refine gC ?_;(refine gD ?_;first|refine cI ?_|refine cJ ?_))|refine gL (.map ?_)|refine ae.nrm ?_)<;>conv=>whnf
    rw[<-he];simp;omega
  .have hje:j=l.length:=by omega
   subst hje;rw[<-hml,zj,a7] at he
   conv=>whnf
   repeat' (first|(refine gC ?_;first|refine cN ?_|refine gD (cJ ?_))|refine gL (.map ?_)|refine ae.nrm ?_)<;>conv=>whnf
   rw[<-he]
def gr1(n:Nat)(most:Int)(r:Rl):Bool:=decide (most<n)||(decide (most<(r.name.size:Int).tdiv 8+r.keep.length+r.remove.length)||(a7 (r.keep.map at2) most||(a7 (r.remove.map at2) most||(a7 (r.guard.map gl2) most||a7 (r.body.map gl2) most))))
theorem qH{l:List Rl}{most:Int}(b1:0<=most)(b2:most<=100000):Fun Tryz.prog 14 [slA Rl.av l,.int .i64 most] (.bool (l.any (gr1 l.length most))):=by
 refine Fun.assume rfl λhg0=>?_;have hgs:=aJ (hg0 (slA Rl.av l) (by simp))
 have hg:=hgs.1;refine Fun.of (iy (by simp) ?_) rfl rfl
 conv=>whnf
 skip;refine ax.count (fb:=true) (l.length) (λst_ j=>st_.dO [(5,.int .i64 j)]) (λj=>∀i x,i<j->l[i]? =some x->gr1 l.length most x=false) ?_ ?_ (λj hj hij=>?_) (λhij=>?_)
 .exact DP
 .exact aH
 .obtain ⟨y,hy⟩:∃y,l[j]? =some y:=⟨_,zA hj⟩;have hyg:=Rl.good (hgs.2 y (zE hy));have h8:=jS y.name.size
  conv=>whnf
  repeat' (first|(refine gF ?_;first|refine aa.fn (qJ (l:=y.keep) (most:=most) (by omega) b2) ?_|refine aa.fn (qJ (l:=y.remove) (most:=most) (by omega) b2) ?_|refine aa.fn (eM (l:=y.guard) (most:=most) (by omega) b2) ?_|refine aa.fn (eM (l:=y.body) (most:=most) (by omega) b2) ?_)|(refine gC ?_;first|refine cY ?_|(refine gD ?_;first|refine cI ?_|refine cJ ?_)|refine cYa ?_|refine cNa ?_|refine ak.lt (λhc=>?_) (λhc=>?_)|refine ak.any (λhc=>?_) (λhc=>?_))|refine gW (wI ?_)|refine gL (.map ?_)|refine gN (nS ?_)|refine gI (gM (iE ?_))|refine ae.nrm ?_)<;>conv=>whnf
  all_goals try (rw[M4 hy (by simp only[gr1,ZN,decide_eq_true_eq];first|exact .inl hc|exact .inr (.inl hc)|exact .inr (.inr (.inl hc))|exact .inr (.inr (.inr (.inl hc)))|exact .inr (.inr (.inr (.inr (.inl hc))))|exact .inr (.inr (.inr (.inr (.inr hc)))))];done)
  .refine ⟨DQ hij hy (by simp only[gr1,Bool.or_eq_false_iff,decide_eq_false_iff_not];refine⟨by omega,by omega,?_,?_,?_,?_⟩<;>assumption),?_⟩
   refine ah.atC 0 ?_ rfl rfl rfl rfl (by first|rfl|(repeat' (first|rfl|refine ay (row_allI _ _ _) ?_|refine ay (aI _ _ _) ?_|refine bLtMp ?_|refine aY ?_|refine bLtCells rfl ?_)))
   conv=>whnf
   refine And.intro ?_ ?_<;>conv=>whnf
   all_goals repeat' (first|(refine gV ?_;first|refine vE ?_|refine vI ?_)|exact True.intro)<;>conv=>whnf
 .conv=>whnf
  repeat' (first|refine gC (gD (cJ ?_))|refine gL (.map ?_)|refine ae.nrm ?_)<;>conv=>whnf
  rw[M0 hij]
theorem Iw{l:List Tm}{t:Tm}(h:t∈l):t.vs.length<=(Tm.vss l).length:=by
 obtain⟨j,hj,rfl⟩:=Zx h;rw[Tm.jG (zA hj)];simp only[zC];omega
end Go.CK
namespace Go.CK
open Go.AM Go.Proofs
theorem FT{x:Gl}(hl:(Tm.vss x.args).length<=100000):Fun Tryz.prog 72 [x.av] (slA bM (a8 (Tm.vss x.args))):=by
 refine Fun.of (uk (by simp) ?_) rfl rfl
 conv=>whnf
 repeat' (first|(refine gF ?_;first|refine aa.fn (D6) ?_|refine aa.fn (IX hl) ?_)|refine ae.nrm ?_)<;>conv=>whnf
theorem xr{x:Gl}(hl:(Tm.vss x.args).length<=100000):Fun Tryz.prog 75 [x.av] (slA bM (a8 (Tm.vss x.args))):=by
 refine Fun.of (jx (by simp) ?_) rfl rfl
 conv=>whnf
 repeat' (first|refine gF (aa.fn (BO hl) ?_)|refine ae.nrm ?_)<;>conv=>whnf
def bf(xs:List Int)(g:Gl):Bool:=(a8 (Tm.vss g.args)).all λv=>decide (v∈xs)
theorem CU{bs:List Box}{b:Nat}{xs:List Int}{g:Gl}(hl:(Tm.vss g.args).length<=100000)(hbb:ai bs.length bs=true)(hb:bs[b]? =some (.mp (jA (.bool true) xs))):AM.Sem Tryz.prog 42 [.mpt b,g.av] bs λr bs'=>r=.bool (bf xs g)/\bs'=bs:=by
 have hblt:b<bs.length:=(zB.1 hb).1;refine nK (by simp) ?_
 conv=>whnf
 repeat' (first|(refine gF ?_;refine aa.fn (FT (x:=g) hl) ?_)|refine gL (.map ?_)|refine gB (.last ?_))<;>conv=>whnf
 unfold bf
 have hvl:(a8 (Tm.vss g.args)).length<=100000:=by
  have:=ew (Tm.vss g.args) [];simp only[ZQ] at this;unfold a8;omega
 generalize a8 (Tm.vss g.args)=vs at*;obtain⟨bg,hbg⟩:∃bg,bg=[AV.int .i64 g.op,.str g.name,.sl .no (g.args.map Tm.av)]:=⟨_,rfl⟩;have hb2:(bs++[Box.cells bg])[b]? =some (.mp (jA (.bool true) xs)):=by rw[zK hblt];exact hb
 rw[<-hbg];refine ax.count (fb:=false) vs.length (λst_ j=>⟨[(0,.mpt b),(8,slA bM vs),(9,.int .i64 vs.length),(10,.int .i64 j)],bs++[Box.cells bg],bs.length⟩) (λj=>∀i x,i<j->vs[i]? =some x->decide (x∈xs)=true) (λi x hi=>by omega) ?_ (λj hj hij=>?_) (λhij=>?_)
 .refine ah.atS ?_ rfl rfl
  conv=>whnf
  repeat' (first|(refine gV ?_;first|refine vE ?_|refine vI ?_)|exact True.intro)<;>conv=>whnf
 .obtain ⟨y,hy⟩:∃y,vs[j]? =some y:=⟨_,zA hj⟩
  conv=>whnf
  repeat' (first|(refine gC ?_;first|refine cY ?_|refine cN ?_|refine .not ?_|refine gD (cI ?_))|refine gW (wI ?_)|refine gI (gM (iE ?_))|refine gMp (mA ?_)|(refine gMs ?_;refine mS (λhc=>?_) (λhc=>?_)))<;>conv=>whnf
  .refine ⟨EE hij hy (decide_eq_true (by assumption)),?_⟩
   refine ah.atS ?_ rfl rfl
   conv=>whnf
   repeat' (first|(refine gV ?_;first|refine vE ?_|refine vI ?_)|exact True.intro)<;>conv=>whnf
  .refine ae.wg rfl (zG _) rfl hbb ?_;refine ae.slot ⟨?_,rfl⟩;rw[M5 hy (decide_eq_false (by assumption))];rfl
 .conv=>whnf
  repeat' refine gC (gD (cJ ?_))<;>conv=>whnf
  refine ae.wg rfl (zG _) rfl hbb ?_;refine ae.slot ⟨?_,rfl⟩;rw[Jz hij];rfl
theorem ae.nil{s:St}{Q:AV->List Box->Prop}(h:Q (.tup []) s.bs):ae s [] Q:=⟨s,aF.refl s,.inl h⟩
theorem w8{α:Type}{l:List α}{b:Nat}{x:α}(h:l[b]? =some x):l.set b x=l:=by
 obtain⟨hb,rfl⟩:=zB.1 h;exact List.set_getElem_self hb
theorem HN{hs:List At}{k:Int}(h:k<0\/(hs.length:Int)<=k):kvs hs [k]=[]:=by
 have:=PE (hs:=hs) (l:=[k]) (j:=0) (k:=k) rfl h;simpa[kvs] using this
theorem N6{hs:List At}{k:Int}{h:At}(h0:0<=k)(hh:hs[k.toNat]? =some h):kvs hs [k]=a8 (Tm.vss h.args):=by
 have:=N5 (hs:=hs) (l:=[k]) (j:=0) (k:=k) rfl h0 hh;simpa[kvs] using this
theorem F6{bs:List Box}{b:Nat}{xs:List Int}{hs:List At}{k:Int}(hl:∀h∈hs,(Tm.vss h.args).length<=100000)(hbb:ai bs.length bs=true)(hb:bs[b]? =some (.mp (jA (.bool true) xs))):AM.Sem Tryz.prog 41 [.mpt b,slA At.av hs,.int .i64 k] bs λr bs'=>r=.tup []/\bs'=bs.set b (.mp (jA (.bool true) (xs++kvs hs [k]))):=by
 have hblt:b<bs.length:=(zB.1 hb).1;refine oC (by simp) ?_
 by_cases hk:0<=k/\k<hs.length
 .obtain ⟨h,hh⟩:∃h,hs[k.toNat]? =some h:=⟨_,zA (by omega)⟩
  rw[N6 hk.1 hh]
  conv=>whnf
  repeat' (first|(refine gF ?_;refine aa.fn (Gz (x:=h) (hl h (zE hh))) ?_)|refine gC (gD (cJ ?_))|refine gL (.map ?_)|refine gI (gM (iF ?_)))<;>conv=>whnf
  have hvl:(a8 (Tm.vss h.args)).length<=100000:=by
   have:=ew (Tm.vss h.args) [];simp only[ZQ] at this;have:=hl h (zE hh);unfold a8;omega
  generalize a8 (Tm.vss h.args)=vs at*;refine ax.count (fb:=false) vs.length (λst_ j=>⟨[(0,.mpt b),(20,slA bM vs),(21,.int .i64 vs.length),(22,.int .i64 j)],bs.set b (.mp (jA (.bool true) (xs++vs.take j))),bs.length⟩) (λ_=>True) trivial ?_ (λj hj _=>?_) (λ_=>?_)
  .refine ah.atS ?_ (by rw[ZL,zy,w8 hb]) rfl
   conv=>whnf
   repeat' (first|(refine gV ?_;first|refine vE ?_|refine vI ?_)|exact True.intro)<;>conv=>whnf
  .obtain ⟨y,hy⟩:∃y,vs[j]? =some y:=⟨_,zA hj⟩
   have hs:vs.take (j+1)=vs.take j++[y]:=by
    rw[List.take_succ_eq_append_getElem hj,(zB.1 hy).2]
   have hb3:(bs.set b (.mp (jA (.bool true) (xs++vs.take j))))[b]? =some (.mp (jA (.bool true) (xs++vs.take j))):=by rw[List.getElem?_set_self hblt]
   conv=>whnf
   repeat' (first|refine gC (gD (cI ?_))|refine gW (wI ?_)|refine gN (nS ?_)|refine gI (gM (iE ?_))|refine gMp (mA ?_))<;>conv=>whnf
   refine⟨trivial,?_⟩;refine ah.atS ?_ (by simp only[List.set_set,St.ev];rw[hs,<-zg,Fw]) rfl
   conv=>whnf
   repeat' (first|(refine gV ?_;first|refine vE ?_|refine vI ?_)|exact True.intro)<;>conv=>whnf
  .rw [zz]
   conv=>whnf
   repeat' refine gC (gD (cJ ?_))<;>conv=>whnf
   exact ae.nil ⟨rfl,rfl⟩
 .rw [HN (by omega),zy,w8 hb]
  conv=>whnf
  repeat' (first|(refine gC ?_;first|refine cY ?_|(refine gD ?_;first|refine cI ?_|refine cJ ?_)|refine ak.lt (λhc=>?_) (λhc=>?_))|refine gL (.map ?_))<;>conv=>whnf
  .exact ae.nil ⟨rfl,rfl⟩
  .exact ae.nil ⟨rfl,rfl⟩
end Go.CK
namespace Go.CK
open Go.AM Go.Proofs
def Rl.ok3(r:Rl):Prop:=r.keep.length+r.remove.length<=200/\∀h∈r.aR,h.args.length<=200/\(Tm.vss h.args).length<=200/\∀t∈h.args,t.vs.length<=200
set_option maxHeartbeats 1000000 in
theorem xt{r:Rl}{done:List Int}{g:Gl}(hr:r.ok3)(hd:done.length<=100)(hg:(Tm.vss g.args).length<=100000):Fun Tryz.prog 43 [r.av,slA bM done,g.av] (.bool (bf (kvs r.aR done) g)):=by
 have hhl:r.aR.length<=200:=by rw[Rl.Ko];exact hr.1
 have hal:=A0 (hs:=r.aR) λg hg=>⟨(hr.2 g hg).1,(hr.2 g hg).2.1⟩;refine Fun.of (lG (by simp) ?_) rfl rfl
 conv=>whnf
 repeat' (refine gF ?_;refine aa.fn (E7 (x:=r) (by have:=hr.1;omega)) ?_)<;>conv=>whnf
 refine ax.count (fb:=true) done.length (λst_ j=>st_.dO [(8,.sl (.own 4) ((cr r.aR (done.take j)).map Tm.av)),(9,.int .i64 j)]) (λ_=>True) trivial ?_ (λj hj _=>?_) (λ_=>?_)
 .refine ah.at_ ?_ rfl
  conv=>whnf
  refine And.intro ?_ ?_<;>conv=>whnf
  all_goals repeat' (first|(refine gV ?_;first|refine vE ?_|refine vI ?_|((refine gK ?_;refine vD ?_ ?_);(focus (simp[AV.norm,AV.ao,cr];done))))|refine gX (xB ?_)|exact True.intro)<;>conv=>whnf
 .obtain ⟨k,hk⟩:∃k,done[j]? =some k:=⟨_,zA hj⟩;have hal2:=(hal (done.take j)).1;have htl:=List.length_take_le' j done
  by_cases hv:0<=k/\k<r.aR.length
  .obtain ⟨h,hgk⟩:∃h,r.aR[k.toNat]? =some h:=⟨_,zA (by omega)⟩
   have hgo:=(hr.2 h (zE hgk)).1;have hks:=Ik hk hv.1 hgk
   conv=>whnf
   repeat' (first|refine gC (gD (cI ?_))|refine gW (wI ?_)|refine gL (.map ?_)|refine gN (nS ?_)|(refine gI ?_;(refine gM ?_;first|refine iE ?_|refine iF ?_)))<;>conv=>whnf
   refine⟨trivial,?_⟩;refine ah.atC 2 ?_ rfl rfl rfl rfl (by first|rfl|(repeat' (first|rfl|refine ay (row_allI _ _ _) ?_|refine ay (aI _ _ _) ?_|refine bLtMp ?_|refine aY ?_|refine bLtCells rfl ?_)))
   conv=>whnf
   refine And.intro ?_ ?_<;>conv=>whnf
   all_goals repeat' (first|(refine gV ?_;first|refine vE ?_|refine vI ?_|(refine WkN.sl ?_ ?_;(focus (simp[AV.norm,AV.ao,hks];done))))|refine gX (xB ?_)|exact True.intro)<;>conv=>whnf
  .have hks:=KT (hs:=r.aR) hk (by omega)
   conv=>whnf
   repeat' (first|(refine gC ?_;first|refine cN ?_|(refine gD ?_;first|refine cI ?_|refine cJ ?_)|refine ak.le (λhc=>?_) (λhc=>?_))|refine gW (wI ?_)|refine gL (.map ?_)|refine gI (gM (iE ?_)))<;>conv=>whnf
   .refine ⟨trivial,?_⟩;refine ah.atC 2 ?_ rfl rfl rfl rfl (by first|rfl|(repeat' (first|rfl|refine ay (row_allI _ _ _) ?_|refine ay (aI _ _ _) ?_|refine bLtMp ?_|refine aY ?_|refine bLtCells rfl ?_)))
    conv=>whnf
    refine And.intro ?_ ?_<;>conv=>whnf
    all_goals repeat' (first|(refine gV ?_;first|refine vE ?_|refine vI ?_|(refine WkN.sl ?_ ?_;(focus (simp[AV.norm,AV.ao,hks];done))))|refine gX (xB ?_)|exact True.intro)<;>conv=>whnf
   .refine ⟨trivial,?_⟩;refine ah.atC 2 ?_ rfl rfl rfl rfl (by first|rfl|(repeat' (first|rfl|refine ay (row_allI _ _ _) ?_|refine ay (aI _ _ _) ?_|refine bLtMp ?_|refine aY ?_|refine bLtCells rfl ?_)))
    conv=>whnf
    refine And.intro ?_ ?_<;>conv=>whnf
    all_goals repeat' (first|(refine gV ?_;first|refine vE ?_|refine vI ?_|(refine WkN.sl ?_ ?_;(focus (simp[AV.norm,AV.ao,hks];done))))|refine gX (xB ?_)|exact True.intro)<;>conv=>whnf
 .rw [zz];have hal3:=(hal done).2
  conv=>whnf
  repeat' (first|(refine gF ?_;first|refine aa.fn (BO (l:=cr r.aR done) (by omega)) ?_|refine aa.fn (xr (x:=g) hg) ?_)|refine gC (gD (cJ ?_))|refine gL (.map ?_))<;>conv=>whnf
  obtain⟨kn,hkn⟩:∃kn,kn=a8 (Tm.vss (cr r.aR done)):=⟨_,rfl⟩
  have hgl:(a8 (Tm.vss g.args)).length<=100000:=by
   have:=ew (Tm.vss g.args) [];simp only[ZQ] at this;unfold a8;omega
  have hkl:kn.length<=100000:=by
   have:=ew (Tm.vss (cr r.aR done)) [];simp only[ZQ] at this;rw[hkn];unfold a8;omega
  have hpt:bf (kvs r.aR done) g=(a8 (Tm.vss g.args)).all λv=>decide (v∈kn):=by
   rw[hkn,bf];refine congrArg (λf=>List.all (a8 (Tm.vss g.args)) f) (funext λv=>?_);rw[Bool.eq_iff_iff,decide_eq_true_eq,decide_eq_true_eq];exact(A1 r.aR done v).symm
  rw[<-hkn,hpt];generalize a8 (Tm.vss g.args)=t at*;refine ax.count (fb:=true) (t.length) (λst_ j=>st_.dO [(12,.int .i64 j)]) (λj=>∀i x,i<j->t[i]? =some x->decide (x∈kn)=true) ?_ ?_ (λj hj hij=>?_) (λhij=>?_)
  .intro i _ hi;omega
  .exact aH
  .obtain ⟨y,hy⟩:∃y,t[j]? =some y:=⟨_,zA hj⟩
   conv=>whnf
   repeat' (first|refine gC (gD (cI ?_))|refine gL (.map ?_))<;>conv=>whnf
   refine ax.count (fb:=true) kn.length (λst_ k=>st_.dO [(13,.bool (decide (y∈kn.take k))),(14,.int .i64 k)]) (λ_=>True) trivial ?_ (λk hk _=>?_) (λ_=>?_)
   .refine ah.at_ ?_ rfl
    conv=>whnf
    refine And.intro ?_ ?_<;>conv=>whnf
    all_goals repeat' (first|(refine gV ?_;first|refine vE ?_|refine vI ?_|(refine WkN.norm ?_ ?_;(focus (simp[AV.norm,AV.ao,];done))))|refine gX (xB ?_)|exact True.intro)<;>conv=>whnf
   .obtain ⟨z,hz⟩:∃z,kn[k]? =some z:=⟨_,zA hk⟩
    have htk:kn.take (k+1)=kn.take k++[z]:=by
     rw[List.take_succ_eq_append_getElem hk,(zB.1 hz).2]
    have e1:y∈kn.take k->true=decide (y∈kn.take (k+1)):=λh=>by rw[htk];simp[h]
    have e2:¬y∈kn.take k->decide (z=y)=decide (y∈kn.take (k+1)):=λh=>by rw[htk];simp[h,eq_comm]
    conv=>whnf
    repeat' (first|(refine gC ?_;first|(refine gD ?_;first|refine cI ?_|refine cJ ?_)|refine ak.dec (λhc=>?_) (λhc=>?_))|refine gW (wI ?_)|refine gL (.map ?_)|refine gI (gM (iE ?_)))<;>conv=>whnf
    .have e3:=e1 hc;refine⟨trivial,?_⟩;refine ah.at_ ?_ rfl
     conv=>whnf
     refine And.intro ?_ ?_<;>conv=>whnf
     all_goals repeat' (first|(refine gV ?_;first|refine vE ?_|refine vI ?_|refine AM.vB ?_)|refine gX (xB ?_)|exact True.intro)<;>conv=>whnf
    .have e3:=e2 hc;refine⟨trivial,?_⟩;refine ah.at_ ?_ rfl
     conv=>whnf
     refine And.intro ?_ ?_<;>conv=>whnf
     all_goals repeat' (first|(refine gV ?_;first|refine vE ?_|refine vI ?_|refine AM.vB ?_)|refine gX (xB ?_)|exact True.intro)<;>conv=>whnf
   .rw [zz]
    conv=>whnf
    repeat' (first|(refine gC ?_;first|refine .not ?_|refine gD (cJ ?_)|refine ak.dec (λhc=>?_) (λhc=>?_))|refine gW (wI ?_)|refine gL (.map ?_)|refine ae.nrm ?_)<;>conv=>whnf
    .refine ⟨EE hij hy (decide_eq_true hc),?_⟩;exact aH
    .rw [M5 hy (decide_eq_false hc)]
  .conv=>whnf
   repeat' (first|refine gC (gD (cJ ?_))|refine gL (.map ?_)|refine ae.nrm ?_)<;>conv=>whnf
   rw[Jz hij]
end Go.CK
