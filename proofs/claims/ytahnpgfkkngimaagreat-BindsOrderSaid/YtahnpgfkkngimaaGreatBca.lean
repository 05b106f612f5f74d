/-
  Texts of this aQ joined (wip/gen/bundle.py),those declarations only that are needed:UnU UnW UlI UlJ UnX RcUnr UrA UrB UrC UrD UrE UrF UrG UrH UrI UrJ UrK RcAri. By an AI agent.
-/
import Derived.Test.YtahnpgfkkngimaaGreatBbc
import Derived.KernelRfl
import Derived.Test.YtahnpgfkkngimaaGreatProg
set_option linter.unusedSimpArgs false
set_option linter.unusedVariables false
namespace Go.CK
open Go.AM Go.Proofs
def oz:List Bnd->List Bnd->Bool
 |[],[]=>true
 |x::l,y::m=>decide (x.v=y.v)&&(decide (x.t.cmp y.t=0)&&oz l m)
 |_,_=>false
theorem wX:∀{l m:List Bnd},¬l.length=m.length->oz l m=false
 |[],[],h=>absurd rfl h
 |[],_::_,_=>rfl
 |_::_,[],_=>rfl
 |x::l,y::m,h=>by
  have:=wX (l:=l) (m:=m) (by simpa using h)
  simp only [oz,this,Bool.and_false]
theorem oP:∀l:List Bnd,oz l l=true
 |[]=>rfl
 |x::l=>by simp only [oz,Tm.HD,oP l,decide_true,Bool.and_self]
set_option maxRecDepth 100000 in
theorem zM (l m:List Bnd):Fun Tryz.prog 16 [.sl .no (l.map Bnd.av),.sl .no (m.map Bnd.av)] (.bool (oz l m)):=by
 refine Fun.of (Sem.assume fun hg0 _=>?_) rfl rfl;have hg:=(bH (hg0 (.sl .no (l.map Bnd.av)) (by simp) rfl)).1
 by_cases hlm:l.length=m.length
 rotate_left
 ·rw [wX hlm];refine dN (by simp) ?_
  conv=>whnf
  repeat' ((first|(refine gC ?_;first|refine .not ?_|(refine gD ?_;refine cJ ?_))|(refine gL ?_;refine .map ?_)|refine af.nrm ?_)<;>conv=>whnf)
 refine dN (by simp) ?_
 conv=>whnf
 repeat' ((first|(refine gC ?_;first|refine .not ?_|(refine gD ?_;refine cI ?_))|(refine gL ?_;refine .map ?_))<;>conv=>whnf)
 refine aw.by (fb:=true) (fun _ (j:Nat)=>⟨[(0,.sl .no (l.map Bnd.av)),(1,.sl .no (m.map Bnd.av)),(5,.int .i64 (j:Int))],[],0⟩) (fun j=>j≤l.length∧oz (l.drop j) (m.drop j)=oz l m) (fun j=>l.length-j) 0 ⟨Nat.zero_le _,rfl⟩ ?_ ?_
 ·exact au
 ·rintro j ⟨q1,q2⟩
  by_cases hj:j<l.length
  ·obtain ⟨x,hx⟩:∃x,l[j]? =some x:=⟨_,List.getElem?_eq_getElem hj⟩;obtain ⟨y,hy⟩:∃x,m[j]? =some x:=⟨_,List.getElem?_eq_getElem (by omega)⟩
   rw [List.drop_eq_getElem_cons hj,(List.getElem?_eq_some_iff.1 hx).2,List.drop_eq_getElem_cons (l:=m) (i:=j) (by omega),(List.getElem?_eq_some_iff.1 hy).2,oz] at q2
   have hs:=zN x.t y.t
   by_cases hv:x.v=y.v
   ·by_cases hc:x.t.cmp y.t=0
    ·rw [decide_eq_true hv,decide_eq_true hc,Bool.true_and,Bool.true_and] at q2;rw [decide_eq_true hc] at hs
     conv=>whnf
     repeat' ((first|(refine gG ?_;refine aM.fn (hs) ?_)|(refine gC ?_;first|refine cY ?_|refine .not ?_|(refine gD ?_;refine cI ?_))|(refine gW ?_;refine wI ?_)|(refine gL ?_;refine .map ?_)|(refine gI ?_;(refine gM ?_;refine iE ?_)))<;>conv=>whnf)
     refine ⟨j+1,⟨⟨hj,q2⟩,by omega⟩,?_⟩
     exact au
    ·rw [decide_eq_false hc,Bool.false_and,Bool.and_false] at q2;rw [decide_eq_false hc] at hs;rw [←q2]
     conv=>whnf
     repeat' ((first|(refine gG ?_;refine aM.fn (hs) ?_)|(refine gC ?_;first|refine cN ?_|refine .not ?_|(refine gD ?_;refine cI ?_))|(refine gL ?_;refine .map ?_)|(refine gI ?_;(refine gM ?_;refine iE ?_))|refine af.nrm ?_)<;>conv=>whnf)
   ·rw [decide_eq_false hv,Bool.false_and] at q2;rw [←q2]
    conv=>whnf
    repeat' ((first|(refine gC ?_;first|refine cY ?_|refine .not ?_|(refine gD ?_;first|refine cI ?_|refine cJ ?_))|(refine gL ?_;refine .map ?_)|(refine gI ?_;(refine gM ?_;refine iE ?_))|refine af.nrm ?_)<;>conv=>whnf)
  ·obtain rfl:j=l.length:=by omega
   rw [List.drop_length,List.drop_of_length_le (by omega),oz] at q2
   rw [←q2]
   conv=>whnf
   repeat' ((first|(refine gC ?_;first|refine cN ?_|(refine gD ?_;refine cJ ?_))|(refine gL ?_;refine .map ?_)|refine af.nrm ?_)<;>conv=>whnf)
theorem FA (l:List Int) (n:Int):(rU l n).length≤l.length+1:=by unfold rU;split<;>simp
theorem vA:∀(m l:List Int),(bE l m).length≤l.length+m.length
 |[],l=>by simp [bE]
 |n::m,l=>by
  have h1:=vA m (rU l n);have h2:=FA l n;show (bE (rU l n) m).length≤_;rw [List.length_cons];omega
theorem uN (l:List Int):(dL l).length≤l.length:=by
 have:=vA l [];unfold dL;simpa using this
def mg (b:List Bnd) (t:Tm):Bool:=(dL t.vs).all fun v=>(aX b v).isNone
def tK:Option Int->Int->Bool
 |none,_=>true
 |some p,v=>decide (p<v)
def mF:Option Int->List Bnd->Bool
 |_,[]=>true
 |p,x::l=>decide (0≤x.v∧x.v≤1048576)&&(tK p x.v&&(x.t.right&&mF (some x.v) l))
def cL (b:List Bnd):Bool:=mF none b&&b.all fun x=>mg b x.t
def jD (b:List Bnd) (j:Nat):Option Int:=match j with
 |0=>none
 |j+1=>(b[j]?).map (·.v)
end Go.CK
namespace Go.CK
open Go.AM Go.Proofs
def EW (x:Int):List Int->List Int
 |[]=>[x]
 |y::l=>if x≤y then x::y::l else y::EW x l
def AN:List Int->List Int
 |[]=>[]
 |x::l=>EW x (AN l)
theorem rE (x:Int):∀l:List Int,(EW x l).Perm (x::l)
 |[]=>.refl _
 |y::l=>by
  unfold EW;split
  ·exact .refl _
  ·exact ((rE x l).cons y).trans (.swap x y l)
theorem DQ (x:Int):∀l:List Int,l.Pairwise (·≤·)->(EW x l).Pairwise (·≤·)
 |[],_=>List.pairwise_singleton ..
 |y::l,h=>by
  rw [List.pairwise_cons] at h;unfold EW;split
  ·rename_i hxy;rw [List.pairwise_cons];refine ⟨fun z hz=>?_,List.pairwise_cons.2 h⟩;rcases List.mem_cons.1 hz with rfl|hz
   ·exact hxy
   ·have:=h.1 z hz;omega
  ·rename_i hxy;rw [List.pairwise_cons];refine ⟨fun z hz=>?_,DQ x l h.2⟩;rcases List.mem_cons.1 ((rE x l).mem_iff.1 hz) with rfl|hz
   ·omega
   ·exact h.1 z hz
theorem uC:∀l:List Int,(AN l).Perm l
 |[]=>.refl _
 |x::l=>(rE x _).trans ((uC l).cons x)
theorem AL:∀l:List Int,(AN l).Pairwise (·≤·)
 |[]=>.nil
 |x::l=>DQ x _ (AL l)
theorem zD (l:List Int):fm l=AN l:=
 List.Perm.eq_of_pairwise (fun a b _ _ h1 h2=>by omega) (zC l) (AL l) ((lq l).trans (uC l).symm)
def yt (N f:Nat) (g:Gr):Option (List Bnd×Int):=match jh N f (List.range g.nodes.length) g with
 |none=>none
 |some (_,false)=>some ([],13)
 |some (g2,true)=>match fH N f (AN (g2.vars.map (·.1))) g2 [] with
  |none=>none
  |some (_,none)=>some ([],6)
  |some (_,some out)=>some (out,0)
def allI (N f:Nat) (a b:List Tm):Option (List Bnd×Int):=
 if (a.all Tm.right&&b.all Tm.right)=true then
  if a.length=b.length then match vY N f gr0 (a.zip b) with
   |none=>none
   |some (_,false)=>some ([],13)
   |some (g,true)=>yt N f g
  else some ([],9)
 else some ([],2)
theorem rT (N f:Nat) (a b:List Tm):wH N f a b=allI N f a b:=by
 have:fQ N f=yt N f:=by
  funext g;unfold fQ yt
  simp only [zD];rfl
 unfold wH allI;rw [this];rfl
end Go.CK
namespace Go.CK
open Go.AM
mutual
theorem xA:∀(t:Tm) (n d:Int),0≤lft t n d->lft t n d=n-t.nodes
 |.mk k m s l,n,d,h=>by
  rw [lft] at h⊢;split at h
  ·omega
  ·rename_i hc;rw [if_neg hc,uu l _ _ h];simp only [Tm.nodes];omega
theorem uu:∀(l:List Tm) (n d:Int),0≤ni l n d->ni l n d=n-Tm.ai l
 |[],n,d,h=>by simp [ni,Tm.ai]
 |t::r,n,d,h=>by
  rw [ni] at h⊢;split at h
  ·omega
  ·rename_i hc;rw [if_neg hc,uu r _ _ h,xA t n d (by omega)]
   simp only [Tm.ai];omega
end
theorem mN {t:Tm} (h:t.small=true):t.nodes≤1000:=by
 unfold Tm.small at h;have h:=of_decide_eq_true h;have:=xA t 1000 100 h;omega
theorem lookB_mem:∀{b:List Bnd} {v:Int} {t:Tm},aX b v=some t->(⟨v,t⟩:Bnd)∈b
 |x::b,v,t,h=>by
  rw [aX] at h;split at h
  ·rename_i hv;cases h;subst hv;exact List.mem_cons_self ..
  ·exact List.mem_cons_of_mem _ (lookB_mem h)
theorem El {v:Int} (h:0≤v∧v≤1048576):(az v).form=true:=by
 rw [pj (t:=az v) rfl,decide_eq_true_eq];exact ⟨h.1,h.2,rfl,rfl⟩
mutual
theorem app_id:∀(A:Int->Tm) (t:Tm),t.cv->app A t=t->∀v∈t.vs,A v=az v
 |A,.mk k n s l,hc,h,v,hv=>by
  rw [Tm.vs] at hv;split at hv
  ·rename_i h1;rw [List.mem_singleton] at hv;subst hv;have:=jY hc h1;rw [this,qt] at h;exact h
  ·rename_i h1;split at hv
   ·rename_i h2;rw [app,if_neg h1,if_pos h2] at h;simp only [Tm.mk.injEq,true_and] at h;exact apps_id A l hc.2 h v hv
   ·cases hv
theorem apps_id:∀(A:Int->Tm) (l:List Tm),Tm.cvs l->apps A l=l->∀v∈Tm.vss l,A v=az v
 |A,[],_,_,v,hv=>by simp [Tm.vss] at hv
 |A,t::r,hc,h,v,hv=>by
  simp only [Tm.cvs] at hc;simp only [apps,List.cons.injEq] at h;simp only [Tm.vss] at hv;rcases List.mem_append.1 hv with hv|hv
  ·exact app_id A t hc.1 h.1 v hv
  ·exact apps_id A r hc.2 h.2 v hv
end
theorem addV_mem {l:List Int} {n x:Int}:x∈rU l n↔x∈l∨x=n:=by
 unfold rU;split
 ·exact ⟨.inl,fun h=>h.elim id fun e=>by subst e;assumption⟩
 ·simp
theorem addVs_mem:∀{m l:List Int} {x:Int},x∈bE l m↔x∈l∨x∈m
 |[],l,x=>by simp [bE]
 |n::m,l,x=>by
  show x∈bE (rU l n) m↔_;rw [addVs_mem,addV_mem,List.mem_cons,or_assoc]
theorem firsts_mem {l:List Int} {v:Int}:v∈dL l↔v∈l:=by
 unfold dL;rw [addVs_mem];simp
theorem ascR_of:∀{b:List Bnd} {p:Option Int},(∀x∈b,tK p x.v=true)->(b.map (·.v)).Pairwise (·<·)->(∀x∈b,0≤x.v∧x.v≤1048576∧x.t.right=true)->mF p b=true
 |[],p,_,_,_=>rfl
 |x::l,p,hp,ha,hx=>by
  rw [List.map_cons,List.pairwise_cons] at ha;obtain ⟨h1,h2,h3⟩:=hx x (List.mem_cons_self ..);rw [mF,decide_eq_true ⟨h1,h2⟩,hp x (List.mem_cons_self ..),h3,ascR_of (p:=some x.v) (fun y hy=>?_) ha.2 fun y hy=>hx y (List.mem_cons_of_mem _ hy)]
  ·rfl
  ·exact decide_eq_true (ha.1 y.v (List.mem_map_of_mem hy))
theorem Gs {t:Tm} (h:t.form=true) (hf:fits t):t.right=true:=by
 unfold Tm.right vB;rw [h,Bool.true_and,decide_eq_true_eq];have:=hf.1;have:=hf.2;omega
theorem right_out {S:(Int->Tm)->Prop} {M:Int->Tm} {out:List Bnd} (hm:Mgu S M) (hb:vQ M out) (hf:∀b∈out,fits b.t) (hr:Rng out):cL out=true:=by
 unfold cL;rw [ascR_of (fun _ _=>rfl) hb.asc fun x hx=>⟨(hr x hx).1,(hr x hx).2.1,Gs (hr x hx).2.2 (hf x hx)⟩,Bool.true_and,List.all_eq_true];rintro ⟨v,t⟩ hx;unfold mg;rw [List.all_eq_true];intro w hw;rw [firsts_mem] at hw;have ht:=((hb.mem v t).1 hx).1
 have hid:app M t=t:=by
  have:=hm.gen M hm.sol v;rw [←ht] at this;exact this.symm
 have hMw:=app_id M t (by rw [ht];exact hm.cv v) hid w hw
 cases hl:aX out w with
 |none=>rfl
 |some u=>
  have:=((hb.mem w u).1 (lookB_mem hl)).2;exact absurd hMw this
mutual
theorem zw:∀t:Tm,t.vs.length≤t.nodes
 |.mk k n s l=>by
  have:=wN l;rw [Tm.vs,Tm.nodes];split
  ·simp
  ·split
   ·omega
   ·simp
theorem wN:∀l:List Tm,(Tm.vss l).length≤Tm.ai l
 |[]=>by simp [Tm.vss]
 |t::r=>by
  have:=zw t;have:=wN r;simp only [Tm.vss,Tm.ai,List.length_append];omega
end
end Go.CK
namespace Go.CK
open Go.AM
mutual
theorem uJ:∀t:Tm,t.form=true->t.nodes≤t.sz
 |.mk k n s l,h=>by
  have hl:=si l (gQ h);rw [Tm.nodes,Tm.sz];split
  ·omega
  ·rename_i h2
   have:l=[]:=by
    by_cases h0:k=0
    ·rw [uL (t:=.mk k n s l) h0,decide_eq_true_eq] at h;exact List.eq_nil_of_length_eq_zero h.2.2.2
    ·by_cases h1:k=1
     ·rw [pj (t:=.mk k n s l) h1,decide_eq_true_eq] at h;exact List.eq_nil_of_length_eq_zero h.2.2.2
     ·rw [uK (t:=.mk k n s l) h0 h1 h2] at h;cases h
   subst this;simp only [Tm.ai];omega
theorem si:∀l:List Tm,Tm.bN l=true->Tm.ai l≤Tm.szs l
 |[],_=>Nat.le_refl _
 |t::r,h=>by
  simp only [Tm.bN,Bool.and_eq_true] at h;have:=uJ t h.1;have:=si r h.2;simp only [Tm.ai,Tm.szs];omega
end
theorem BD:∀{b:List Bnd} {p:Option Int},mF p b=true->∀x∈b,x.t.right=true
 |y::b,p,h,x,hx=>by
  rw [mF] at h;simp only [Bool.and_eq_true] at h;rcases List.mem_cons.1 hx with rfl|hx
  ·exact h.2.2.1
  ·exact BD h.2.2.2 x hx
end Go.CK
namespace Go.CK
open Go.AM Go.Proofs
def Bd.bnd (x:Bd):Bnd:=⟨x.var,x.term⟩
end Go.CK
namespace Go.CK
open Go.AM Go.Proofs
variable {vals:List AV} {bs:List Box} {Q:AV->List Box->Prop}
end Go.CK
namespace Go.CK
open Go.AM Go.Proofs
variable {vals:List AV} {bs:List Box} {Q:AV->List Box->Prop}
def wj:RC:=
 (.seq
 (rR [1] [
 oQ 1 (.box (.t 0)),oQ 2 (.mov (.c (.int .i64 0))),oQ 3 (.mov (.c (.int .i64 0)))])
 (.seq
 (.block 0
 (.seq
 (rR [1,8] [
 qF 9 0 1,qL 10 9,oQ 11 (.bin .eql (.t 10) (.c (.int .i64 1))),qM 8 11])
 (.cond (.t 8)
 (.seq
 (rR [2,3] [
 oQ 2 (.mov (.c (.int .i64 0))),oQ 3 (.mov (.c (.int .i64 17)))])
 .ret)
 (.seq
 (rR [1,12] [
 qF 13 0 1,qL 14 13,oQ 15 (.bin .eql (.t 14) (.c (.int .i64 0))),qM 16 15,oG 17 16 true (.aT 1 (.t 1)),oG 18 16 true (.load false 1 (.t 17)),oG 19 16 true (.aG 1 [(.t 18)]),oG 20 16 true (cF 89 [(.t 19)]),oQ 21 (.pick (.t 16) (.t 20) (.c (.bool false))),qM 12 21])
 (.cond (.t 12)
 (.seq
 (rR [2,3] [
 qF 22 1 1,qL 23 22,qM 2 23,oQ 3 (.mov (.c (.int .i64 0)))])
 .ret)
 (.seq
 (rR [1,24] [
 qF 25 0 1,qL 26 25,oQ 27 (.bin .eql (.t 26) (.c (.int .i64 0))),qM 24 27])
 (.cond (.t 24)
 (.seq
 (rR [2,3] [
 oQ 2 (.mov (.c (.int .i64 0))),oQ 3 (.mov (.c (.int .i64 5)))])
 .ret)
 (.seq
 (rR [1,28] [
 qA 29 4 1,oQ 30 (cF 90 [(.t 29)]),oQ 31 (.un .not (.t 30)),qM 28 31])
 (.cond (.t 28)
 (.seq
 (rR [2,3] [
 oQ 2 (.mov (.c (.int .i64 0))),oQ 3 (.mov (.c (.int .i64 11)))])
 .ret)
 .skip)))))))))
 (.seq
 (rR [1,4] [
 oQ 4 (.box (.c (.agg [(.int .i64 0),(.int .i64 0)])))])
 (.seq
 (.seq
 (rR [1,4,32] [
 oQ 32 (.mov (.c (.int .i64 0)))])
 (.block 1
 (.loop
 (.seq
 (rR [1,4,32,33] [
 oQ 33 (.bin .lss (.t 32) (.c (.int .i64 2)))])
 (.seq
 (.cond (.t 33)
 .skip
 (.exit 1))
 (.seq
 (.block 2
 (.seq
 (rR [1,4,5,32] [
 qM 34 32,qM 5 34])
 (.seq
 (rR [1,4,5,6,7,32] [
 qF 36 3 1,qL 37 36,qM 38 5,qI 39 4 37 38,qA 40 4 39,oQ 41 (cF 49 [(.t 40)]),qM 35 41,oQ 42 (.ext 0 (.t 35)),oQ 43 (.ext 1 (.t 35)),qM 6 42,qM 7 43])
 (.seq
 (.seq
 (rR [1,4,5,6,7,32,45] [
 qM 44 7,oQ 45 (.bin .neq (.t 44) (.c (.int .i64 0)))])
 (.cond (.t 45)
 (.seq
 (rR [2,3] [
 qM 46 7,oQ 2 (.mov (.c (.int .i64 0))),qM 3 46])
 .ret)
 .skip))
 (rR [1,4,32] [
 qM 47 5,qM 48 6,oQ 49 (.ql 2 1 (.t 4) (.t 47)),oN (.store 1 (.t 49) (.t 48))])))))
 (rR [1,4,32] [
 oQ 50 (.bin .add (.t 32) (.c (.int .i64 1))),qM 32 50])))))))
 (.seq
 (rR [2,3] [
 qF 51 2 1,qL 52 51,oQ 53 (.ql 2 1 (.t 4) (.c (.int .i64 0))),qL 54 53,oQ 55 (.ql 2 1 (.t 4) (.c (.int .i64 1))),qL 56 55,oQ 57 (cF 91 [(.t 52),(.t 54),(.t 56)]),oQ 58 (.ext 0 (.t 57)),oQ 59 (.ext 1 (.t 57)),qM 2 58,qM 3 59])
 .ret)))))
theorem dy (hn:vals.length≤60) (h:SP Tryz.prog true vals bs wj [.slot 2,.slot 3] Q):AM.Sem Tryz.prog 49 vals bs Q:=
 oZ (keeps:=[(0,[1]),(1,[1,8]),(3,[1,12]),(5,[1,24]),(7,[1,28]),(8,[2,3]),(6,[2,3]),(4,[2,3]),(2,[2,3]),(9,[1,4]),(10,[1,4,32]),(11,[1,4,32,33]),(12,[1,4,5,32]),(13,[1,4,5,6,7,32]),(14,[1,4,5,6,7,32,45]),(15,[2,3]),(16,[1,4,32]),(17,[1,4,32]),(18,[2,3])]) (solo:=[]) Tryz.func49 rfl hn h
def pQ:RC:=
 (.seq
 (rR [1] [
 oQ 1 (.box (.t 0)),oQ 2 (.mov (.c (.bool false)))])
 (.seq
 (rR [2] [
 qF 3 0 1,qL 4 3,oQ 5 (.bin .eql (.t 4) (.c (.int .i64 2))),qM 6 5,oG 7 6 true (.aT 3 (.t 1)),oG 8 6 true (.load false 1 (.t 7)),oG 9 6 true (.len false (.t 8)),oG 10 6 true (.bin .eql (.t 9) (.c (.int .i64 2))),oQ 11 (.pick (.t 6) (.t 10) (.c (.bool false))),qM 12 11,oG 13 12 true (.aT 2 (.t 1)),oG 14 12 true (.load false 1 (.t 13)),oG 15 12 true (cF 128 [(.t 14)]),oG 16 12 true (.more (.eqF true) [(.t 15),(.c .nfn)]),oQ 17 (.pick (.t 12) (.t 16) (.c (.bool false))),qM 2 17])
 .ret))
theorem a6 (hn:vals.length≤18) (h:SP Tryz.prog true vals bs pQ [.slot 2] Q):AM.Sem Tryz.prog 90 vals bs Q:=
 oZ (keeps:=[(0,[1]),(1,[2])]) (solo:=[]) Tryz.func90 rfl hn h
def z6:RC:=
 (.seq
 (rR [0] [
 oQ 2 (.mov (.c .nfn))])
 (.seq
 (.seq
 (rR [3] [
 qM 3 0])
 (.block 0
 (.seq
 (rR [3,4] [
 oQ 5 (.bin .eql (.t 3) (.c (.str ⟨⟨[43]⟩⟩))),qM 4 5])
 (.cond (.t 4)
 (.seq
 (rR [2] [
 oQ 2 (.mov (.c (.fn (.func 159) [] [])))])
 .ret)
 (.seq
 (rR [3,6] [
 oQ 7 (.bin .eql (.t 3) (.c (.str ⟨⟨[45]⟩⟩))),qM 6 7])
 (.cond (.t 6)
 (.seq
 (rR [2] [
 oQ 2 (.mov (.c (.fn (.func 160) [] [])))])
 .ret)
 (.seq
 (rR [3,8] [
 oQ 9 (.bin .eql (.t 3) (.c (.str ⟨⟨[42]⟩⟩))),qM 8 9])
 (.cond (.t 8)
 (.seq
 (rR [2] [
 oQ 2 (.mov (.c (.fn (.func 161) [] [])))])
 .ret)
 (.seq
 (rR [3,10] [
 oQ 11 (.bin .eql (.t 3) (.c (.str ⟨⟨[47]⟩⟩))),qM 10 11])
 (.cond (.t 10)
 (.seq
 (rR [2] [
 oQ 12 (cF 162 [(.c (.fn (.func 163) [] []))]),qM 2 12])
 .ret)
 (.seq
 (rR [13] [
 oQ 14 (.bin .eql (.t 3) (.c (.str ⟨⟨[37]⟩⟩))),qM 13 14])
 (.cond (.t 13)
 (.seq
 (rR [2] [
 oQ 15 (cF 162 [(.c (.fn (.func 164) [] []))]),qM 2 15])
 .ret)
 .skip))))))))))))
 (.seq
 (rR [2] [
 oQ 2 (.mov (.c .nfn))])
 .ret)))
theorem cu (hn:vals.length≤16) (h:SP Tryz.prog true vals bs z6 [.slot 2] Q):AM.Sem Tryz.prog 128 vals bs Q:=
 oZ (keeps:=[(0,[0]),(1,[3]),(2,[3,4]),(4,[3,6]),(6,[3,8]),(8,[3,10]),(10,[13]),(11,[2]),(9,[2]),(7,[2]),(5,[2]),(3,[2]),(12,[2])]) (solo:=[]) Tryz.func128 rfl hn h
def qP:RC:=
 (.seq
 (rR [0] [
 oQ 2 (.mov (.c (.bool false)))])
 (.seq
 (.seq
 (rR [5,6,7] [
 qM 5 0,oQ 6 (.len false (.t 5)),oQ 7 (.mov (.c (.int .i64 0)))])
 (.block 0
 (.loop
 (.seq
 (rR [5,6,7,8] [
 oQ 8 (.bin .lss (.t 7) (.t 6))])
 (.seq
 (.cond (.t 8)
 .skip
 (.exit 0))
 (.seq
 (.block 1
 (.seq
 (rR [4,5,6,7] [
 qI 9 1 5 7,qL 10 9,qM 4 10])
 (.seq
 (rR [5,6,7,16] [
 qM 11 4,oQ 12 (.bin .lss (.t 11) (.c (.int .i64 (-2147483648)))),qM 13 12,oG 14 13 false (.mov (.t 4)),oG 15 13 false (.bin .gtr (.t 14) (.c (.int .i64 2147483648))),oQ 16 (.pick (.t 13) (.c (.bool true)) (.t 15))])
 (.cond (.t 16)
 (.seq
 (rR [2] [
 oQ 2 (.mov (.c (.bool false)))])
 .ret)
 .skip))))
 (rR [5,6,7] [
 oQ 17 (.bin .add (.t 7) (.c (.int .i64 1))),qM 7 17])))))))
 (.seq
 (rR [2] [
 oQ 2 (.mov (.c (.bool true)))])
 .ret)))
theorem qX (hn:vals.length≤18) (h:SP Tryz.prog true vals bs qP [.slot 2] Q):AM.Sem Tryz.prog 89 vals bs Q:=
 oZ (keeps:=[(0,[0]),(1,[5,6,7]),(2,[5,6,7,8]),(3,[4,5,6,7]),(4,[5,6,7,16]),(5,[2]),(6,[5,6,7]),(7,[2])]) (solo:=[]) Tryz.func89 rfl hn h
def tI:RC:=
 (.seq
 (rR [0,1,2] [
 oQ 6 (.mov (.c (.int .i64 0))),oQ 7 (.mov (.c (.int .i64 0)))])
 (.seq
 (rR [1,2,8] [
 qM 11 0,oQ 12 (cF 128 [(.t 11)]),qM 8 12])
 (.seq
 (.seq
 (rR [1,2,8,14] [
 qM 13 8,oQ 14 (.more (.eqF false) [(.t 13),(.c .nfn)])])
 (.cond (.t 14)
 (.seq
 (rR [6,7] [
 oQ 6 (.mov (.c (.int .i64 0))),oQ 7 (.mov (.c (.int .i64 7)))])
 .ret)
 .skip))
 (.seq
 (.seq
 (rR [1,2,8,19] [
 qM 15 1,qM 16 2,oQ 17 (.aG 1 [(.t 15),(.t 16)]),oQ 18 (cF 89 [(.t 17)]),oQ 19 (.un .not (.t 18))])
 (.cond (.t 19)
 (.seq
 (rR [6,7] [
 oQ 6 (.mov (.c (.int .i64 0))),oQ 7 (.mov (.c (.int .i64 5)))])
 .ret)
 .skip))
 (.seq
 (rR [9,10] [
 qM 21 8,qM 22 1,qM 23 2,oQ 24 (.dD (.t 21) [(.t 22),(.t 23)]),qM 20 24,oQ 25 (.ext 0 (.t 20)),oQ 26 (.ext 1 (.t 20)),qM 9 25,qM 10 26])
 (.seq
 (.seq
 (rR [9,10,34] [
 qM 27 10,oQ 28 (.bin .eql (.t 27) (.c (.int .i64 0))),qM 29 28,oG 30 29 true (.mov (.t 9)),oG 31 29 true (.aG 1 [(.t 30)]),oG 32 29 true (cF 89 [(.t 31)]),oG 33 29 true (.un .not (.t 32)),oQ 34 (.pick (.t 29) (.t 33) (.c (.bool false)))])
 (.cond (.t 34)
 (rR [9,10] [
 oQ 10 (.mov (.c (.int .i64 5)))])
 .skip))
 (.seq
 (.seq
 (rR [9,10,36] [
 qM 35 10,oQ 36 (.bin .neq (.t 35) (.c (.int .i64 0)))])
 (.cond (.t 36)
 (.seq
 (rR [6,7] [
 qM 37 10,oQ 6 (.mov (.c (.int .i64 0))),qM 7 37])
 .ret)
 .skip))
 (.seq
 (rR [6,7] [
 qM 38 9,qM 6 38,oQ 7 (.mov (.c (.int .i64 0)))])
 .ret))))))))
theorem ay (hn:vals.length≤39) (h:SP Tryz.prog true vals bs tI [.slot 6,.slot 7] Q):AM.Sem Tryz.prog 91 vals bs Q:=
 oZ (keeps:=[(0,[0,1,2]),(1,[1,2,8]),(2,[1,2,8,14]),(3,[6,7]),(4,[1,2,8,19]),(5,[6,7]),(6,[9,10]),(7,[9,10,34]),(8,[9,10]),(9,[9,10,36]),(10,[6,7]),(11,[6,7])]) (solo:=[]) Tryz.func91 rfl hn h
def qQ:RC:=
 (.seq
 (rR [1] [
 oQ 1 (.box (.t 0)),oQ 2 (.mov (.c .nfn))])
 (.seq
 (rR [2] [
 oQ 3 (.ug (.func 175) [] [(.t 1)]),qM 2 3])
 .ret))
theorem dh (hn:vals.length≤4) (h:SP Tryz.prog true vals bs qQ [.slot 2] Q):AM.Sem Tryz.prog 162 vals bs Q:=
 oZ (keeps:=[(0,[1]),(1,[2])]) (solo:=[]) Tryz.func162 rfl hn h
def pO:RC:=
 (.seq
 (rR [0,1] [
 oQ 4 (.mov (.c (.int .i64 0)))])
 (.seq
 (rR [0,1,5] [
 qM 6 0,qM 7 1,oQ 8 (.bin .quo (.t 6) (.t 7)),qM 5 8])
 (.seq
 (.seq
 (rR [5,19] [
 qM 9 0,qM 10 1,oQ 11 (.bin .rem (.t 9) (.t 10)),oQ 12 (.bin .neq (.t 11) (.c (.int .i64 0))),qM 13 12,oG 14 13 true (.mov (.t 0)),oG 15 13 true (.bin .lss (.t 14) (.c (.int .i64 0))),oG 16 13 true (.mov (.t 1)),oG 17 13 true (.bin .lss (.t 16) (.c (.int .i64 0))),oG 18 13 true (.more (.eqB true) [(.t 15),(.t 17)]),oQ 19 (.pick (.t 13) (.t 18) (.c (.bool false)))])
 (.cond (.t 19)
 (rR [5] [
 qM 20 5,oQ 21 (.bin .sub (.t 20) (.c (.int .i64 1))),qM 5 21])
 .skip))
 (.seq
 (rR [4] [
 qM 22 5,qM 4 22])
 .ret))))
theorem pY (hn:vals.length≤23) (h:SP Tryz.prog true vals bs pO [.slot 4] Q):AM.Sem Tryz.prog 163 vals bs Q:=
 oZ (keeps:=[(0,[0,1]),(1,[0,1,5]),(2,[5,19]),(3,[5]),(4,[4])]) (solo:=[]) Tryz.func163 rfl hn h
def wi:RC:=
 (.seq
 (rR [0,1] [
 oQ 4 (.mov (.c (.int .i64 0))),oQ 5 (.mov (.c (.int .i64 0)))])
 (.seq
 (rR [4,5] [
 qM 6 0,qM 7 1,oQ 8 (.bin .add (.t 6) (.t 7)),qM 4 8,oQ 5 (.mov (.c (.int .i64 0)))])
 .ret))
theorem wy (hn:vals.length≤9) (h:SP Tryz.prog true vals bs wi [.slot 4,.slot 5] Q):AM.Sem Tryz.prog 159 vals bs Q:=
 oZ (keeps:=[(0,[0,1]),(1,[4,5])]) (solo:=[]) Tryz.func159 rfl hn h
def wh:RC:=
 (.seq
 (rR [0,1] [
 oQ 4 (.mov (.c (.int .i64 0))),oQ 5 (.mov (.c (.int .i64 0)))])
 (.seq
 (rR [4,5] [
 qM 6 0,qM 7 1,oQ 8 (.bin .sub (.t 6) (.t 7)),qM 4 8,oQ 5 (.mov (.c (.int .i64 0)))])
 .ret))
theorem wx (hn:vals.length≤9) (h:SP Tryz.prog true vals bs wh [.slot 4,.slot 5] Q):AM.Sem Tryz.prog 160 vals bs Q:=
 oZ (keeps:=[(0,[0,1]),(1,[4,5])]) (solo:=[]) Tryz.func160 rfl hn h
def wg:RC:=
 (.seq
 (rR [0,1] [
 oQ 4 (.mov (.c (.int .i64 0))),oQ 5 (.mov (.c (.int .i64 0)))])
 (.seq
 (rR [4,5] [
 qM 6 0,qM 7 1,oQ 8 (.bin .mul (.t 6) (.t 7)),qM 4 8,oQ 5 (.mov (.c (.int .i64 0)))])
 .ret))
theorem wv (hn:vals.length≤9) (h:SP Tryz.prog true vals bs wg [.slot 4,.slot 5] Q):AM.Sem Tryz.prog 161 vals bs Q:=
 oZ (keeps:=[(0,[0,1]),(1,[4,5])]) (solo:=[]) Tryz.func161 rfl hn h
def we:RC:=
 (.seq
 (rR [0,1] [
 oQ 4 (.mov (.c (.int .i64 0)))])
 (.seq
 (rR [4] [
 qM 5 0,qM 6 0,qM 7 1,oQ 8 (cF 163 [(.t 6),(.t 7)]),qM 9 1,oQ 10 (.bin .mul (.t 8) (.t 9)),oQ 11 (.bin .sub (.t 5) (.t 10)),qM 4 11])
 .ret))
theorem wu (hn:vals.length≤12) (h:SP Tryz.prog true vals bs we [.slot 4] Q):AM.Sem Tryz.prog 164 vals bs Q:=
 oZ (keeps:=[(0,[0,1]),(1,[4])]) (solo:=[]) Tryz.func164 rfl hn h
def oX:RC:=
 (.seq
 (rR [0,1,2] [
 oQ 5 (.mov (.c (.int .i64 0))),oQ 6 (.mov (.c (.int .i64 0)))])
 (.seq
 (.seq
 (rR [0,1,2,8] [
 qM 7 1,oQ 8 (.bin .eql (.t 7) (.c (.int .i64 0)))])
 (.cond (.t 8)
 (.seq
 (rR [5,6] [
 oQ 5 (.mov (.c (.int .i64 0))),oQ 6 (.mov (.c (.int .i64 12)))])
 .ret)
 .skip))
 (.seq
 (rR [5,6] [
 qL 9 2,qM 10 0,qM 11 1,oQ 12 (.dD (.t 9) [(.t 10),(.t 11)]),qM 5 12,oQ 6 (.mov (.c (.int .i64 0)))])
 .ret)))
theorem cy (hn:vals.length≤13) (h:SP Tryz.prog true vals bs oX [.slot 5,.slot 6] Q):AM.Sem Tryz.prog 175 vals bs Q:=
 oZ (keeps:=[(0,[0,1,2]),(1,[0,1,2,8]),(2,[5,6]),(3,[5,6])]) (solo:=[]) Tryz.func175 rfl hn h
end Go.CK
