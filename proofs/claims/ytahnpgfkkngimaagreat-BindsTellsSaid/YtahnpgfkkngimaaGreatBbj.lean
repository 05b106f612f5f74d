/-
  Texts of this aQ joined (wip/gen/bundle.py),those declarations only that are needed:SbA SbB BnA BnB BnC. By an AI agent.
-/
import Derived.Test.YtahnpgfkkngimaaGreatBbi
import Derived.Test.YtahnpgfkkngimaaGreatBbd
import Derived.Test.YtahnpgfkkngimaaGreatBaz
import Derived.Test.YtahnpgfkkngimaaGreatBav
import Derived.Test.YtahnpgfkkngimaaGreatBbh
import Derived.Test.YtahnpgfkkngimaaGreatBau
set_option linter.unusedSimpArgs false
set_option linter.unusedVariables false
namespace Go.CK
open Go.AM Go.Proofs
set_option maxRecDepth 100000 in
theorem Fk {l:List Tm} (hl:l.length≤4294967296):AM.Sem Tryz.prog 127 [.sl .no (l.map Tm.av)] [] fun r bs'=>∃k,l.length≤k∧r=.bsl 0 l.length k∧bs'=[aL tmA 4 k (l.map some)]:=by
 refine dU (by simp) ?_
 conv=>whnf
 skip;refine Jo.no fun b hb=>?_
 conv=>whnf
 repeat' ((refine gC ?_;refine aq.any (fun hc=>?_) (fun hc=>?_))<;>conv=>whnf)
 ·have hl0:l=[]:=by simpa using hb hc
  subst hl0;exact af.wO 2 rfl (af.slot ⟨0,Nat.le_refl _,rfl,rfl⟩)
 ·rw [←j0];refine lh.GN (l':=l.map some) bp (by rw [List.length_map];exact hl) fun k hk=>?_
  conv=>whnf
  skip;rw [List.length_map] at hk;exact af.slot ⟨k,hk,by simp [St.get,ak],rfl⟩
def He (b:List Bnd) (v:Int):Int:=match b.findIdx? fun x=>decide (x.v=v) with
 |none=>-1
 |some i=>i
theorem DR {b:List Bnd} {v:Int} (h:∀(i:Nat) (x:Bnd),b[i]?=some x->¬x.v=v):He b v=-1∧aX b v=none:=by
 have h1:b.findIdx? (fun x=>decide (x.v=v))=none:=by
  rw [List.findIdx?_eq_none_iff];intro x hx;obtain ⟨i,hi⟩:=List.getElem?_of_mem hx;exact decide_eq_false (h i x hi)
 refine ⟨by unfold He;rw [h1],?_⟩
 induction b with
 |nil=>rfl
 |cons y b ih=>
  rw [aX,if_neg (h 0 y rfl)];refine ih (fun i x hx=>h (i+1) x (by simpa using hx)) ?_
  rw [List.findIdx?_eq_none_iff] at h1⊢;exact fun x hx=>h1 x (List.mem_cons_of_mem _ hx)
theorem DS {b:List Bnd} {v:Int} {i:Nat} {x:Bnd} (hx:b[i]?=some x) (hv:x.v=v) (h:∀(j:Nat) (y:Bnd),j<i->b[j]?=some y->¬y.v=v):He b v=i∧aX b v=some x.t:=by
 have h1:b.findIdx? (fun x=>decide (x.v=v))=some i:=by
  rw [List.findIdx?_eq_some_iff_getElem];obtain ⟨hi,he⟩:=List.getElem?_eq_some_iff.1 hx;refine ⟨hi,by rw [he];exact decide_eq_true hv,fun j hj=>?_⟩
  have:=h j _ hj (List.getElem?_eq_getElem (by omega))
  simpa using this
 refine ⟨by unfold He;rw [h1],?_⟩
 clear h1
 induction b generalizing i with
 |nil=>simp at hx
 |cons y b ih=>
  cases i with
  |zero=>
   simp at hx;subst hx
   rw [aX,if_pos hv]
  |succ i=>
   rw [aX,if_neg (h 0 y (by omega) rfl)]
   exact ih (by simpa using hx) fun j z hj hz=>h (j+1) z (by omega) (by simpa using hz)
set_option maxRecDepth 100000 in
theorem AB (x:Bnd) (v:Int):AM.Sem Tryz.prog 126 [x.av,.ptr 0 0] [.cells [.int .i64 v]] fun r bs'=>r=.bool (decide (x.v=v))∧bs'=[.cells [.int .i64 v]]:=by
 refine pX (by simp) ?_
 conv=>whnf
 skip;refine af.lay [some 0] oko ?_
 conv=>whnf
 conv=>whnf
 repeat' (refine af.nrm ?_<;>conv=>whnf)
 exact ⟨rfl,rfl⟩
set_option maxRecDepth 100000 in
theorem EX {b:List Bnd} {v:Int} (hb:b.length≤4000000000):AM.Sem Tryz.prog 125 [.sl .no (b.map Bnd.av),.fn (.func 126) [] [.ptr 0 0]] [.cells [.int .i64 v]] fun r bs'=>r=.int .i64 (He b v)∧bs'=[.cells [.int .i64 v]]:=by
 refine cW (by simp) ?_
 conv=>whnf
 repeat' ((refine gL ?_;refine .map ?_)<;>conv=>whnf)
 refine aw.by (fb:=true) (fun _ (j:Nat)=>⟨[(0,.sl .no (b.map Bnd.av)),(1,.fn (.func 126) [] [.ptr 0 0]),(7,.int .i64 (b.length:Int)),(8,.int .i64 (j:Int))],[.cells [.int .i64 v]],1⟩) (fun j=>j≤b.length∧∀(i:Nat) (x:Bnd),i<j->b[i]?=some x->¬x.v=v) (fun j=>b.length-j) 0 ⟨Nat.zero_le _,fun i x h=>by omega⟩ ?_ ?_
 ·exact au
 ·rintro j ⟨q1,q2⟩
  by_cases hj:j<b.length
  ·obtain ⟨x,hx⟩:∃x,b[j]?=some x:=⟨_,List.getElem?_eq_getElem hj⟩
   by_cases hv:x.v=v
   ·obtain ⟨h1,_⟩:=DS hx hv q2;have hl:=AB x v;rw [decide_eq_true hv] at hl;rw [h1]
    conv=>whnf
    repeat' ((first|(refine gC ?_;(refine gD ?_;refine cI ?_))|(refine gI ?_;(refine gM ?_;refine iE ?_))|(refine gH ?_;refine hB ?_))<;>conv=>whnf)
    refine ab.ate [0] hl rfl rfl ?_
    conv=>whnf
    repeat' ((first|(refine gC ?_;refine cY ?_)|refine af.nrm ?_)<;>conv=>whnf)
    exact ⟨rfl,rfl⟩
   ·have hl:=AB x v;rw [decide_eq_false hv] at hl
    conv=>whnf
    repeat' ((first|(refine gC ?_;(refine gD ?_;refine cI ?_))|(refine gI ?_;(refine gM ?_;refine iE ?_))|(refine gH ?_;refine hB ?_))<;>conv=>whnf)
    refine ab.ate [0] hl rfl rfl ?_
    conv=>whnf
    repeat' ((first|(refine gC ?_;refine cN ?_)|(refine gW ?_;refine wI ?_))<;>conv=>whnf)
    refine ⟨j+1,⟨⟨hj,fun i y hi hy=>?_⟩,by omega⟩,?_⟩
    ·by_cases e:i=j
     ·subst e;rw [hx] at hy;cases hy;exact hv
     ·exact q2 i y (by omega) hy
    exact au
  ·obtain rfl:j=b.length:=by omega
   obtain ⟨h1,_⟩:=DR (v:=v) fun i x hx=>q2 i x (List.getElem?_eq_some_iff.1 hx).1 hx;rw [h1]
   conv=>whnf
   repeat' ((first|(refine gC ?_;(refine gD ?_;refine cJ ?_))|refine af.nrm ?_)<;>conv=>whnf)
   exact ⟨rfl,rfl⟩
set_option maxRecDepth 100000 in
theorem ER (b:List Bnd) (v:Int) (hb:b.length≤4000000000):Fun Tryz.prog 87 [.sl .no (b.map Bnd.av),.int .i64 v] (pb (aX b v)):=by
 refine Fun.of (sL (by simp) ?_) rfl (xz _)
 have hi:=EX (v:=v) hb
 by_cases h:∃(i:Nat) (x:Bnd),b[i]?=some x∧x.v=v∧∀(j:Nat) (y:Bnd),j<i->b[j]?=some y->¬y.v=v
 ·obtain ⟨i,x,hx,hv,hj⟩:=h;obtain ⟨h1,h2⟩:=DS hx hv hj;have hil:=(List.getElem?_eq_some_iff.1 hx).1;rw [h1] at hi;rw [h2]
  conv=>whnf
  skip;refine ab.ate [0] hi rfl rfl ?_
  conv=>whnf
  repeat' ((first|(refine gC ?_;(refine gD ?_;refine cJ ?_))|(refine gI ?_;(refine gM ?_;refine iE ?_)))<;>conv=>whnf)
  refine af.lay [some 1] oko ?_
  conv=>whnf
  conv=>whnf
  repeat' (refine af.nrm ?_<;>conv=>whnf)
  rfl
 ·have hno:∀(i:Nat) (x:Bnd),b[i]?=some x->¬x.v=v:=by
   intro i
   induction i using Nat.strongRecOn with
   |ind i ih=>exact fun x hx hv=>h ⟨i,x,hx,hv,fun j y hj hy=>ih j hj y hy⟩
  obtain ⟨h1,h2⟩:=DR hno;rw [h1] at hi;rw [h2]
  conv=>whnf
  skip;refine ab.ate [0] hi rfl rfl ?_
  conv=>whnf
  repeat' ((refine gC ?_;(refine gD ?_;refine cI ?_))<;>conv=>whnf)
  refine af.lay [some 1] oko ?_
  conv=>whnf
  conv=>whnf
  repeat' (refine af.nrm ?_<;>conv=>whnf)
  rfl
theorem FX {α:Type} {f:α->α} {l:List α} {j:Nat} {x:α} (hx:l[j]?=some x):(((l.take j).map f++l.drop j).map some)[j]?=some (some x)∧(((l.take j).map f++l.drop j).map some).set j (some (f x))=((l.take (j+1)).map f++l.drop (j+1)).map some:=by
 have hj:=(List.getElem?_eq_some_iff.1 hx).1;have hd:l.drop j=x::l.drop (j+1):=by rw [List.drop_eq_getElem_cons hj,(List.getElem?_eq_some_iff.1 hx).2]
 have hlen:((l.take j).map f).length=j:=by rw [List.length_map,List.length_take];omega
 constructor
 ·rw [List.getElem?_map,List.getElem?_append_right (by omega),hlen,Nat.sub_self,hd];rfl
 ·have:((l.take j).map f++l.drop j).set j (f x)=(l.take (j+1)).map f++l.drop (j+1):=by
   rw [List.set_append_right _ _ (by omega),hlen,Nat.sub_self,hd,List.set_cons_zero,List.take_add_one,hx,Option.toList_some,List.map_append,List.append_assoc];rfl
  rw [←List.map_set,this]
set_option maxRecDepth 100000 in
theorem C7 {b:List Bnd} {l:List Tm} (hL:l.length<=4000000000) (h:∀x∈l,Fun Tryz.prog 47 [.sl .no (b.map Bnd.av),x.avw] (cR b x).avw):Fun Tryz.prog 88 [.sl .no (b.map Bnd.av),.sl .no (l.map Tm.av)] (.sl .no ((l.map (cR b)).map Tm.av)):=by
 refine Fun.of (Sem.assume fun _ _=>?_) rfl rfl;have hg:l.length<=4294967296:=by omega
 refine qU (by simp) ?_
 conv=>whnf
 skip;refine ab.raw (Fk (l:=l) (by omega)) ?_
 rintro r bs' ⟨k,hk,rfl,rfl⟩
 conv=>whnf
 skip;refine aw.by (fb:=true) (fun _ (j:Nat)=>⟨[(0,.sl .no (b.map Bnd.av)),(5,.bsl 0 l.length k),(10,.int .i64 (l.length:Int)),(11,.int .i64 (j:Int))],[aL tmA 4 k (((l.take j).map (cR b)++l.drop j).map some)],0⟩) (fun j=>j≤l.length) (fun j=>l.length-j) 0 (Nat.zero_le _) ?_ ?_
 ·rw [List.take_zero,List.map_nil,List.nil_append,List.drop_zero];exact au
 ·rintro j q1
  by_cases hj:j<l.length
  ·obtain ⟨x,hx⟩:∃x,l[j]?=some x:=⟨_,List.getElem?_eq_getElem hj⟩;obtain ⟨u1,u2⟩:=FX (f:=cR b) hx;have hx1:=h x (List.mem_of_getElem? hx)
   conv=>whnf
   repeat' ((first|(refine gC ?_;(refine gD ?_;refine cI ?_))|(refine gN ?_;refine nS ?_))<;>conv=>whnf)
   refine ElN.elem bp rfl u1 ?_
   conv=>whnf
   repeat' ((first|(refine gF ?_;refine ab.fn (hx1) ?_)|(refine gN ?_;refine nS ?_))<;>conv=>whnf)
   refine EsN.elem bp (fun x=>by cases x<;>rfl) (x:=some x) (y:=some (cR b x)) rfl u1 rfl ?_
   conv=>whnf
   repeat' ((refine gW ?_;refine wI ?_)<;>conv=>whnf)
   refine ⟨j+1,⟨hj,by omega⟩,?_⟩
   rw [←u2];refine ah.at_ ?_ rfl
   conv=>whnf
   refine And.intro ?_ ?_<;>conv=>whnf
   all_goals repeat' ((first|(refine gV ?_;first|refine vE ?_|refine vI ?_)|(refine gX ?_;(refine BxN.mk ?_ ?_;(focus (simp [AV.norm,AV.aD,];done))))|exact True.intro)<;>conv=>whnf)
  ·obtain rfl:j=l.length:=by omega
   rw [List.take_length,List.drop_length,List.append_nil]
   conv=>whnf
   repeat' ((refine gC ?_;(refine gD ?_;refine cJ ?_))<;>conv=>whnf)
   refine af.froze bp (l:=(l.map (cR b)).map some) (k:=k) rfl rfl (by simp) (af.slot ?_)
   rw [j0];rfl
set_option maxRecDepth 100000 in
theorem vr (b:List Bnd) (hb:b.length≤4000000000) (t:Tm):t.nodes<=1000000->Fun Tryz.prog 47 [.sl .no (b.map Bnd.av),t.avw] (cR b t).avw:=by
 induction t using Tm.bD with
 |h k n s l ih=>
 intro hN;generalize ha:Tm.mk k n s l=t at hN|-;replace ih:∀x∈t.args,x.nodes<=1000000->Fun Tryz.prog 47 [.sl .no (b.map Bnd.av),x.avw] (cR b x).avw:=by subst ha;exact ih
 have hnl:Tm.ai t.args+1<=t.nodes:=by subst ha;simp only[Tm.nodes,Tm.args];omega
 have hlen:=bF t.args
 clear ha;refine Fun.of (tQ (by simp) ?_) rfl rfl
 by_cases h1:t.kind=1
 ·rw [HN h1];have hl:=ER b t.num hb
  cases hk:aX b t.num with
  |none=>
   rw [hk,pb] at hl
   conv=>whnf
   repeat' ((first|(refine gF ?_;refine ab.fn (hl) ?_)|(refine gC ?_;first|refine cN ?_|(refine gD ?_;refine cI ?_)))<;>conv=>whnf)
   refine af.lay [some 1] oko ?_
   conv=>whnf
   conv=>whnf
   repeat' (refine af.nrm ?_<;>conv=>whnf)
   rfl
  |some x=>
   rw [hk,pb] at hl
   conv=>whnf
   repeat' ((first|(refine gF ?_;refine ab.fn (hl) ?_)|(refine gC ?_;first|refine cY ?_|(refine gD ?_;refine cI ?_)))<;>conv=>whnf)
   refine af.lay [some 1] oko ?_
   conv=>whnf
   conv=>whnf
   repeat' (refine af.nrm ?_<;>conv=>whnf)
   rfl
 ·by_cases h2:t.kind=2
  ·rw [HM h2];have hap:=C7 (by omega) fun x hx=>ih x hx (by have:=kP hx;omega)
   conv=>whnf
   repeat' ((first|(refine gF ?_;refine ab.fn (hap) ?_)|(refine gC ?_;(refine gD ?_;first|refine cI ?_|refine cJ ?_)))<;>conv=>whnf)
   refine af.lay [some 1] oko ?_
   conv=>whnf
   conv=>whnf
   repeat' (refine af.nrm ?_<;>conv=>whnf)
   rfl
  ·rw [HL h1 h2]
   conv=>whnf
   repeat' ((refine gC ?_;(refine gD ?_;refine cJ ?_))<;>conv=>whnf)
   refine af.lay [some 1] oko ?_
   conv=>whnf
   conv=>whnf
   repeat' (refine af.nrm ?_<;>conv=>whnf)
   rfl
end Go.CK
namespace Go.CK
open Go.AM Go.Proofs
def uA (_:Unit):AV:=.agg []
def kbs (b:List Bnd):List (Int×Unit):=b.foldl (fun m x=>pt m x.v ()) []
theorem Ha (b:List Bnd) (x:Bnd):mpE uA (kbs (b++[x]))=fw (mpE uA (kbs b)) x.v (.agg []):=by
 unfold kbs;rw [List.foldl_append];exact (kQ uA _ _ ()).symm
theorem AK:∀(b:List Bnd) (m:List (Int×Unit)) (v:Int),lk (b.foldl (fun m x=>pt m x.v ()) m) v=none↔(lk m v=none∧∀x∈b,x.v≠v)
 |[],m,v=>by simp
 |y::b,m,v=>by
  rw [List.foldl_cons,AK b (pt m y.v ()) v,dC];constructor
  ·rintro ⟨h1,h2⟩;split at h1
   ·cases h1
   ·rename_i hv
    exact ⟨h1,fun x hx=>by
     rcases List.mem_cons.1 hx with rfl|hx
     ·exact fun e=>hv e.symm
     ·exact h2 x hx⟩
  ·rintro ⟨h1,h2⟩;rw [if_neg (fun e=>h2 y (List.mem_cons_self ..) e.symm)];exact ⟨h1,fun x hx=>h2 x (List.mem_cons_of_mem _ hx)⟩
theorem Kp (b:List Bnd) (v:Int):lk (kbs b) v=none↔(aX b v).isNone=true:=by
 unfold kbs;rw [AK,n3];simp [lk]
set_option maxHeartbeats 4000000 in
set_option maxRecDepth 100000 in
theorem ED (b:List Bnd) (hb:∀x∈b,x.t.vs.length≤100000):Fun Tryz.prog 79 [.sl .no (b.map Bnd.av)] (.bool (cL b)):=by
 refine Fun.of (Sem.assume fun hg0 _=>?_) rfl rfl;have hg:=(bH (hg0 (.sl .no (b.map Bnd.av)) (by simp) rfl)).1
 refine tP (by simp) ?_
 conv=>whnf
 repeat' ((refine gL ?_;refine .map ?_)<;>conv=>whnf)
 refine aw.by (fb:=true) (fun _ (j:Nat)=>⟨[(0,.sl .no (b.map Bnd.av)),(3,.mpt 0),(15,.sl .no (b.map Bnd.av)),(16,.int .i64 (b.length:Int)),(17,.int .i64 (j:Int))],[.mp (mpE uA (kbs (b.take j)))],0⟩) (fun j=>j≤b.length∧mF (jD b j) (b.drop j)=mF none b) (fun j=>b.length-j) 0 ⟨Nat.zero_le _,rfl⟩ ?_ ?_
 ·refine ah.at_ ?_ rfl
  conv=>whnf
  refine And.intro ?_ ?_<;>conv=>whnf
  all_goals repeat' ((first|(refine gV ?_;first|refine vE ?_|refine vI ?_)|(refine gX ?_;(refine BxN.mk ?_ ?_;(focus (simp [AV.norm,AV.aD,kbs,mpE];done))))|exact True.intro)<;>conv=>whnf)
 ·rintro j ⟨q1,q2⟩
  by_cases hj:j<b.length
  ·obtain ⟨x,hx⟩:∃x,b[j]?=some x:=⟨_,List.getElem?_eq_getElem hj⟩;rw [List.drop_eq_getElem_cons hj,(List.getElem?_eq_some_iff.1 hx).2,mF] at q2;have hnext:jD b (j+1)=some x.v:=by simp only [jD,hx,Option.map_some]
   have htk:b.take (j+1)=b.take j++[x]:=by rw [List.take_add_one,hx];rfl
   have hsn:=Ha (b.take j) x;have hr:=fP x.t;have hfalse:∀{z:Bool},z=mF none b->z=false->false=cL b:=fun h1 h2=>by unfold cL;rw [←h1,h2];rfl
   by_cases h1:0≤x.v∧x.v≤1048576
   rotate_left
   ·rw [decide_eq_false h1,Bool.false_and] at q2;have hq:=hfalse q2 rfl;rw [←hq]
    by_cases h2:0≤x.v
    ·have h3:¬x.v≤1048576:=fun e=>h1 ⟨h2,e⟩
     conv=>whnf
     repeat' ((first|(refine gC ?_;first|refine cY ?_|(refine gD ?_;first|refine cI ?_|refine cJ ?_))|(refine gI ?_;(refine gM ?_;refine iE ?_)))<;>conv=>whnf)
     refine af.lay [] oko ?_
     conv=>whnf
     conv=>whnf
     repeat' (refine af.nrm ?_<;>conv=>whnf)
     all_goals rfl
    ·conv=>whnf
     repeat' ((first|(refine gC ?_;first|refine cY ?_|(refine gD ?_;refine cI ?_))|(refine gI ?_;(refine gM ?_;refine iE ?_)))<;>conv=>whnf)
     refine af.lay [] oko ?_
     conv=>whnf
     conv=>whnf
     repeat' (refine af.nrm ?_<;>conv=>whnf)
     all_goals rfl
   rw [decide_eq_true h1,Bool.true_and] at q2;obtain ⟨h2,h3⟩:=h1
   cases j with
   |zero=>
    simp only [jD,tK,Bool.true_and] at q2
    cases hxr:x.t.right with
    |false=>
     rw [hxr] at hr q2;have hq:=hfalse q2 rfl;rw [←hq]
     conv=>whnf
     repeat' ((first|(refine gG ?_;refine aM.fn (hr) ?_)|(refine gC ?_;first|refine cN ?_|refine .not ?_|(refine gD ?_;first|refine cI ?_|refine cJ ?_))|(refine gI ?_;(refine gM ?_;refine iE ?_)))<;>conv=>whnf)
     refine af.lay [] oko ?_
     conv=>whnf
     conv=>whnf
     repeat' (refine af.nrm ?_<;>conv=>whnf)
     all_goals rfl
    |true=>
     rw [hxr,Bool.true_and] at q2;rw [hxr] at hr
     conv=>whnf
     repeat' ((first|(refine gG ?_;refine aM.fn (hr) ?_)|(refine gC ?_;first|refine cY ?_|refine cN ?_|refine .not ?_|(refine gD ?_;first|refine cI ?_|refine cJ ?_))|(refine gW ?_;refine wI ?_)|(refine gN ?_;refine nS ?_)|(refine gI ?_;(refine gM ?_;refine iE ?_))|(refine gMp ?_;refine mA ?_))<;>conv=>whnf)
     refine ⟨0+1,⟨⟨hj,by rw [hnext];exact q2⟩,by omega⟩,?_⟩
     rw [htk,hsn];refine ah.lay [some 0] oko ?_
     conv=>whnf
     refine ah.at_ ?_ rfl
     conv=>whnf
     refine And.intro ?_ ?_<;>conv=>whnf
     all_goals repeat' ((first|(refine gV ?_;first|refine vE ?_|refine vI ?_)|exact True.intro)<;>conv=>whnf)
     exact .mk rfl trivial
   |succ j=>
    obtain ⟨y,hy⟩:∃y,b[j]?=some y:=⟨_,List.getElem?_eq_getElem (by omega)⟩
    have hy2:b[((((j+1:Nat):Int))-1).toNat]?=some y:=by rw [show ((((j+1:Nat):Int))-1).toNat=j by omega];exact hy
    simp only [jD,hy,Option.map_some,tK] at q2
    by_cases h4:y.v<x.v
    rotate_left
    ·rw [decide_eq_false h4,Bool.false_and] at q2;have hq:=hfalse q2 rfl;rw [←hq]
     conv=>whnf
     repeat' ((first|(refine gC ?_;first|refine cY ?_|(refine gD ?_;first|refine cI ?_|refine cJ ?_))|(refine gW ?_;refine wI ?_)|(refine gI ?_;(refine gM ?_;first|refine iE ?_|refine iF ?_)))<;>conv=>whnf)
     refine af.lay [] oko ?_
     conv=>whnf
     conv=>whnf
     repeat' (refine af.nrm ?_<;>conv=>whnf)
     all_goals rfl
    ·rw [decide_eq_true h4,Bool.true_and] at q2
     cases hxr:x.t.right with
     |false=>
      rw [hxr] at hr q2;have hq:=hfalse q2 rfl;rw [←hq]
      conv=>whnf
      repeat' ((first|(refine gG ?_;refine aM.fn (hr) ?_)|(refine gC ?_;first|refine cN ?_|refine .not ?_|(refine gD ?_;first|refine cI ?_|refine cJ ?_))|(refine gW ?_;refine wI ?_)|(refine gI ?_;(refine gM ?_;first|refine iE ?_|refine iF ?_)))<;>conv=>whnf)
      refine af.lay [] oko ?_
      conv=>whnf
      conv=>whnf
      repeat' (refine af.nrm ?_<;>conv=>whnf)
      all_goals rfl
     |true=>
      rw [hxr,Bool.true_and] at q2;rw [hxr] at hr
      conv=>whnf
      repeat' ((first|(refine gG ?_;refine aM.fn (hr) ?_)|(refine gC ?_;first|refine cY ?_|refine .not ?_|(refine gD ?_;first|refine cI ?_|refine cJ ?_))|(refine gW ?_;refine wI ?_)|(refine gN ?_;refine nS ?_)|(refine gI ?_;(refine gM ?_;first|refine iE ?_|refine iF ?_))|(refine gMp ?_;refine mA ?_))<;>conv=>whnf)
      refine ⟨j+1+1,⟨⟨hj,by rw [hnext];exact q2⟩,by omega⟩,?_⟩
      rw [htk,hsn];refine ah.lay [some 0] oko ?_
      conv=>whnf
      refine ah.at_ ?_ rfl
      conv=>whnf
      refine And.intro ?_ ?_<;>conv=>whnf
      all_goals repeat' ((first|(refine gV ?_;first|refine vE ?_|refine vI ?_)|exact True.intro)<;>conv=>whnf)
      exact .mk rfl trivial
  ·obtain rfl:j=b.length:=by omega
   rw [List.drop_length,mF] at q2;have he:cL b=b.all fun x=>mg b x.t:=by unfold cL;rw [←q2,Bool.true_and]
   rw [he,List.take_length]
   conv=>whnf
   repeat' ((first|(refine gC ?_;(refine gD ?_;refine cJ ?_))|(refine gL ?_;refine .map ?_))<;>conv=>whnf)
   refine aw.by (fb:=true) (fun _ (j:Nat)=>⟨[(3,.mpt 0),(56,.sl .no (b.map Bnd.av)),(57,.int .i64 (b.length:Int)),(58,.int .i64 (j:Int))],[.mp (mpE uA (kbs b))],0⟩) (fun j=>j≤b.length∧((b.drop j).all fun x=>mg b x.t)=b.all fun x=>mg b x.t) (fun j=>b.length-j) 0 ⟨Nat.zero_le _,rfl⟩ ?_ ?_
   ·exact au
   ·rintro j ⟨p1,p2⟩
    by_cases hj:j<b.length
    ·obtain ⟨x,hx⟩:∃x,b[j]?=some x:=⟨_,List.getElem?_eq_getElem hj⟩;rw [List.drop_eq_getElem_cons hj,(List.getElem?_eq_some_iff.1 hx).2,List.all_cons] at p2;have hv:=Ic (hb x (List.mem_of_getElem? hx));have hL:=uN x.t.vs;have hL2:=hb x (List.mem_of_getElem? hx);generalize hfl:dL x.t.vs=L at hv hL;have hfree:mg b x.t=L.all fun v=>(aX b v).isNone:=by unfold mg;rw [hfl]
     rw [hfree] at p2
     conv=>whnf
     repeat' ((first|(refine gF ?_;refine ab.fn (hv) ?_)|(refine gC ?_;(refine gD ?_;refine cI ?_))|(refine gL ?_;refine .map ?_)|(refine gI ?_;(refine gM ?_;refine iE ?_)))<;>conv=>whnf)
     refine aw.by (fb:=true) (fun _ (i:Nat)=>⟨[(3,.mpt 0),(56,.sl .no (b.map Bnd.av)),(57,.int .i64 (b.length:Int)),(58,.int .i64 (j:Int)),(64,.sl .no (L.map c7)),(65,.int .i64 (L.length:Int)),(66,.int .i64 (i:Int))],[.mp (mpE uA (kbs b))],0⟩) (fun i=>i≤L.length∧((L.drop i).all fun v=>(aX b v).isNone)=L.all fun v=>(aX b v).isNone) (fun i=>L.length-i) 0 ⟨Nat.zero_le _,rfl⟩ ?_ ?_
     ·refine ah.lay [some 0] oko ?_
      conv=>whnf
      exact au
     ·rintro i ⟨r1,r2⟩
      by_cases hi:i<L.length
      ·obtain ⟨v,hv1⟩:∃v,L[i]?=some v:=⟨_,List.getElem?_eq_getElem hi⟩;rw [List.drop_eq_getElem_cons hi,(List.getElem?_eq_some_iff.1 hv1).2,List.all_cons] at r2;have hk:=Kp b v
       cases hlv:lk (kbs b) v with
       |some u=>
        have hno:(aX b v).isNone=false:=by
         cases hq:(aX b v).isNone with
         |false=>rfl
         |true=>rw [hk.2 hq] at hlv;cases hlv
        rw [hno,Bool.false_and] at r2;rw [←r2,Bool.false_and] at p2;rw [←p2]
        conv=>whnf
        repeat' ((first|(refine gC ?_;first|refine cY ?_|(refine gD ?_;refine cI ?_))|(refine gI ?_;(refine gM ?_;refine iE ?_))|(refine gMp ?_;refine mA ?_)|(refine gMs ?_;refine mEs ?_))<;>conv=>whnf)
        refine af.lay [] oko ?_
        conv=>whnf
        conv=>whnf
        repeat' (refine af.nrm ?_<;>conv=>whnf)
        all_goals rfl
       |none=>
        rw [hk.1 hlv,Bool.true_and] at r2
        conv=>whnf
        repeat' ((first|(refine gC ?_;first|refine cN ?_|(refine gD ?_;refine cI ?_))|(refine gW ?_;refine wI ?_)|(refine gI ?_;(refine gM ?_;refine iE ?_))|(refine gMp ?_;refine mA ?_)|(refine gMs ?_;refine mEn ?_))<;>conv=>whnf)
        refine ⟨i+1,⟨⟨hi,r2⟩,by omega⟩,?_⟩
        refine ah.lay [some 0] oko ?_
        conv=>whnf
        exact au
      ·obtain rfl:i=L.length:=by omega
       rw [List.drop_length,List.all_nil] at r2;rw [←r2,Bool.true_and] at p2
       conv=>whnf
       repeat' ((first|(refine gC ?_;(refine gD ?_;refine cJ ?_))|(refine gW ?_;refine wI ?_))<;>conv=>whnf)
       refine ⟨j+1,⟨⟨hj,p2⟩,by omega⟩,?_⟩
       exact au
    ·obtain rfl:j=b.length:=by omega
     rw [List.drop_length,List.all_nil] at p2;rw [←p2]
     conv=>whnf
     repeat' ((refine gC ?_;(refine gD ?_;refine cJ ?_))<;>conv=>whnf)
     refine af.lay [] oko ?_
     conv=>whnf
     conv=>whnf
     repeat' (refine af.nrm ?_<;>conv=>whnf)
     all_goals rfl
end Go.CK
namespace Go.CK
open Go.AM Go.Proofs
set_option maxRecDepth 100000 in
theorem J4 {l r:List Tm} {kl kr:Nat} {s t:Tm} (hl:l.length≤kl) (hr:r.length≤kr) (hl2:l.length≤4000000000) (hr2:r.length≤4000000000):AM.Sem Tryz.prog 80 [.ptr 0 0,s.avw,t.avw] [.cells [.bsl 1 (l.map some).length kl,.bsl 2 (r.map some).length kr],aL tmA 4 kl (l.map some),aL tmA 4 kr (r.map some)] fun q bs'=>q=.tup []∧∃kl' kr',(l++[s]).length≤kl'∧(r++[t]).length≤kr'∧bs'=[.cells [.bsl 3 ((l++[s]).map some).length kl',.bsl 4 ((r++[t]).map some).length kr'],.dead,.dead,aL tmA 4 kl' ((l++[s]).map some),aL tmA 4 kr' ((r++[t]).map some)]:=by
 have hml:(l.map some).length=l.length:=List.length_map ..;have hmr:(r.map some).length=r.length:=List.length_map ..;have e1:l.map some++[some s]=(l++[s]).map some:=by rw [List.map_append];rfl
 have e2:r.map some++[some t]=(r++[t]).map some:=by rw [List.map_append];rfl
 refine dw (by simp) ?_
 conv=>whnf
 skip;refine lh.one bp (l:=l.map some) (k:=kl) (x:=some s) rfl rfl (by omega) (by omega) fun k1 hk1=>?_
 conv=>whnf
 repeat' ((refine gPr ?_;refine pS ?_)<;>conv=>whnf)
 refine lh.one bp (l:=r.map some) (k:=kr) (x:=some t) rfl rfl (by omega) (by omega) fun k2 hk2=>?_
 conv=>whnf
 repeat' ((refine gPr ?_;refine pS ?_)<;>conv=>whnf)
 rw [e1] at hk1;rw [e2] at hk2;rw [e1,e2];refine af.lay [some 0,none,none,some 5,some 6] oko ?_
 conv=>whnf
 conv=>whnf
 repeat' (refine af.nrm ?_<;>conv=>whnf)
 exact ⟨rfl,k1,k2,by rw [List.length_map] at hk1;exact hk1,by rw [List.length_map] at hk2;exact hk2,rfl⟩
set_option maxRecDepth 100000 in
theorem Ci {l r:List Tm} {kl kr:Nat} {s t:Tm} (hl:l.length≤kl) (hr:r.length≤kr) (hl2:l.length≤4000000000) (hr2:r.length≤4000000000):AM.Sem Tryz.prog 80 [.ptr 0 0,s.avw,t.avw] [.cells [.bsl 1 (l.map some).length kl,.bsl 2 (r.map some).length kr],aL tmA 4 kl (l.map some),aL tmA 4 kr (r.map some)] fun q bs'=>q=.tup []∧bs'=[.cells [.sl .no ((l++[s]).map Tm.av),.sl .no ((r++[t]).map Tm.av)],.dead,.dead]:=by
 have hml:(l.map some).length=l.length:=List.length_map ..;have hmr:(r.map some).length=r.length:=List.length_map ..;have e1:l.map some++[some s]=(l++[s]).map some:=by rw [List.map_append];rfl
 have e2:r.map some++[some t]=(r++[t]).map some:=by rw [List.map_append];rfl
 refine dw (by simp) ?_
 conv=>whnf
 skip;refine lh.one bp (l:=l.map some) (k:=kl) (x:=some s) rfl rfl (by omega) (by omega) fun k1 hk1=>?_
 conv=>whnf
 repeat' ((refine gPr ?_;refine pS ?_)<;>conv=>whnf)
 refine lh.one bp (l:=r.map some) (k:=kr) (x:=some t) rfl rfl (by omega) (by omega) fun k2 hk2=>?_
 conv=>whnf
 repeat' ((refine gPr ?_;refine pS ?_)<;>conv=>whnf)
 rw [e1] at hk1;rw [e2] at hk2;rw [e1,e2];refine af.lay [some 0,none,none,some 5,some 6] oko ?_
 conv=>whnf
 refine af.bY bp 0 0 (b:=3) (l:=(l++[s]).map some) (k0:=k1) rfl rfl rfl (Nat.le_refl _) ?_;rw [List.take_length,j0]
 conv=>whnf
 refine af.bY bp 0 1 (b:=4) (l:=(r++[t]).map some) (k0:=k2) rfl rfl rfl (Nat.le_refl _) ?_;rw [List.take_length,j0]
 conv=>whnf
 refine af.lay [some 0,none,none] oko ?_
 conv=>whnf
 conv=>whnf
 repeat' (refine af.nrm ?_<;>conv=>whnf)
 exact ⟨rfl,rfl⟩
theorem uv {b:List Bnd} {j:Nat} {x:Bnd} (hx:b[j]?=some x):a8 (b.take (j+1))=a8 (b.take j)++[az x.v]∧aH (b.take (j+1))=aH (b.take j)++[x.t]:=by
 unfold a8 aH;rw [List.take_add_one,hx,Option.toList_some,List.map_append,List.map_append];exact ⟨rfl,rfl⟩
theorem xD (b:List Bnd):(a8 b).length=b.length∧(aH b).length=b.length:=⟨List.length_map ..,List.length_map ..⟩
set_option maxHeartbeats 2000000 in
set_option maxRecDepth 100000 in
theorem wS {b:List Bnd} {s t:Tm} {out:List Bnd} {e:Int} (h:wH fN fF (a8 b++[s]) (aH b++[t])=some (out,e)) (hN:Tm.ai (a8 b++[s])+Tm.ai (aH b++[t])≤300000000) (hb:b.length≤300000000):Fun Tryz.prog 41 [.sl .no (b.map Bnd.av),s.avw,t.avw] (.tup [.sl .no (out.map Bnd.av),.int .i64 e]):=by
 have hall:=KN h hN;refine Fun.of (tS (by simp) ?_) rfl rfl
 conv=>whnf
 conv=>whnf
 repeat' ((refine gL ?_;refine .map ?_)<;>conv=>whnf)
 refine aw.by (fb:=true) (fun _ (q:Nat×Nat×Nat)=>⟨[(4,.ptr 0 0),(5,.ptr 1 0),(8,.ptr 2 0),(9,.fn (.func 80) [.ptr 2 0] []),(13,.sl .no (b.map Bnd.av)),(14,.int .i64 (b.length:Int)),(15,.int .i64 (q.1:Int))],[.cells [.int .i64 s.kind,.int .i64 s.num,.str s.name,.sl .no (s.args.map Tm.av)],.cells [.int .i64 t.kind,.int .i64 t.num,.str t.name,.sl .no (t.args.map Tm.av)],.cells [.bsl 3 ((a8 (b.take q.1)).map some).length q.2.1,.bsl 4 ((aH (b.take q.1)).map some).length q.2.2],aL tmA 4 q.2.1 ((a8 (b.take q.1)).map some),aL tmA 4 q.2.2 ((aH (b.take q.1)).map some)],0⟩) (fun q=>q.1≤b.length∧(a8 (b.take q.1)).length≤q.2.1∧(aH (b.take q.1)).length≤q.2.2) (fun q=>b.length-q.1) (0,0,0) ⟨Nat.zero_le _,Nat.le_refl _,Nat.le_refl _⟩ ?_ ?_
 ·refine ah.cx (.bx 2 0) rfl rfl ?_
  conv=>whnf
  refine ah.cx (.bx 2 1) rfl rfl ?_
  conv=>whnf
  refine ah.lay [some 0,some 1,some 2,some 3,some 4] oko ?_
  conv=>whnf
  refine ah.at_ ?_ rfl
  conv=>whnf
  refine And.intro ?_ ?_<;>conv=>whnf
  all_goals repeat' ((first|(refine gV ?_;first|refine vE ?_|refine vI ?_)|(refine gX ?_;first|refine xB ?_|(refine BxN.mk ?_ ?_;(focus (simp [AV.norm,AV.aD,cellsOf,a8,aH];done))))|exact True.intro)<;>conv=>whnf)
 ·rintro ⟨j,kl,kr⟩ ⟨q1,q2,q3⟩;dsimp only at q1 q2 q3⊢;have hll:=xD (b.take j);rw [List.length_take] at hll
  by_cases hj:j<b.length
  ·obtain ⟨x,hx⟩:∃x,b[j]?=some x:=⟨_,List.getElem?_eq_getElem hj⟩;obtain ⟨t1,t2⟩:=uv hx;have hp:=J4 (s:=az x.v) (t:=x.t) q2 q3 (by omega) (by omega)
   rw [←t1,←t2] at hp
   conv=>whnf
   repeat' ((first|(refine gG ?_;refine aM.fn (oM _) ?_)|(refine gC ?_;(refine gD ?_;refine cI ?_))|(refine gI ?_;(refine gM ?_;refine iE ?_))|(refine gH ?_;refine hB ?_))<;>conv=>whnf)
   refine ab.at [2,3,4] hp rfl rfl ?_ oko ?_
   ·rintro r bs' ⟨rfl,k1,k2,_,_,rfl⟩;exact ⟨rfl,rfl,oko⟩
   rintro r bs' ⟨rfl,k1,k2,g1,g2,rfl⟩
   conv=>whnf
   repeat' ((refine gW ?_;refine wI ?_)<;>conv=>whnf)
   refine ⟨(j+1,k1,k2),⟨⟨hj,g1,g2⟩,by show _-(j+1)<_-j;omega⟩,?_⟩
   dsimp only;refine ah.lay [some 0,some 1,some 2,some 6,some 7] oko ?_
   conv=>whnf
   exact au
  ·obtain rfl:j=b.length:=by omega
   rw [List.take_length] at q2 q3 hll⊢;have hp:=Ci (s:=s) (t:=t) q2 q3 (by omega) (by omega)
   conv=>whnf
   repeat' ((first|(refine gC ?_;(refine gD ?_;refine cJ ?_))|(refine gH ?_;refine hB ?_))<;>conv=>whnf)
   refine ab.ate [2,3,4] hp rfl rfl ?_
   conv=>whnf
   repeat' ((refine gF ?_;refine ab.fn (hall) ?_)<;>conv=>whnf)
   refine af.lay [] oko ?_
   conv=>whnf
   conv=>whnf
   repeat' (refine af.nrm ?_<;>conv=>whnf)
   all_goals rfl
end Go.CK
namespace Go.CK
open Go.AM Go.Proofs
set_option maxRecDepth 100000 in
theorem Em {b:List Bnd} {s t:Tm} (hb:∀x∈b,x.t.vs.length≤100000):Fun Tryz.prog 40 [.sl .no (b.map Bnd.av),.sl .no ([s,t].map Tm.av)] (.bool (bk b s t)):=by
 have hs:=fP s;have ht:=fP t;have hr:=ED b hb;refine Fun.of (tR (by simp) ?_) rfl rfl
 conv=>whnf
 repeat' ((refine gL ?_;refine .map ?_)<;>conv=>whnf)
 refine aw.by (fb:=true) (fun _ (j:Nat)=>⟨[(0,.sl .no (b.map Bnd.av)),(7,.sl .no ([s,t].map Tm.av)),(8,.int .i64 2),(9,.int .i64 (j:Int))],[],0⟩) (fun j=>j≤2∧(1≤j->s.right=true)∧(2≤j->t.right=true)) (fun j=>2-j) 0 ⟨Nat.zero_le _,fun h=>absurd h (by omega),fun h=>absurd h (by omega)⟩ ?_ ?_
 ·refine ah.at_ ?_ rfl
  conv=>whnf
  refine And.intro ?_ ?_<;>conv=>whnf
  all_goals repeat' ((first|(refine gV ?_;first|refine vE ?_|refine vI ?_|(refine WkN.norm ?_ ?_;(focus (simp [AV.norm,AV.aD,];done))))|exact True.intro)<;>conv=>whnf)
 ·rintro j ⟨q1,q2,q3⟩;obtain rfl|rfl|rfl:j=0∨j=1∨j=2:=by omega
  ·have hx:([s,t]:List Tm)[0]?=some s:=rfl
   cases hsr:s.right with
   |false=>
    rw [hsr] at hs;have hv:bk b s t=false:=by unfold bk;rw [hsr];simp
    rw [hv]
    conv=>whnf
    repeat' ((first|(refine gF ?_;refine ab.fn (hs) ?_)|(refine gC ?_;first|refine cN ?_|refine .not ?_|(refine gD ?_;refine cI ?_))|(refine gI ?_;(refine gT ?_;refine iA ?_)))<;>conv=>whnf)
    refine af.lay [] oko ?_
    conv=>whnf
    conv=>whnf
    repeat' (refine af.nrm ?_<;>conv=>whnf)
   |true=>
    rw [hsr] at hs
    conv=>whnf
    repeat' ((first|(refine gF ?_;refine ab.fn (hs) ?_)|(refine gC ?_;first|refine cY ?_|refine .not ?_|(refine gD ?_;refine cI ?_))|(refine gW ?_;refine wI ?_)|(refine gI ?_;(refine gT ?_;refine iA ?_)))<;>conv=>whnf)
    refine ⟨1,⟨⟨by omega,fun _=>rfl,fun h=>absurd h (by omega)⟩,by omega⟩,?_⟩
    refine ah.lay [] oko ?_
    conv=>whnf
    exact au
  ·have hx:([s,t]:List Tm)[1]?=some t:=rfl
   cases htr:t.right with
   |false=>
    rw [htr] at ht;have hv:bk b s t=false:=by unfold bk;rw [htr];simp
    rw [hv]
    conv=>whnf
    repeat' ((first|(refine gF ?_;refine ab.fn (ht) ?_)|(refine gC ?_;first|refine cN ?_|refine .not ?_|(refine gD ?_;refine cI ?_))|(refine gI ?_;(refine gT ?_;refine iA ?_)))<;>conv=>whnf)
    refine af.lay [] oko ?_
    conv=>whnf
    conv=>whnf
    repeat' (refine af.nrm ?_<;>conv=>whnf)
   |true=>
    rw [htr] at ht
    conv=>whnf
    repeat' ((first|(refine gF ?_;refine ab.fn (ht) ?_)|(refine gC ?_;first|refine cY ?_|refine .not ?_|(refine gD ?_;refine cI ?_))|(refine gW ?_;refine wI ?_)|(refine gI ?_;(refine gT ?_;refine iA ?_)))<;>conv=>whnf)
    refine ⟨2,⟨⟨by omega,fun _=>q2 (by omega),fun _=>rfl⟩,by omega⟩,?_⟩
    refine ah.lay [] oko ?_
    conv=>whnf
    exact au
  ·have hv:bk b s t=cL b:=by unfold bk;rw [q2 (by omega),q3 (by omega)];simp
   rw [hv]
   conv=>whnf
   repeat' ((first|(refine gF ?_;refine ab.fn (hr) ?_)|(refine gC ?_;(refine gD ?_;refine cJ ?_))|refine af.nrm ?_)<;>conv=>whnf)
theorem nT {b:List Bnd} {s t:Tm} (hb:∀x∈b,x.t.vs.length≤100000):Fun Tryz.prog 40 [.sl .no (b.map Bnd.av),.sl .no [s.avw,t.avw]] (.bool (bk b s t)):=by
 have:=Em (s:=s) (t:=t) hb;simpa only [List.map_cons,List.map_nil,Tm.nK] using this
set_option maxRecDepth 100000 in
theorem oJ {b:List Bnd} {s t:Tm} (hb:∀x∈b,x.t.nodes≤1000000∧x.t.vs.length≤100000) (hs:s.nodes≤1000000000) (ht:t.nodes≤1000000000):Fun Tryz.prog 42 [.sl .no (b.map Bnd.av),s.avw,t.avw] (.bool (bk b s t)):=by
 have h1:=EE b hb;have h2:=j6 s hs;have h3:=j6 t ht;unfold bk;generalize cL b=x at h1;generalize s.right=y at h2;generalize t.right=z at h3;cases x<;>cases y<;>cases z
 all_goals
  refine Fun.of (jE (by simp) ?_) rfl rfl
  conv=>whnf
  conv=>whnf
  repeat' ((first|(refine gF ?_;first|refine ab.fn (h1) ?_|refine ab.fn (h2) ?_|refine ab.fn (h3) ?_)|(refine gC ?_;first|refine cY ?_|refine cN ?_)|refine af.nrm ?_)<;>conv=>whnf)
  all_goals rfl
set_option maxRecDepth 100000 in
theorem Di {b:List Bnd} {s t:Tm} {out:List Bnd} {e:Int} (h:BL (s::a8 b) (t::aH b)=some (out,e)) (hN:Tm.ai (s::a8 b)+Tm.ai (t::aH b)≤300000000) (hb:b.length≤300000000):Fun Tryz.prog 43 [.sl .no (b.map Bnd.av),s.avw,t.avw] (.tup [.sl .no (out.map Bnd.av),.int .i64 e]):=by
 have hall:=Le h hN;refine Fun.of (kF (by simp) ?_) rfl rfl
 conv=>whnf
 conv=>whnf
 skip;refine aw.by (fb:=true) (fun _ (j:Nat)=>⟨[(0,.sl .no (b.map Bnd.av)),(8,.sl (.own 4) ((s::a8 (b.take j)).map Tm.av)),(9,.sl (.own 4) ((t::aH (b.take j)).map Tm.av)),(10,.int .i64 (j:Int))],[],0⟩) (fun j=>j≤b.length) (fun j=>b.length-j) 0 (Nat.zero_le _) ?_ ?_
 ·have e1:(s::a8 (b.take 0)).map Tm.av=[s.avw]:=by simp only [List.take_zero,a8,List.map_nil,List.map_cons,Tm.nK]
  have e2:(t::aH (b.take 0)).map Tm.av=[t.avw]:=by simp only [List.take_zero,aH,List.map_nil,List.map_cons,Tm.nK]
  rw [e1,e2];refine ah.lay [] oko ?_
  conv=>whnf
  refine ah.aQ 8 4 (l:=[s.avw]) rfl (fun y hy=>by rw [List.mem_singleton] at hy;subst hy;rfl) ?_
  conv=>whnf
  refine ah.aQ 9 4 (l:=[t.avw]) rfl (fun y hy=>by rw [List.mem_singleton] at hy;subst hy;rfl) ?_
  conv=>whnf
  exact au
 ·rintro j q1;have hll:=xD (b.take j);rw [List.length_take] at hll
  by_cases hj:j<b.length
  ·obtain ⟨x,hx⟩:∃x,b[j]?=some x:=⟨_,List.getElem?_eq_getElem hj⟩;obtain ⟨t1,t2⟩:=uv hx
   conv=>whnf
   repeat' ((first|(refine gC ?_;(refine gD ?_;refine cI ?_))|(refine gW ?_;refine wI ?_)|(refine gL ?_;refine .map ?_)|(refine gN ?_;refine nS ?_)|(refine gI ?_;(refine gM ?_;refine iE ?_)))<;>conv=>whnf)
   refine ⟨j+1,⟨hj,by omega⟩,?_⟩
   have m1:(s::(a8 (b.take j)++[az x.v])).map Tm.av=(s::a8 (b.take j)).map Tm.av++[.agg [.int .i64 1,.int .i64 x.v,.str ⟨⟨[]⟩⟩,.sl .no []]]:=by
    rw [←List.cons_append,List.map_append];simp only [List.map_cons,List.map_nil,Tm.nK];rfl
   have m2:(t::(aH (b.take j)++[x.t])).map Tm.av=(t::aH (b.take j)).map Tm.av++[.agg [.int .i64 x.t.kind,.int .i64 x.t.num,.str x.t.name,.sl .no (x.t.args.map Tm.av)]]:=by
    rw [←List.cons_append,List.map_append];simp only [List.map_cons,List.map_nil,Tm.nK];rfl
   rw [t1,t2,m1,m2];exact au
  ·obtain rfl:j=b.length:=by omega
   rw [List.take_length]
   conv=>whnf
   repeat' ((first|(refine gF ?_;refine ab.fn (hall) ?_)|(refine gC ?_;(refine gD ?_;refine cJ ?_))|(refine gL ?_;refine .map ?_)|refine af.nrm ?_)<;>conv=>whnf)
   all_goals rfl
set_option maxRecDepth 100000 in
theorem Hl {b c:List Bnd} (hc:c.length≤4000000000):Fun Tryz.prog 44 [.sl .no (b.map Bnd.av),.sl .no (c.map Bnd.av)] (slA c7 (c8 b c)):=by
 have hfl:∀j,(c8 b (c.take j)).length≤j:=fun j=>by
  unfold c8;rw [List.length_map];refine Nat.le_trans (List.length_filter_le _ _) ?_;rw [List.length_take];omega
 refine Fun.of (jF (by simp) ?_) rfl rfl
 conv=>whnf
 conv=>whnf
 skip;refine aw.by (fb:=true) (fun _ (j:Nat)=>⟨[(0,.sl .no (b.map Bnd.av)),(1,.sl .no (c.map Bnd.av)),(5,.sl (.own 1) ((c8 b (c.take j)).map c7)),(6,.int .i64 (j:Int))],[],0⟩) (fun j=>j≤c.length) (fun j=>c.length-j) 0 (Nat.zero_le _) ?_ ?_
 ·rw [show c8 b (c.take 0)=[] from rfl];refine ah.at_ ?_ rfl
  conv=>whnf
  refine And.intro ?_ ?_<;>conv=>whnf
  all_goals repeat' ((first|(refine gV ?_;first|refine vE ?_|refine vI ?_|((refine gK ?_;refine vD ?_ ?_);(focus (simp [AV.norm,AV.aD,];done))))|exact True.intro)<;>conv=>whnf)
 ·rintro j q1;have hfj:=hfl j
  by_cases hj:j<c.length
  ·obtain ⟨x,hx⟩:∃x,c[j]?=some x:=⟨_,List.getElem?_eq_getElem hj⟩;have hl:=pa b x.v
   have hstep:c8 b (c.take (j+1))=c8 b (c.take j)++(if (aX b x.v).isNone then [x.v] else []):=by
    unfold c8;rw [List.take_add_one,hx,Option.toList_some,List.filter_append,List.map_append];congr 1;rw [List.filter_cons];split<;>rfl
   cases hk:aX b x.v with
   |none=>
    rw [hk,pb] at hl;rw [hk] at hstep
    conv=>whnf
    repeat' ((first|(refine gF ?_;refine ab.fn (hl) ?_)|(refine gC ?_;first|refine cN ?_|refine .not ?_|(refine gD ?_;refine cI ?_))|(refine gW ?_;refine wI ?_)|(refine gL ?_;refine .map ?_)|(refine gN ?_;refine nS ?_)|(refine gI ?_;(refine gM ?_;refine iE ?_)))<;>conv=>whnf)
    refine ⟨j+1,⟨hj,by omega⟩,?_⟩
    rw [hstep];refine ah.lay [] oko ?_
    conv=>whnf
    refine ah.at_ ?_ rfl
    conv=>whnf
    refine And.intro ?_ ?_<;>conv=>whnf
    all_goals repeat' ((first|(refine gV ?_;first|refine vE ?_|refine vI ?_|(refine WkN.sl ?_ ?_;(focus (simp [AV.norm,AV.aD,List.map_append,c7];done))))|exact True.intro)<;>conv=>whnf)
   |some y=>
    rw [hk,pb] at hl;rw [hk] at hstep
    conv=>whnf
    repeat' ((first|(refine gF ?_;refine ab.fn (hl) ?_)|(refine gC ?_;first|refine cY ?_|refine .not ?_|(refine gD ?_;refine cI ?_))|(refine gW ?_;refine wI ?_)|(refine gL ?_;refine .map ?_)|(refine gI ?_;(refine gM ?_;refine iE ?_)))<;>conv=>whnf)
    refine ⟨j+1,⟨hj,by omega⟩,?_⟩
    rw [hstep];refine ah.lay [] oko ?_
    conv=>whnf
    refine ah.at_ ?_ rfl
    conv=>whnf
    refine And.intro ?_ ?_<;>conv=>whnf
    all_goals repeat' ((first|(refine gV ?_;first|refine vE ?_|refine vI ?_|(refine WkN.sl ?_ ?_;(focus (simp [AV.norm,AV.aD,];done))))|exact True.intro)<;>conv=>whnf)
  ·obtain rfl:j=c.length:=by omega
   rw [List.take_length]
   conv=>whnf
   repeat' ((first|(refine gC ?_;(refine gD ?_;refine cJ ?_))|(refine gL ?_;refine .map ?_)|refine af.nrm ?_)<;>conv=>whnf)
   all_goals rfl
end Go.CK
namespace Go.CK
open Go.AM Go.Proofs
def lj (c:List Bnd) (l:List Int) (e:Int):AV:=.tup [.sl .no (c.map Bnd.av),.sl .no (l.map c7),.int .i64 e]
theorem Be {b:List Bnd} {k0 k:Nat} {v:Int} (h0:k0≤k) (hk:k≤b.length) (h1:∀(i:Nat) (y:Bnd),k0≤i->i<k->b[i]?=some y->y.v<v) (h2:∀y,b[k]?=some y->¬y.v<v):(b.drop k0).dropWhile (fun y=>decide (y.v<v))=b.drop k:=by
 obtain ⟨n,hn⟩:∃n,n=k-k0:=⟨_,rfl⟩
 induction n generalizing k0 with
 |zero=>
  obtain rfl:k0=k:=by omega
  by_cases hlt:k0<b.length
  ·rw [List.drop_eq_getElem_cons hlt,List.dropWhile_cons,if_neg];have:=h2 _ (List.getElem?_eq_getElem hlt);simpa using this
  ·rw [List.drop_of_length_le (by omega)];rfl
 |succ n ih=>
  have hlt:k0<b.length:=by omega
  rw [List.drop_eq_getElem_cons hlt,List.dropWhile_cons,if_pos]
  ·exact ih (by omega) (fun i y a1 a2=>h1 i y (by omega) a2) (by omega)
  ·exact decide_eq_true (h1 k0 _ (Nat.le_refl _) (by omega) (List.getElem?_eq_getElem hlt))
set_option maxHeartbeats 4000000 in
set_option maxRecDepth 100000 in
theorem Jk {b:List Bnd} {s t:Tm} (hb:∀x∈b,x.t.vs.length≤100000) (hv:bk b s t=false):Fun Tryz.prog 14 [.sl .no (b.map Bnd.av),s.avw,t.avw] (lj [] [] 2):=by
 have hva:=nT (s:=s) (t:=t) hb;rw [hv] at hva;refine Fun.of (jS (by simp) ?_) rfl rfl
 conv=>whnf
 conv=>whnf
 repeat' ((first|(refine gF ?_;refine ab.fn (hva) ?_)|(refine gC ?_;first|refine cN ?_|refine .not ?_))<;>conv=>whnf)
 refine af.lay [] oko ?_
 conv=>whnf
 conv=>whnf
 repeat' (refine af.nrm ?_<;>conv=>whnf)
 all_goals rfl
set_option maxHeartbeats 8000000 in
set_option maxRecDepth 100000 in
theorem tb {b c:List Bnd} {s t:Tm} {e:Int} (hb:∀x∈b,x.t.vs.length≤100000) (hv:bk b s t=true) (h:wH fN fF (a8 b++[s]) (aH b++[t])=some (c,e)) (hN:Tm.ai (a8 b++[s])+Tm.ai (aH b++[t])≤300000000) (hbl:b.length≤300000000) (hcl:c.length≤300000000):Fun Tryz.prog 14 [.sl .no (b.map Bnd.av),s.avw,t.avw] (if e=0 then lj c (mD b c) 0 else lj [] [] e):=by
 have hva:=nT (s:=s) (t:=t) hb;rw [hv] at hva;have hso:=wS h hN hbl
 by_cases he:e=0
 rotate_left
 ·rw [if_neg he];refine Fun.of (jS (by simp) ?_) rfl rfl
  conv=>whnf
  conv=>whnf
  repeat' ((first|(refine gF ?_;first|refine ab.fn (hva) ?_|refine ab.fn (hso) ?_)|(refine gC ?_;first|refine cY ?_|refine .not ?_|(refine gD ?_;refine cJ ?_)))<;>conv=>whnf)
  refine af.lay [] oko ?_
  conv=>whnf
  conv=>whnf
  repeat' (refine af.nrm ?_<;>conv=>whnf)
  all_goals rfl
 ·rw [if_pos he];subst he;refine Fun.of (jS (by simp) ?_) rfl rfl
  conv=>whnf
  conv=>whnf
  repeat' ((first|(refine gF ?_;first|refine ab.fn (hva) ?_|refine ab.fn (hso) ?_)|(refine gC ?_;first|refine cY ?_|refine .not ?_|(refine gD ?_;refine cI ?_))|(refine gL ?_;refine .map ?_))<;>conv=>whnf)
  refine aw.by (fb:=true) (fun _ (q:Nat×Nat×List Int)=>⟨[(0,.sl .no (b.map Bnd.av)),(6,.sl .no (c.map Bnd.av)),(7,.sl (.own 1) (q.2.2.map c7)),(9,.int .i64 (q.2.1:Int)),(28,.sl .no (c.map Bnd.av)),(29,.int .i64 (c.length:Int)),(30,.int .i64 (q.1:Int))],[],0⟩) (fun q=>q.1≤c.length∧q.2.1≤b.length∧q.2.2++mD (b.drop q.2.1) (c.drop q.1)=mD b c∧q.2.2.length≤q.1) (fun q=>c.length-q.1) (0,0,[]) ⟨Nat.zero_le _,Nat.zero_le _,rfl,Nat.le_refl _⟩ ?_ ?_
  ·refine ah.lay [] oko ?_
   conv=>whnf
   refine ah.at_ ?_ rfl
   conv=>whnf
   refine And.intro ?_ ?_<;>conv=>whnf
   all_goals repeat' ((first|(refine gV ?_;first|refine vE ?_|refine vI ?_|((refine gK ?_;refine vD ?_ ?_);(focus (simp [AV.norm,AV.aD,];done)))|(refine WkN.norm ?_ ?_;(focus (simp [AV.norm,AV.aD,];done))))|exact True.intro)<;>conv=>whnf)
  ·rintro ⟨j,k0,acc⟩ ⟨q1,q2,q3,q4⟩;dsimp only at q1 q2 q3 q4⊢
   by_cases hj:j<c.length
   ·obtain ⟨x,hx⟩:∃x,c[j]?=some x:=⟨_,List.getElem?_eq_getElem hj⟩;rw [List.drop_eq_getElem_cons hj,(List.getElem?_eq_some_iff.1 hx).2,mD] at q3
    conv=>whnf
    repeat' ((first|(refine gC ?_;(refine gD ?_;refine cI ?_))|(refine gI ?_;(refine gM ?_;refine iE ?_)))<;>conv=>whnf)
    refine aw.by (fb:=true) (fun _ (k:Nat)=>⟨[(0,.sl .no (b.map Bnd.av)),(6,.sl .no (c.map Bnd.av)),(7,.sl (.own 1) (acc.map c7)),(9,.int .i64 (k:Int)),(11,.ptr 0 0),(28,.sl .no (c.map Bnd.av)),(29,.int .i64 (c.length:Int)),(30,.int .i64 (j:Int))],[.cells [.int .i64 x.v,.int .i64 x.t.kind,.int .i64 x.t.num,.str x.t.name,.sl .no (x.t.args.map Tm.av)]],0⟩) (fun k=>k0≤k∧k≤b.length∧∀(i:Nat) (y:Bnd),k0≤i->i<k->b[i]?=some y->y.v<x.v) (fun k=>b.length-k) k0 ⟨Nat.le_refl _,q2,fun i y h1 h2=>by omega⟩ ?_ ?_
    ·exact au
    ·rintro k ⟨h0,h1,h2⟩
     by_cases hk:k<b.length
     ·obtain ⟨y,hy⟩:∃y,b[k]?=some y:=⟨_,List.getElem?_eq_getElem hk⟩
      by_cases hlt:y.v<x.v
      ·conv=>whnf
       repeat' ((first|(refine gC ?_;(refine gD ?_;refine cI ?_))|(refine gW ?_;refine wI ?_)|(refine gL ?_;refine .map ?_)|(refine gI ?_;(refine gM ?_;refine iE ?_)))<;>conv=>whnf)
       refine ⟨k+1,⟨⟨by omega,hk,fun i z a1 a2 hz=>?_⟩,by omega⟩,?_⟩
       ·by_cases e:i=k
        ·subst e;rw [hy] at hz;cases hz;exact hlt
        ·exact h2 i z a1 (by omega) hz
       exact au
      ·rw [Be h0 h1 h2 (fun z hz=>by rw [hy] at hz;cases hz;exact hlt),List.drop_eq_getElem_cons hk,(List.getElem?_eq_some_iff.1 hy).2] at q3
       simp only at q3;rw [←(List.getElem?_eq_some_iff.1 hy).2,←List.drop_eq_getElem_cons hk] at q3;rw [(List.getElem?_eq_some_iff.1 hy).2] at q3
       by_cases hyx:y.v=x.v
       ·rw [if_pos hyx] at q3
        conv=>whnf
        repeat' ((first|(refine gC ?_;first|refine .not ?_|(refine gD ?_;first|refine cI ?_|refine cJ ?_))|(refine gW ?_;refine wI ?_)|(refine gL ?_;refine .map ?_)|(refine gI ?_;(refine gM ?_;refine iE ?_)))<;>conv=>whnf)
        refine ⟨(j+1,k,acc),⟨⟨hj,h1,q3,by show acc.length≤j+1;omega⟩,by show _-(j+1)<_-j;omega⟩,?_⟩
        refine ah.lay [] oko ?_
        conv=>whnf
        exact au
       ·rw [if_neg hyx] at q3
        conv=>whnf
        repeat' ((first|(refine gC ?_;first|refine .not ?_|(refine gD ?_;first|refine cI ?_|refine cJ ?_))|(refine gW ?_;refine wI ?_)|(refine gL ?_;refine .map ?_)|(refine gN ?_;refine nS ?_)|(refine gI ?_;(refine gM ?_;refine iE ?_)))<;>conv=>whnf)
        refine ⟨(j+1,k,acc++[x.v]),⟨⟨hj,h1,by rw [List.append_assoc];exact q3,by show (acc++[x.v]).length≤j+1;rw [List.length_append,List.length_singleton];omega⟩,by show _-(j+1)<_-j;omega⟩,?_⟩
        dsimp only;rw [List.map_append];refine ah.lay [] oko ?_
        conv=>whnf
        refine ah.at_ ?_ rfl
        conv=>whnf
        refine And.intro ?_ ?_<;>conv=>whnf
        all_goals repeat' ((first|(refine gV ?_;first|refine vE ?_|refine vI ?_|(refine WkN.sl ?_ ?_;(focus (simp [AV.norm,AV.aD,c7];done))))|exact True.intro)<;>conv=>whnf)
     ·obtain rfl:k=b.length:=by omega
      rw [Be h0 h1 h2 (fun z hz=>by simp at hz),List.drop_length] at q3
      simp only at q3
      conv=>whnf
      repeat' ((first|(refine gC ?_;first|refine cY ?_|refine cN ?_|(refine gD ?_;first|refine cI ?_|refine cJ ?_))|(refine gW ?_;refine wI ?_)|(refine gL ?_;refine .map ?_)|(refine gN ?_;refine nS ?_))<;>conv=>whnf)
      refine ⟨(j+1,b.length,acc++[x.v]),⟨⟨hj,Nat.le_refl _,by rw [List.append_assoc,List.drop_length];exact q3,by show (acc++[x.v]).length≤j+1;rw [List.length_append,List.length_singleton];omega⟩,by show _-(j+1)<_-j;omega⟩,?_⟩
      dsimp only;rw [List.map_append];refine ah.lay [] oko ?_
      conv=>whnf
      refine ah.at_ ?_ rfl
      conv=>whnf
      refine And.intro ?_ ?_<;>conv=>whnf
      all_goals repeat' ((first|(refine gV ?_;first|refine vE ?_|refine vI ?_|(refine WkN.sl ?_ ?_;(focus (simp [AV.norm,AV.aD,c7];done))))|exact True.intro)<;>conv=>whnf)
   ·obtain rfl:j=c.length:=by omega
    rw [List.drop_length,mD,List.append_nil] at q3;subst q3
    conv=>whnf
    repeat' ((refine gC ?_;(refine gD ?_;refine cJ ?_))<;>conv=>whnf)
    refine af.lay [] oko ?_
    conv=>whnf
    conv=>whnf
    repeat' (refine af.nrm ?_<;>conv=>whnf)
    all_goals rfl
end Go.CK
