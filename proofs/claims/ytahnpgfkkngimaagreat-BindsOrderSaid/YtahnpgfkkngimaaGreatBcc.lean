/-
  Texts of this aQ joined (wip/gen/bundle.py),those declarations only that are needed:SbB BnA BnB BnC BnD ArithM EvalM ArmA. By an AI agent.
-/
import Derived.Test.YtahnpgfkkngimaaGreatBcb
import Derived.Test.YtahnpgfkkngimaaGreatBca
set_option linter.unusedSimpArgs false
set_option linter.unusedVariables false
namespace Go.CK
open Go.AM Go.Proofs
def uA (_:Unit):AV:=.agg []
def kbs (b:List Bnd):List (Int×Unit):=b.foldl (fun m x=>pt m x.v ()) []
theorem Ha (b:List Bnd) (x:Bnd):mpE uA (kbs (b++[x]))=fw (mpE uA (kbs b)) x.v (.agg []):=by
 unfold kbs;rw [List.foldl_append];exact (kQ uA _ _ ()).symm
theorem AK:∀(b:List Bnd) (m:List (Int×Unit)) (v:Int),lk (b.foldl (fun m x=>pt m x.v ()) m) v=none↔(lk m v=none∧∀x∈b,x.v≠v)
 |[],m,v=>by simp
 |y::b,m,v=>by
  rw [List.foldl_cons,AK b (pt m y.v ()) v,dC];constructor
  ·rintro ⟨h1,h2⟩;split at h1
   ·cases h1
   ·rename_i hv
    exact ⟨h1,fun x hx=>by
     rcases List.mem_cons.1 hx with rfl|hx
     ·exact fun e=>hv e.symm
     ·exact h2 x hx⟩
  ·rintro ⟨h1,h2⟩;rw [if_neg (fun e=>h2 y (List.mem_cons_self ..) e.symm)];exact ⟨h1,fun x hx=>h2 x (List.mem_cons_of_mem _ hx)⟩
theorem Kp (b:List Bnd) (v:Int):lk (kbs b) v=none↔(aX b v).isNone=true:=by
 unfold kbs;rw [AK,n3];simp [lk]
set_option maxHeartbeats 4000000 in
set_option maxRecDepth 100000 in
theorem ED (b:List Bnd) (hb:∀x∈b,x.t.vs.length≤100000):Fun Tryz.prog 79 [.sl .no (b.map Bnd.av)] (.bool (cL b)):=by
 refine Fun.of (Sem.assume fun hg0 _=>?_) rfl rfl;have hg:=(bH (hg0 (.sl .no (b.map Bnd.av)) (by simp) rfl)).1
 refine tP (by simp) ?_
 conv=>whnf
 repeat' ((refine gL ?_;refine .map ?_)<;>conv=>whnf)
 refine aw.by (fb:=true) (fun _ (j:Nat)=>⟨[(0,.sl .no (b.map Bnd.av)),(3,.mpt 0),(15,.sl .no (b.map Bnd.av)),(16,.int .i64 (b.length:Int)),(17,.int .i64 (j:Int))],[.mp (mpE uA (kbs (b.take j)))],0⟩) (fun j=>j≤b.length∧mF (jD b j) (b.drop j)=mF none b) (fun j=>b.length-j) 0 ⟨Nat.zero_le _,rfl⟩ ?_ ?_
 ·refine ah.at_ ?_ rfl
  conv=>whnf
  refine And.intro ?_ ?_<;>conv=>whnf
  all_goals repeat' ((first|(refine gV ?_;first|refine vE ?_|refine vI ?_)|(refine gX ?_;(refine BxN.mk ?_ ?_;(focus (simp [AV.norm,AV.aD,kbs,mpE];done))))|exact True.intro)<;>conv=>whnf)
 ·rintro j ⟨q1,q2⟩
  by_cases hj:j<b.length
  ·obtain ⟨x,hx⟩:∃x,b[j]? =some x:=⟨_,List.getElem?_eq_getElem hj⟩;rw [List.drop_eq_getElem_cons hj,(List.getElem?_eq_some_iff.1 hx).2,mF] at q2;have hnext:jD b (j+1)=some x.v:=by simp only [jD,hx,Option.map_some]
   have htk:b.take (j+1)=b.take j++[x]:=by rw [List.take_add_one,hx];rfl
   have hsn:=Ha (b.take j) x;have hr:=fP x.t;have hfalse:∀{z:Bool},z=mF none b->z=false->false=cL b:=fun h1 h2=>by unfold cL;rw [←h1,h2];rfl
   by_cases h1:0≤x.v∧x.v≤1048576
   rotate_left
   ·rw [decide_eq_false h1,Bool.false_and] at q2;have hq:=hfalse q2 rfl;rw [←hq]
    by_cases h2:0≤x.v
    ·have h3:¬x.v≤1048576:=fun e=>h1 ⟨h2,e⟩
     conv=>whnf
     repeat' ((first|(refine gC ?_;first|refine cY ?_|(refine gD ?_;first|refine cI ?_|refine cJ ?_))|(refine gI ?_;(refine gM ?_;refine iE ?_)))<;>conv=>whnf)
     refine af.lay [] oko ?_
     conv=>whnf
     conv=>whnf
     repeat' (refine af.nrm ?_<;>conv=>whnf)
     all_goals rfl
    ·conv=>whnf
     repeat' ((first|(refine gC ?_;first|refine cY ?_|(refine gD ?_;refine cI ?_))|(refine gI ?_;(refine gM ?_;refine iE ?_)))<;>conv=>whnf)
     refine af.lay [] oko ?_
     conv=>whnf
     conv=>whnf
     repeat' (refine af.nrm ?_<;>conv=>whnf)
     all_goals rfl
   rw [decide_eq_true h1,Bool.true_and] at q2;obtain ⟨h2,h3⟩:=h1
   cases j with
   |zero=>
    simp only [jD,tK,Bool.true_and] at q2
    cases hxr:x.t.right with
    |false=>
     rw [hxr] at hr q2;have hq:=hfalse q2 rfl;rw [←hq]
     conv=>whnf
     repeat' ((first|(refine gG ?_;refine aM.fn (hr) ?_)|(refine gC ?_;first|refine cN ?_|refine .not ?_|(refine gD ?_;first|refine cI ?_|refine cJ ?_))|(refine gI ?_;(refine gM ?_;refine iE ?_)))<;>conv=>whnf)
     refine af.lay [] oko ?_
     conv=>whnf
     conv=>whnf
     repeat' (refine af.nrm ?_<;>conv=>whnf)
     all_goals rfl
    |true=>
     rw [hxr,Bool.true_and] at q2;rw [hxr] at hr
     conv=>whnf
     repeat' ((first|(refine gG ?_;refine aM.fn (hr) ?_)|(refine gC ?_;first|refine cY ?_|refine cN ?_|refine .not ?_|(refine gD ?_;first|refine cI ?_|refine cJ ?_))|(refine gW ?_;refine wI ?_)|(refine gN ?_;refine nS ?_)|(refine gI ?_;(refine gM ?_;refine iE ?_))|(refine gMp ?_;refine mA ?_))<;>conv=>whnf)
     refine ⟨0+1,⟨⟨hj,by rw [hnext];exact q2⟩,by omega⟩,?_⟩
     rw [htk,hsn];refine ah.lay [some 0] oko ?_
     conv=>whnf
     refine ah.at_ ?_ rfl
     conv=>whnf
     refine And.intro ?_ ?_<;>conv=>whnf
     all_goals repeat' ((first|(refine gV ?_;first|refine vE ?_|refine vI ?_)|exact True.intro)<;>conv=>whnf)
     exact .mk rfl trivial
   |succ j=>
    obtain ⟨y,hy⟩:∃y,b[j]? =some y:=⟨_,List.getElem?_eq_getElem (by omega)⟩
    have hy2:b[((((j+1:Nat):Int))-1).toNat]? =some y:=by rw [show ((((j+1:Nat):Int))-1).toNat=j by omega];exact hy
    simp only [jD,hy,Option.map_some,tK] at q2
    by_cases h4:y.v<x.v
    rotate_left
    ·rw [decide_eq_false h4,Bool.false_and] at q2;have hq:=hfalse q2 rfl;rw [←hq]
     conv=>whnf
     repeat' ((first|(refine gC ?_;first|refine cY ?_|(refine gD ?_;first|refine cI ?_|refine cJ ?_))|(refine gW ?_;refine wI ?_)|(refine gI ?_;(refine gM ?_;first|refine iE ?_|refine iF ?_)))<;>conv=>whnf)
     refine af.lay [] oko ?_
     conv=>whnf
     conv=>whnf
     repeat' (refine af.nrm ?_<;>conv=>whnf)
     all_goals rfl
    ·rw [decide_eq_true h4,Bool.true_and] at q2
     cases hxr:x.t.right with
     |false=>
      rw [hxr] at hr q2;have hq:=hfalse q2 rfl;rw [←hq]
      conv=>whnf
      repeat' ((first|(refine gG ?_;refine aM.fn (hr) ?_)|(refine gC ?_;first|refine cN ?_|refine .not ?_|(refine gD ?_;first|refine cI ?_|refine cJ ?_))|(refine gW ?_;refine wI ?_)|(refine gI ?_;(refine gM ?_;first|refine iE ?_|refine iF ?_)))<;>conv=>whnf)
      refine af.lay [] oko ?_
      conv=>whnf
      conv=>whnf
      repeat' (refine af.nrm ?_<;>conv=>whnf)
      all_goals rfl
     |true=>
      rw [hxr,Bool.true_and] at q2;rw [hxr] at hr
      conv=>whnf
      repeat' ((first|(refine gG ?_;refine aM.fn (hr) ?_)|(refine gC ?_;first|refine cY ?_|refine .not ?_|(refine gD ?_;first|refine cI ?_|refine cJ ?_))|(refine gW ?_;refine wI ?_)|(refine gN ?_;refine nS ?_)|(refine gI ?_;(refine gM ?_;first|refine iE ?_|refine iF ?_))|(refine gMp ?_;refine mA ?_))<;>conv=>whnf)
      refine ⟨j+1+1,⟨⟨hj,by rw [hnext];exact q2⟩,by omega⟩,?_⟩
      rw [htk,hsn];refine ah.lay [some 0] oko ?_
      conv=>whnf
      refine ah.at_ ?_ rfl
      conv=>whnf
      refine And.intro ?_ ?_<;>conv=>whnf
      all_goals repeat' ((first|(refine gV ?_;first|refine vE ?_|refine vI ?_)|exact True.intro)<;>conv=>whnf)
      exact .mk rfl trivial
  ·obtain rfl:j=b.length:=by omega
   rw [List.drop_length,mF] at q2;have he:cL b=b.all fun x=>mg b x.t:=by unfold cL;rw [←q2,Bool.true_and]
   rw [he,List.take_length]
   conv=>whnf
   repeat' ((first|(refine gC ?_;(refine gD ?_;refine cJ ?_))|(refine gL ?_;refine .map ?_))<;>conv=>whnf)
   refine aw.by (fb:=true) (fun _ (j:Nat)=>⟨[(3,.mpt 0),(56,.sl .no (b.map Bnd.av)),(57,.int .i64 (b.length:Int)),(58,.int .i64 (j:Int))],[.mp (mpE uA (kbs b))],0⟩) (fun j=>j≤b.length∧((b.drop j).all fun x=>mg b x.t)=b.all fun x=>mg b x.t) (fun j=>b.length-j) 0 ⟨Nat.zero_le _,rfl⟩ ?_ ?_
   ·exact au
   ·rintro j ⟨p1,p2⟩
    by_cases hj:j<b.length
    ·obtain ⟨x,hx⟩:∃x,b[j]? =some x:=⟨_,List.getElem?_eq_getElem hj⟩;rw [List.drop_eq_getElem_cons hj,(List.getElem?_eq_some_iff.1 hx).2,List.all_cons] at p2;have hv:=Ic (hb x (List.mem_of_getElem? hx));have hL:=uN x.t.vs;have hL2:=hb x (List.mem_of_getElem? hx);generalize hfl:dL x.t.vs=L at hv hL;have hfree:mg b x.t=L.all fun v=>(aX b v).isNone:=by unfold mg;rw [hfl]
     rw [hfree] at p2
     conv=>whnf
     repeat' ((first|(refine gF ?_;refine ab.fn (hv) ?_)|(refine gC ?_;(refine gD ?_;refine cI ?_))|(refine gL ?_;refine .map ?_)|(refine gI ?_;(refine gM ?_;refine iE ?_)))<;>conv=>whnf)
     refine aw.by (fb:=true) (fun _ (i:Nat)=>⟨[(3,.mpt 0),(56,.sl .no (b.map Bnd.av)),(57,.int .i64 (b.length:Int)),(58,.int .i64 (j:Int)),(64,.sl .no (L.map c7)),(65,.int .i64 (L.length:Int)),(66,.int .i64 (i:Int))],[.mp (mpE uA (kbs b))],0⟩) (fun i=>i≤L.length∧((L.drop i).all fun v=>(aX b v).isNone)=L.all fun v=>(aX b v).isNone) (fun i=>L.length-i) 0 ⟨Nat.zero_le _,rfl⟩ ?_ ?_
     ·refine ah.lay [some 0] oko ?_
      conv=>whnf
      exact au
     ·rintro i ⟨r1,r2⟩
      by_cases hi:i<L.length
      ·obtain ⟨v,hv1⟩:∃v,L[i]? =some v:=⟨_,List.getElem?_eq_getElem hi⟩;rw [List.drop_eq_getElem_cons hi,(List.getElem?_eq_some_iff.1 hv1).2,List.all_cons] at r2;have hk:=Kp b v
       cases hlv:lk (kbs b) v with
       |some u=>
        have hno:(aX b v).isNone=false:=by
         cases hq:(aX b v).isNone with
         |false=>rfl
         |true=>rw [hk.2 hq] at hlv;cases hlv
        rw [hno,Bool.false_and] at r2;rw [←r2,Bool.false_and] at p2;rw [←p2]
        conv=>whnf
        repeat' ((first|(refine gC ?_;first|refine cY ?_|(refine gD ?_;refine cI ?_))|(refine gI ?_;(refine gM ?_;refine iE ?_))|(refine gMp ?_;refine mA ?_)|(refine gMs ?_;refine mEs ?_))<;>conv=>whnf)
        refine af.lay [] oko ?_
        conv=>whnf
        conv=>whnf
        repeat' (refine af.nrm ?_<;>conv=>whnf)
        all_goals rfl
       |none=>
        rw [hk.1 hlv,Bool.true_and] at r2
        conv=>whnf
        repeat' ((first|(refine gC ?_;first|refine cN ?_|(refine gD ?_;refine cI ?_))|(refine gW ?_;refine wI ?_)|(refine gI ?_;(refine gM ?_;refine iE ?_))|(refine gMp ?_;refine mA ?_)|(refine gMs ?_;refine mEn ?_))<;>conv=>whnf)
        refine ⟨i+1,⟨⟨hi,r2⟩,by omega⟩,?_⟩
        refine ah.lay [some 0] oko ?_
        conv=>whnf
        exact au
      ·obtain rfl:i=L.length:=by omega
       rw [List.drop_length,List.all_nil] at r2;rw [←r2,Bool.true_and] at p2
       conv=>whnf
       repeat' ((first|(refine gC ?_;(refine gD ?_;refine cJ ?_))|(refine gW ?_;refine wI ?_))<;>conv=>whnf)
       refine ⟨j+1,⟨⟨hj,p2⟩,by omega⟩,?_⟩
       exact au
    ·obtain rfl:j=b.length:=by omega
     rw [List.drop_length,List.all_nil] at p2;rw [←p2]
     conv=>whnf
     repeat' ((refine gC ?_;(refine gD ?_;refine cJ ?_))<;>conv=>whnf)
     refine af.lay [] oko ?_
     conv=>whnf
     conv=>whnf
     repeat' (refine af.nrm ?_<;>conv=>whnf)
     all_goals rfl
end Go.CK
namespace Go.CK
open Go.AM Go.Proofs
set_option maxRecDepth 100000 in
theorem J4 {l r:List Tm} {kl kr:Nat} {s t:Tm} (hl:l.length≤kl) (hr:r.length≤kr) (hl2:l.length≤4000000000) (hr2:r.length≤4000000000):AM.Sem Tryz.prog 80 [.ptr 0 0,s.avw,t.avw] [.cells [.bsl 1 (l.map some).length kl,.bsl 2 (r.map some).length kr],aL tmA 4 kl (l.map some),aL tmA 4 kr (r.map some)] fun q bs'=>q=.tup []∧∃kl' kr',(l++[s]).length≤kl'∧(r++[t]).length≤kr'∧bs'=[.cells [.bsl 3 ((l++[s]).map some).length kl',.bsl 4 ((r++[t]).map some).length kr'],.dead,.dead,aL tmA 4 kl' ((l++[s]).map some),aL tmA 4 kr' ((r++[t]).map some)]:=by
 have hml:(l.map some).length=l.length:=List.length_map ..;have hmr:(r.map some).length=r.length:=List.length_map ..;have e1:l.map some++[some s]=(l++[s]).map some:=by rw [List.map_append];rfl
 have e2:r.map some++[some t]=(r++[t]).map some:=by rw [List.map_append];rfl
 refine dw (by simp) ?_
 conv=>whnf
 skip;refine lh.one bp (l:=l.map some) (k:=kl) (x:=some s) rfl rfl (by omega) (by omega) fun k1 hk1=>?_
 conv=>whnf
 repeat' ((refine gPr ?_;refine pS ?_)<;>conv=>whnf)
 refine lh.one bp (l:=r.map some) (k:=kr) (x:=some t) rfl rfl (by omega) (by omega) fun k2 hk2=>?_
 conv=>whnf
 repeat' ((refine gPr ?_;refine pS ?_)<;>conv=>whnf)
 rw [e1] at hk1;rw [e2] at hk2;rw [e1,e2];refine af.lay [some 0,none,none,some 5,some 6] oko ?_
 conv=>whnf
 conv=>whnf
 repeat' (refine af.nrm ?_<;>conv=>whnf)
 exact ⟨rfl,k1,k2,by rw [List.length_map] at hk1;exact hk1,by rw [List.length_map] at hk2;exact hk2,rfl⟩
set_option maxRecDepth 100000 in
theorem Ci {l r:List Tm} {kl kr:Nat} {s t:Tm} (hl:l.length≤kl) (hr:r.length≤kr) (hl2:l.length≤4000000000) (hr2:r.length≤4000000000):AM.Sem Tryz.prog 80 [.ptr 0 0,s.avw,t.avw] [.cells [.bsl 1 (l.map some).length kl,.bsl 2 (r.map some).length kr],aL tmA 4 kl (l.map some),aL tmA 4 kr (r.map some)] fun q bs'=>q=.tup []∧bs'=[.cells [.sl .no ((l++[s]).map Tm.av),.sl .no ((r++[t]).map Tm.av)],.dead,.dead]:=by
 have hml:(l.map some).length=l.length:=List.length_map ..;have hmr:(r.map some).length=r.length:=List.length_map ..;have e1:l.map some++[some s]=(l++[s]).map some:=by rw [List.map_append];rfl
 have e2:r.map some++[some t]=(r++[t]).map some:=by rw [List.map_append];rfl
 refine dw (by simp) ?_
 conv=>whnf
 skip;refine lh.one bp (l:=l.map some) (k:=kl) (x:=some s) rfl rfl (by omega) (by omega) fun k1 hk1=>?_
 conv=>whnf
 repeat' ((refine gPr ?_;refine pS ?_)<;>conv=>whnf)
 refine lh.one bp (l:=r.map some) (k:=kr) (x:=some t) rfl rfl (by omega) (by omega) fun k2 hk2=>?_
 conv=>whnf
 repeat' ((refine gPr ?_;refine pS ?_)<;>conv=>whnf)
 rw [e1] at hk1;rw [e2] at hk2;rw [e1,e2];refine af.lay [some 0,none,none,some 5,some 6] oko ?_
 conv=>whnf
 refine af.bY bp 0 0 (b:=3) (l:=(l++[s]).map some) (k0:=k1) rfl rfl rfl (Nat.le_refl _) ?_;rw [List.take_length,j0]
 conv=>whnf
 refine af.bY bp 0 1 (b:=4) (l:=(r++[t]).map some) (k0:=k2) rfl rfl rfl (Nat.le_refl _) ?_;rw [List.take_length,j0]
 conv=>whnf
 refine af.lay [some 0,none,none] oko ?_
 conv=>whnf
 conv=>whnf
 repeat' (refine af.nrm ?_<;>conv=>whnf)
 exact ⟨rfl,rfl⟩
theorem uv {b:List Bnd} {j:Nat} {x:Bnd} (hx:b[j]? =some x):a8 (b.take (j+1))=a8 (b.take j)++[az x.v]∧aH (b.take (j+1))=aH (b.take j)++[x.t]:=by
 unfold a8 aH;rw [List.take_add_one,hx,Option.toList_some,List.map_append,List.map_append];exact ⟨rfl,rfl⟩
theorem xD (b:List Bnd):(a8 b).length=b.length∧(aH b).length=b.length:=⟨List.length_map ..,List.length_map ..⟩
set_option maxHeartbeats 2000000 in
set_option maxRecDepth 100000 in
theorem wS {b:List Bnd} {s t:Tm} {out:List Bnd} {e:Int} (h:wH fN fF (a8 b++[s]) (aH b++[t])=some (out,e)) (hN:Tm.ai (a8 b++[s])+Tm.ai (aH b++[t])≤300000000) (hb:b.length≤300000000):Fun Tryz.prog 41 [.sl .no (b.map Bnd.av),s.avw,t.avw] (.tup [.sl .no (out.map Bnd.av),.int .i64 e]):=by
 have hall:=KN h hN;refine Fun.of (tS (by simp) ?_) rfl rfl
 conv=>whnf
 conv=>whnf
 repeat' ((refine gL ?_;refine .map ?_)<;>conv=>whnf)
 refine aw.by (fb:=true) (fun _ (q:Nat×Nat×Nat)=>⟨[(4,.ptr 0 0),(5,.ptr 1 0),(8,.ptr 2 0),(9,.fn (.func 80) [.ptr 2 0] []),(13,.sl .no (b.map Bnd.av)),(14,.int .i64 (b.length:Int)),(15,.int .i64 (q.1:Int))],[.cells [.int .i64 s.kind,.int .i64 s.num,.str s.name,.sl .no (s.args.map Tm.av)],.cells [.int .i64 t.kind,.int .i64 t.num,.str t.name,.sl .no (t.args.map Tm.av)],.cells [.bsl 3 ((a8 (b.take q.1)).map some).length q.2.1,.bsl 4 ((aH (b.take q.1)).map some).length q.2.2],aL tmA 4 q.2.1 ((a8 (b.take q.1)).map some),aL tmA 4 q.2.2 ((aH (b.take q.1)).map some)],0⟩) (fun q=>q.1≤b.length∧(a8 (b.take q.1)).length≤q.2.1∧(aH (b.take q.1)).length≤q.2.2) (fun q=>b.length-q.1) (0,0,0) ⟨Nat.zero_le _,Nat.le_refl _,Nat.le_refl _⟩ ?_ ?_
 ·refine ah.cx (.bx 2 0) rfl rfl ?_
  conv=>whnf
  refine ah.cx (.bx 2 1) rfl rfl ?_
  conv=>whnf
  refine ah.lay [some 0,some 1,some 2,some 3,some 4] oko ?_
  conv=>whnf
  refine ah.at_ ?_ rfl
  conv=>whnf
  refine And.intro ?_ ?_<;>conv=>whnf
  all_goals repeat' ((first|(refine gV ?_;first|refine vE ?_|refine vI ?_)|(refine gX ?_;first|refine xB ?_|(refine BxN.mk ?_ ?_;(focus (simp [AV.norm,AV.aD,cellsOf,a8,aH];done))))|exact True.intro)<;>conv=>whnf)
 ·rintro ⟨j,kl,kr⟩ ⟨q1,q2,q3⟩;dsimp only at q1 q2 q3⊢;have hll:=xD (b.take j);rw [List.length_take] at hll
  by_cases hj:j<b.length
  ·obtain ⟨x,hx⟩:∃x,b[j]? =some x:=⟨_,List.getElem?_eq_getElem hj⟩;obtain ⟨t1,t2⟩:=uv hx;have hp:=J4 (s:=az x.v) (t:=x.t) q2 q3 (by omega) (by omega)
   rw [←t1,←t2] at hp
   conv=>whnf
   repeat' ((first|(refine gG ?_;refine aM.fn (oM _) ?_)|(refine gC ?_;(refine gD ?_;refine cI ?_))|(refine gI ?_;(refine gM ?_;refine iE ?_))|(refine gH ?_;refine hB ?_))<;>conv=>whnf)
   refine ab.at [2,3,4] hp rfl rfl ?_ oko ?_
   ·rintro r bs' ⟨rfl,k1,k2,_,_,rfl⟩;exact ⟨rfl,rfl,oko⟩
   rintro r bs' ⟨rfl,k1,k2,g1,g2,rfl⟩
   conv=>whnf
   repeat' ((refine gW ?_;refine wI ?_)<;>conv=>whnf)
   refine ⟨(j+1,k1,k2),⟨⟨hj,g1,g2⟩,by show _-(j+1)<_-j;omega⟩,?_⟩
   dsimp only;refine ah.lay [some 0,some 1,some 2,some 6,some 7] oko ?_
   conv=>whnf
   exact au
  ·obtain rfl:j=b.length:=by omega
   rw [List.take_length] at q2 q3 hll⊢;have hp:=Ci (s:=s) (t:=t) q2 q3 (by omega) (by omega)
   conv=>whnf
   repeat' ((first|(refine gC ?_;(refine gD ?_;refine cJ ?_))|(refine gH ?_;refine hB ?_))<;>conv=>whnf)
   refine ab.ate [2,3,4] hp rfl rfl ?_
   conv=>whnf
   repeat' ((refine gF ?_;refine ab.fn (hall) ?_)<;>conv=>whnf)
   refine af.lay [] oko ?_
   conv=>whnf
   conv=>whnf
   repeat' (refine af.nrm ?_<;>conv=>whnf)
   all_goals rfl
end Go.CK
namespace Go.CK
open Go.AM Go.Proofs
set_option maxRecDepth 100000 in
theorem Em {b:List Bnd} {s t:Tm} (hb:∀x∈b,x.t.vs.length≤100000):Fun Tryz.prog 40 [.sl .no (b.map Bnd.av),.sl .no ([s,t].map Tm.av)] (.bool (bk b s t)):=by
 have hs:=fP s;have ht:=fP t;have hr:=ED b hb;refine Fun.of (tR (by simp) ?_) rfl rfl
 conv=>whnf
 repeat' ((refine gL ?_;refine .map ?_)<;>conv=>whnf)
 refine aw.by (fb:=true) (fun _ (j:Nat)=>⟨[(0,.sl .no (b.map Bnd.av)),(7,.sl .no ([s,t].map Tm.av)),(8,.int .i64 2),(9,.int .i64 (j:Int))],[],0⟩) (fun j=>j≤2∧(1≤j->s.right=true)∧(2≤j->t.right=true)) (fun j=>2-j) 0 ⟨Nat.zero_le _,fun h=>absurd h (by omega),fun h=>absurd h (by omega)⟩ ?_ ?_
 ·refine ah.at_ ?_ rfl
  conv=>whnf
  refine And.intro ?_ ?_<;>conv=>whnf
  all_goals repeat' ((first|(refine gV ?_;first|refine vE ?_|refine vI ?_|(refine WkN.norm ?_ ?_;(focus (simp [AV.norm,AV.aD,];done))))|exact True.intro)<;>conv=>whnf)
 ·rintro j ⟨q1,q2,q3⟩;obtain rfl|rfl|rfl:j=0∨j=1∨j=2:=by omega
  ·have hx:([s,t]:List Tm)[0]? =some s:=rfl
   cases hsr:s.right with
   |false=>
    rw [hsr] at hs;have hv:bk b s t=false:=by unfold bk;rw [hsr];simp
    rw [hv]
    conv=>whnf
    repeat' ((first|(refine gF ?_;refine ab.fn (hs) ?_)|(refine gC ?_;first|refine cN ?_|refine .not ?_|(refine gD ?_;refine cI ?_))|(refine gI ?_;(refine gT ?_;refine iA ?_)))<;>conv=>whnf)
    refine af.lay [] oko ?_
    conv=>whnf
    conv=>whnf
    repeat' (refine af.nrm ?_<;>conv=>whnf)
   |true=>
    rw [hsr] at hs
    conv=>whnf
    repeat' ((first|(refine gF ?_;refine ab.fn (hs) ?_)|(refine gC ?_;first|refine cY ?_|refine .not ?_|(refine gD ?_;refine cI ?_))|(refine gW ?_;refine wI ?_)|(refine gI ?_;(refine gT ?_;refine iA ?_)))<;>conv=>whnf)
    refine ⟨1,⟨⟨by omega,fun _=>rfl,fun h=>absurd h (by omega)⟩,by omega⟩,?_⟩
    refine ah.lay [] oko ?_
    conv=>whnf
    exact au
  ·have hx:([s,t]:List Tm)[1]? =some t:=rfl
   cases htr:t.right with
   |false=>
    rw [htr] at ht;have hv:bk b s t=false:=by unfold bk;rw [htr];simp
    rw [hv]
    conv=>whnf
    repeat' ((first|(refine gF ?_;refine ab.fn (ht) ?_)|(refine gC ?_;first|refine cN ?_|refine .not ?_|(refine gD ?_;refine cI ?_))|(refine gI ?_;(refine gT ?_;refine iA ?_)))<;>conv=>whnf)
    refine af.lay [] oko ?_
    conv=>whnf
    conv=>whnf
    repeat' (refine af.nrm ?_<;>conv=>whnf)
   |true=>
    rw [htr] at ht
    conv=>whnf
    repeat' ((first|(refine gF ?_;refine ab.fn (ht) ?_)|(refine gC ?_;first|refine cY ?_|refine .not ?_|(refine gD ?_;refine cI ?_))|(refine gW ?_;refine wI ?_)|(refine gI ?_;(refine gT ?_;refine iA ?_)))<;>conv=>whnf)
    refine ⟨2,⟨⟨by omega,fun _=>q2 (by omega),fun _=>rfl⟩,by omega⟩,?_⟩
    refine ah.lay [] oko ?_
    conv=>whnf
    exact au
  ·have hv:bk b s t=cL b:=by unfold bk;rw [q2 (by omega),q3 (by omega)];simp
   rw [hv]
   conv=>whnf
   repeat' ((first|(refine gF ?_;refine ab.fn (hr) ?_)|(refine gC ?_;(refine gD ?_;refine cJ ?_))|refine af.nrm ?_)<;>conv=>whnf)
theorem nT {b:List Bnd} {s t:Tm} (hb:∀x∈b,x.t.vs.length≤100000):Fun Tryz.prog 40 [.sl .no (b.map Bnd.av),.sl .no [s.avw,t.avw]] (.bool (bk b s t)):=by
 have:=Em (s:=s) (t:=t) hb;simpa only [List.map_cons,List.map_nil,Tm.nK] using this
end Go.CK
namespace Go.CK
open Go.AM Go.Proofs
def lj (c:List Bnd) (l:List Int) (e:Int):AV:=.tup [.sl .no (c.map Bnd.av),.sl .no (l.map c7),.int .i64 e]
theorem Be {b:List Bnd} {k0 k:Nat} {v:Int} (h0:k0≤k) (hk:k≤b.length) (h1:∀(i:Nat) (y:Bnd),k0≤i->i<k->b[i]? =some y->y.v<v) (h2:∀y,b[k]? =some y->¬y.v<v):(b.drop k0).dropWhile (fun y=>decide (y.v<v))=b.drop k:=by
 obtain ⟨n,hn⟩:∃n,n=k-k0:=⟨_,rfl⟩
 induction n generalizing k0 with
 |zero=>
  obtain rfl:k0=k:=by omega
  by_cases hlt:k0<b.length
  ·rw [List.drop_eq_getElem_cons hlt,List.dropWhile_cons,if_neg];have:=h2 _ (List.getElem?_eq_getElem hlt);simpa using this
  ·rw [List.drop_of_length_le (by omega)];rfl
 |succ n ih=>
  have hlt:k0<b.length:=by omega
  rw [List.drop_eq_getElem_cons hlt,List.dropWhile_cons,if_pos]
  ·exact ih (by omega) (fun i y a1 a2=>h1 i y (by omega) a2) (by omega)
  ·exact decide_eq_true (h1 k0 _ (Nat.le_refl _) (by omega) (List.getElem?_eq_getElem hlt))
set_option maxHeartbeats 4000000 in
set_option maxRecDepth 100000 in
theorem Jk {b:List Bnd} {s t:Tm} (hb:∀x∈b,x.t.vs.length≤100000) (hv:bk b s t=false):Fun Tryz.prog 14 [.sl .no (b.map Bnd.av),s.avw,t.avw] (lj [] [] 2):=by
 have hva:=nT (s:=s) (t:=t) hb;rw [hv] at hva;refine Fun.of (jS (by simp) ?_) rfl rfl
 conv=>whnf
 conv=>whnf
 repeat' ((first|(refine gF ?_;refine ab.fn (hva) ?_)|(refine gC ?_;first|refine cN ?_|refine .not ?_))<;>conv=>whnf)
 refine af.lay [] oko ?_
 conv=>whnf
 conv=>whnf
 repeat' (refine af.nrm ?_<;>conv=>whnf)
 all_goals rfl
set_option maxHeartbeats 8000000 in
set_option maxRecDepth 100000 in
theorem tb {b c:List Bnd} {s t:Tm} {e:Int} (hb:∀x∈b,x.t.vs.length≤100000) (hv:bk b s t=true) (h:wH fN fF (a8 b++[s]) (aH b++[t])=some (c,e)) (hN:Tm.ai (a8 b++[s])+Tm.ai (aH b++[t])≤300000000) (hbl:b.length≤300000000) (hcl:c.length≤300000000):Fun Tryz.prog 14 [.sl .no (b.map Bnd.av),s.avw,t.avw] (if e=0 then lj c (mD b c) 0 else lj [] [] e):=by
 have hva:=nT (s:=s) (t:=t) hb;rw [hv] at hva;have hso:=wS h hN hbl
 by_cases he:e=0
 rotate_left
 ·rw [if_neg he];refine Fun.of (jS (by simp) ?_) rfl rfl
  conv=>whnf
  conv=>whnf
  repeat' ((first|(refine gF ?_;first|refine ab.fn (hva) ?_|refine ab.fn (hso) ?_)|(refine gC ?_;first|refine cY ?_|refine .not ?_|(refine gD ?_;refine cJ ?_)))<;>conv=>whnf)
  refine af.lay [] oko ?_
  conv=>whnf
  conv=>whnf
  repeat' (refine af.nrm ?_<;>conv=>whnf)
  all_goals rfl
 ·rw [if_pos he];subst he;refine Fun.of (jS (by simp) ?_) rfl rfl
  conv=>whnf
  conv=>whnf
  repeat' ((first|(refine gF ?_;first|refine ab.fn (hva) ?_|refine ab.fn (hso) ?_)|(refine gC ?_;first|refine cY ?_|refine .not ?_|(refine gD ?_;refine cI ?_))|(refine gL ?_;refine .map ?_))<;>conv=>whnf)
  refine aw.by (fb:=true) (fun _ (q:Nat×Nat×List Int)=>⟨[(0,.sl .no (b.map Bnd.av)),(6,.sl .no (c.map Bnd.av)),(7,.sl (.own 1) (q.2.2.map c7)),(9,.int .i64 (q.2.1:Int)),(28,.sl .no (c.map Bnd.av)),(29,.int .i64 (c.length:Int)),(30,.int .i64 (q.1:Int))],[],0⟩) (fun q=>q.1≤c.length∧q.2.1≤b.length∧q.2.2++mD (b.drop q.2.1) (c.drop q.1)=mD b c∧q.2.2.length≤q.1) (fun q=>c.length-q.1) (0,0,[]) ⟨Nat.zero_le _,Nat.zero_le _,rfl,Nat.le_refl _⟩ ?_ ?_
  ·refine ah.lay [] oko ?_
   conv=>whnf
   refine ah.at_ ?_ rfl
   conv=>whnf
   refine And.intro ?_ ?_<;>conv=>whnf
   all_goals repeat' ((first|(refine gV ?_;first|refine vE ?_|refine vI ?_|((refine gK ?_;refine vD ?_ ?_);(focus (simp [AV.norm,AV.aD,];done)))|(refine WkN.norm ?_ ?_;(focus (simp [AV.norm,AV.aD,];done))))|exact True.intro)<;>conv=>whnf)
  ·rintro ⟨j,k0,acc⟩ ⟨q1,q2,q3,q4⟩;dsimp only at q1 q2 q3 q4⊢
   by_cases hj:j<c.length
   ·obtain ⟨x,hx⟩:∃x,c[j]? =some x:=⟨_,List.getElem?_eq_getElem hj⟩;rw [List.drop_eq_getElem_cons hj,(List.getElem?_eq_some_iff.1 hx).2,mD] at q3
    conv=>whnf
    repeat' ((first|(refine gC ?_;(refine gD ?_;refine cI ?_))|(refine gI ?_;(refine gM ?_;refine iE ?_)))<;>conv=>whnf)
    refine aw.by (fb:=true) (fun _ (k:Nat)=>⟨[(0,.sl .no (b.map Bnd.av)),(6,.sl .no (c.map Bnd.av)),(7,.sl (.own 1) (acc.map c7)),(9,.int .i64 (k:Int)),(11,.ptr 0 0),(28,.sl .no (c.map Bnd.av)),(29,.int .i64 (c.length:Int)),(30,.int .i64 (j:Int))],[.cells [.int .i64 x.v,.int .i64 x.t.kind,.int .i64 x.t.num,.str x.t.name,.sl .no (x.t.args.map Tm.av)]],0⟩) (fun k=>k0≤k∧k≤b.length∧∀(i:Nat) (y:Bnd),k0≤i->i<k->b[i]? =some y->y.v<x.v) (fun k=>b.length-k) k0 ⟨Nat.le_refl _,q2,fun i y h1 h2=>by omega⟩ ?_ ?_
    ·exact au
    ·rintro k ⟨h0,h1,h2⟩
     by_cases hk:k<b.length
     ·obtain ⟨y,hy⟩:∃y,b[k]? =some y:=⟨_,List.getElem?_eq_getElem hk⟩
      by_cases hlt:y.v<x.v
      ·conv=>whnf
       repeat' ((first|(refine gC ?_;(refine gD ?_;refine cI ?_))|(refine gW ?_;refine wI ?_)|(refine gL ?_;refine .map ?_)|(refine gI ?_;(refine gM ?_;refine iE ?_)))<;>conv=>whnf)
       refine ⟨k+1,⟨⟨by omega,hk,fun i z a1 a2 hz=>?_⟩,by omega⟩,?_⟩
       ·by_cases e:i=k
        ·subst e;rw [hy] at hz;cases hz;exact hlt
        ·exact h2 i z a1 (by omega) hz
       exact au
      ·rw [Be h0 h1 h2 (fun z hz=>by rw [hy] at hz;cases hz;exact hlt),List.drop_eq_getElem_cons hk,(List.getElem?_eq_some_iff.1 hy).2] at q3
       simp only at q3;rw [←(List.getElem?_eq_some_iff.1 hy).2,←List.drop_eq_getElem_cons hk] at q3;rw [(List.getElem?_eq_some_iff.1 hy).2] at q3
       by_cases hyx:y.v=x.v
       ·rw [if_pos hyx] at q3
        conv=>whnf
        repeat' ((first|(refine gC ?_;first|refine .not ?_|(refine gD ?_;first|refine cI ?_|refine cJ ?_))|(refine gW ?_;refine wI ?_)|(refine gL ?_;refine .map ?_)|(refine gI ?_;(refine gM ?_;refine iE ?_)))<;>conv=>whnf)
        refine ⟨(j+1,k,acc),⟨⟨hj,h1,q3,by show acc.length≤j+1;omega⟩,by show _-(j+1)<_-j;omega⟩,?_⟩
        refine ah.lay [] oko ?_
        conv=>whnf
        exact au
       ·rw [if_neg hyx] at q3
        conv=>whnf
        repeat' ((first|(refine gC ?_;first|refine .not ?_|(refine gD ?_;first|refine cI ?_|refine cJ ?_))|(refine gW ?_;refine wI ?_)|(refine gL ?_;refine .map ?_)|(refine gN ?_;refine nS ?_)|(refine gI ?_;(refine gM ?_;refine iE ?_)))<;>conv=>whnf)
        refine ⟨(j+1,k,acc++[x.v]),⟨⟨hj,h1,by rw [List.append_assoc];exact q3,by show (acc++[x.v]).length≤j+1;rw [List.length_append,List.length_singleton];omega⟩,by show _-(j+1)<_-j;omega⟩,?_⟩
        dsimp only;rw [List.map_append];refine ah.lay [] oko ?_
        conv=>whnf
        refine ah.at_ ?_ rfl
        conv=>whnf
        refine And.intro ?_ ?_<;>conv=>whnf
        all_goals repeat' ((first|(refine gV ?_;first|refine vE ?_|refine vI ?_|(refine WkN.sl ?_ ?_;(focus (simp [AV.norm,AV.aD,c7];done))))|exact True.intro)<;>conv=>whnf)
     ·obtain rfl:k=b.length:=by omega
      rw [Be h0 h1 h2 (fun z hz=>by simp at hz),List.drop_length] at q3
      simp only at q3
      conv=>whnf
      repeat' ((first|(refine gC ?_;first|refine cY ?_|refine cN ?_|(refine gD ?_;first|refine cI ?_|refine cJ ?_))|(refine gW ?_;refine wI ?_)|(refine gL ?_;refine .map ?_)|(refine gN ?_;refine nS ?_))<;>conv=>whnf)
      refine ⟨(j+1,b.length,acc++[x.v]),⟨⟨hj,Nat.le_refl _,by rw [List.append_assoc,List.drop_length];exact q3,by show (acc++[x.v]).length≤j+1;rw [List.length_append,List.length_singleton];omega⟩,by show _-(j+1)<_-j;omega⟩,?_⟩
      dsimp only;rw [List.map_append];refine ah.lay [] oko ?_
      conv=>whnf
      refine ah.at_ ?_ rfl
      conv=>whnf
      refine And.intro ?_ ?_<;>conv=>whnf
      all_goals repeat' ((first|(refine gV ?_;first|refine vE ?_|refine vI ?_|(refine WkN.sl ?_ ?_;(focus (simp [AV.norm,AV.aD,c7];done))))|exact True.intro)<;>conv=>whnf)
   ·obtain rfl:j=c.length:=by omega
    rw [List.drop_length,mD,List.append_nil] at q3;subst q3
    conv=>whnf
    repeat' ((refine gC ?_;(refine gD ?_;refine cJ ?_))<;>conv=>whnf)
    refine af.lay [] oko ?_
    conv=>whnf
    conv=>whnf
    repeat' (refine af.nrm ?_<;>conv=>whnf)
    all_goals rfl
end Go.CK
namespace Go.CK
open Go.AM Go.Proofs
theorem zz (a b:Tm):Fun Tryz.prog 46 [a.avw,b.avw] (.bool (decide (a.cmp b=0))):=by
 refine Fun.of (yO (by simp) ?_) rfl rfl
 conv=>whnf
 conv=>whnf
 repeat' ((first|(refine gF ?_;refine ab.fn (Df a b) ?_)|refine af.nrm ?_)<;>conv=>whnf)
def fI (b:List Bnd) (s t:Tm) (e:Int):Int:=if bk b s t=true then (if (cR b s).cmp (cR b t)=0 then 1 else if e=13 then 2 else 0) else 0
structure TS (b:List Bnd) (s t:Tm):Prop where
 hb:∀x∈b,x.t.nodes≤1000000∧x.t.vs.length≤100000
 hs:s.nodes≤1000000
 ht:t.nodes≤1000000
 hl:b.length≤2000000
 hN:Tm.ai (a8 b++[s])+Tm.ai (aH b++[t])≤300000000
theorem nc (l:List Tm) (x:Tm):Tm.ai (x::l)=Tm.ai (l++[x]):=by
 induction l with
 |nil=>rfl
 |cons y l ih=>simp only [List.cons_append,Tm.ai] at ih⊢;omega
set_option maxHeartbeats 4000000 in
set_option maxRecDepth 100000 in
theorem nQ {b c:List Bnd} {s t:Tm} {e:Int} (hs:TS b s t) (h:bk b s t=true->wH fN fF (a8 b++[s]) (aH b++[t])=some (c,e)):Fun Tryz.prog 18 [.sl .no (b.map Bnd.av),s.avw,t.avw] (.int .i64 (fI b s t e)):=by
 have hva:=nT (s:=s) (t:=t) fun x hx=>(hs.hb x hx).2;have hbl:=hs.hl;unfold fI
 cases hv:bk b s t with
 |false=>
  rw [hv] at hva;rw [if_neg Bool.false_ne_true];refine Fun.of (er (by simp) ?_) rfl rfl
  conv=>whnf
  conv=>whnf
  repeat' ((first|(refine gF ?_;refine ab.fn (hva) ?_)|(refine gC ?_;first|refine cN ?_|refine .not ?_))<;>conv=>whnf)
  refine af.lay [] oko ?_
  conv=>whnf
  conv=>whnf
  repeat' (refine af.nrm ?_<;>conv=>whnf)
 |true=>
  rw [hv] at hva;rw [if_pos rfl];have hso:=wS (h hv) hs.hN (by omega)
  have ha:=vr b (by omega) s hs.hs
  have hb:=vr b (by omega) t hs.ht
  have hsm:=zz (cR b s) (cR b t)
  by_cases hc:(cR b s).cmp (cR b t)=0
  ·rw [decide_eq_true hc] at hsm;rw [if_pos hc];refine Fun.of (er (by simp) ?_) rfl rfl
   conv=>whnf
   conv=>whnf
   repeat' ((first|(refine gF ?_;refine ab.fn (hva) ?_)|(refine gG ?_;first|refine aM.fn (ha) ?_|refine aM.fn (hb) ?_|refine aM.fn (hsm) ?_)|(refine gC ?_;first|refine cY ?_|refine .not ?_))<;>conv=>whnf)
   refine af.lay [] oko ?_
   conv=>whnf
   conv=>whnf
   repeat' (refine af.nrm ?_<;>conv=>whnf)
  ·rw [decide_eq_false hc] at hsm;rw [if_neg hc]
   by_cases he:e=13
   ·rw [if_pos he];subst he;refine Fun.of (er (by simp) ?_) rfl rfl
    conv=>whnf
    conv=>whnf
    repeat' ((first|(refine gF ?_;first|refine ab.fn (hva) ?_|refine ab.fn (hso) ?_)|(refine gG ?_;first|refine aM.fn (ha) ?_|refine aM.fn (hb) ?_|refine aM.fn (hsm) ?_)|(refine gC ?_;first|refine cY ?_|refine cN ?_|refine .not ?_|(refine gD ?_;refine cI ?_)))<;>conv=>whnf)
    refine af.lay [] oko ?_
    conv=>whnf
    conv=>whnf
    repeat' (refine af.nrm ?_<;>conv=>whnf)
   ·rw [if_neg he];refine Fun.of (er (by simp) ?_) rfl rfl
    conv=>whnf
    conv=>whnf
    repeat' ((first|(refine gF ?_;first|refine ab.fn (hva) ?_|refine ab.fn (hso) ?_)|(refine gG ?_;first|refine aM.fn (ha) ?_|refine aM.fn (hb) ?_|refine aM.fn (hsm) ?_)|(refine gC ?_;first|refine cY ?_|refine cN ?_|refine .not ?_|(refine gD ?_;refine cJ ?_)))<;>conv=>whnf)
    refine af.lay [] oko ?_
    conv=>whnf
    conv=>whnf
    repeat' (refine af.nrm ?_<;>conv=>whnf)
def Told (b:List Bnd) (s t:Tm) (c:List Bnd) (l:List Int) (e:Int):Prop:=if bk b s t=true then∃d,Ans (yb b s t) d e∧Rng d∧(if e=0 then c=d∧l=c8 b d else c=[]∧l=[]) else c=[]∧l=[]∧e=2
theorem Jg {S:(Int->Tm)->Prop} {d:List Bnd} {e:Int} (h:Ans S d e) (hr:Rng d):d.length≤1048577∧(d.map (·.v)).Pairwise (·<·)∧∀x∈d,fits x.t:=by
 rcases h with ⟨_,rfl,_⟩|⟨M,hM,⟨hB,hf,_⟩|⟨_,rfl,_⟩⟩
 ·exact ⟨Nat.zero_le _,.nil,fun x hx=>by cases hx⟩
 ·exact ⟨(BX hB.asc hr hf).2,hB.asc,hf⟩
 ·exact ⟨Nat.zero_le _,.nil,fun x hx=>by cases hx⟩
theorem zl {b:List Bnd} (h:cL b=true):(b.map (·.v)).Pairwise (·<·):=by
 have key:∀{b:List Bnd} {p:Option Int},mF p b=true->(b.map (·.v)).Pairwise (·<·)∧∀q,p=some q->∀x∈b,q<x.v:=by
  intro b
  induction b with
  |nil=>intro p _;exact ⟨.nil,fun q _ x hx=>by cases hx⟩
  |cons y b ih=>
   intro p hp;rw [mF] at hp;simp only [Bool.and_eq_true] at hp;obtain ⟨h1,h2⟩:=ih hp.2.2.2;refine ⟨?_,fun q hq x hx=>?_⟩
   ·rw [List.map_cons,List.pairwise_cons];refine ⟨fun v hv=>?_,h1⟩;obtain ⟨x,hx,rfl⟩:=List.mem_map.1 hv;exact h2 _ rfl x hx
   ·subst hq;have h3:q<y.v:=of_decide_eq_true hp.2.1;rcases List.mem_cons.1 hx with rfl|hx
    ·exact h3
    ·have:=h2 _ rfl x hx;omega
 unfold cL at h;rw [Bool.and_eq_true] at h;exact (key h.1).1
end Go.CK
namespace Go.CK
def Br:ByteArray:=⟨#[43]⟩
def Bp:ByteArray:=⟨#[45]⟩
def Bq:ByteArray:=⟨#[42]⟩
def zc:ByteArray:=⟨#[47]⟩
def cMod:ByteArray:=⟨#[37]⟩
def mz (s:ByteArray):Bool:=decide (s=Br∨s=Bp∨s=Bq∨s=zc∨s=cMod)
def inR (n:Int):Bool:=decide (-2147483648≤n∧n≤2147483648)
def quo (a b:Int):Int:=if a.tmod b≠0∧((a<0)≠(b<0)) then a.tdiv b-1 else a.tdiv b
theorem Gv (a b:Int) (hb:b≠0):quo a b=a.fdiv b:=by
 unfold quo;have hdvd:(b∣a)↔a.tmod b=0:=⟨fun h=>Int.tmod_eq_zero_of_dvd h,fun h=>Int.dvd_of_tmod_eq_zero h⟩;rw [Int.fdiv_eq_tdiv]
 by_cases h0:a.tmod b=0
 ·simp [h0,hdvd]
 ·rcases Int.lt_or_gt_of_ne hb with hb'|hb'
  ·have e1:b.sign=-1:=Int.sign_eq_neg_one_of_neg hb'
   by_cases ha:a<0
   ·simp [h0,hdvd,ha,hb',e1,show¬0≤a by omega,show¬0≤b by omega]
   ·simp [h0,hdvd,ha,hb',show 0≤a by omega,show¬0≤b by omega]
  ·have e1:b.sign=1:=Int.sign_eq_one_of_pos hb'
   by_cases ha:a<0
   ·simp [h0,hdvd,ha,e1,show¬b<0 by omega,show¬0≤a by omega,show 0≤b by omega]
   ·simp [h0,hdvd,ha,show¬b<0 by omega,show 0≤a by omega,show 0≤b by omega]
theorem uQ {a b:Int} (hb:b≠0) (h1:-2147483648≤a) (h2:a≤2147483648):-2147483648≤a.fdiv b∧a.fdiv b≤2147483648:=by
 rcases Int.lt_or_gt_of_ne hb with hb'|hb'
 ·rw [←Int.neg_fdiv_neg,Int.fdiv_eq_ediv_of_nonneg _ (by omega)]
  have h3:=Int.natAbs_ediv_le_natAbs (-a) (-b);omega
 ·rw [Int.fdiv_eq_ediv_of_nonneg _ (by omega)]
  have h3:=Int.natAbs_ediv_le_natAbs a b;omega
theorem BZ {a:Int} (b:Int) (h1:-2147483648≤a) (h2:a≤2147483648):-2147483648≤a.tdiv b∧a.tdiv b≤2147483648:=by
 have h3:=Int.natAbs_tdiv a b;have h4:=Nat.div_le_self a.natAbs b.natAbs;have h5:(a.tdiv b).natAbs≤a.natAbs:=by rw [h3];exact h4
 omega
theorem qY {a b:Int} (h1:-2147483648≤a) (h2:a≤2147483648) (h3:-2147483648≤b) (h4:b≤2147483648):-4611686018427387904≤a*b∧a*b≤4611686018427387904:=by
 have h5:(a*b).natAbs≤4611686018427387904:=by
  rw [Int.natAbs_mul];exact Nat.le_trans (Nat.mul_le_mul (show a.natAbs≤2147483648 by omega) (show b.natAbs≤2147483648 by omega)) (by decide)
 omega
def opv (s:ByteArray) (a b:Int):Int×Int:=
 if s=Br then (a+b,0) else if s=Bp then (a-b,0) else if s=Bq then (a*b,0) else if b=0 then (0,12)
 else if s=zc then (a.fdiv b,0) else (a-a.fdiv b*b,0)
def apply (s:ByteArray) (a b:Int):Int×Int:=
 if mz s=false then (0,7) else if (inR a&&inR b)=false then (0,5) else
 if (opv s a b).2≠0 then (0,(opv s a b).2) else if inR (opv s a b).1=false then (0,5) else ((opv s a b).1,0)
theorem qk {n:Int}:inR n=true↔-2147483648≤n∧n≤2147483648:=by simp [inR]
theorem Ck {s:ByteArray} {a b:Int} (ia:inR a=true) (ib:inR b=true):bW (opv s a b).1:=by
 have ha':=qk.1 ia;have hb':=qk.1 ib;have hm:=qY ha'.1 ha'.2 hb'.1 hb'.2;unfold opv bW;split
 ·dsimp only;omega
 split
 ·dsimp only;omega
 split
 ·dsimp only;omega
 split
 ·dsimp only;omega
 rename_i h4;have h5:=uQ h4 ha'.1 ha'.2;have h6:=qY h5.1 h5.2 hb'.1 hb'.2;split
 ·dsimp only;omega
 ·dsimp only;omega
end Go.CK
namespace Go.CK
def aR:Tm->Int×Int
 |.mk k n s [a,b]=>
  if k=1 then (0,17) else if k=0 then (if inR n=true then (n,0) else (0,5)) else if k≠2∨mz s=false then (0,11) else
  if (aR a).2≠0 then (0,(aR a).2) else if (aR b).2≠0 then (0,(aR b).2) else apply s (aR a).1 (aR b).1
 |.mk k n _ _=>if k=1 then (0,17) else if k=0 then (if inR n=true then (n,0) else (0,5)) else (0,11)
def mj (n:Int):Tm:=.mk 0 n ⟨#[]⟩ []
theorem A7 {k n:Int} {s:ByteArray} {l:List Tm} (h:l.length≠2):aR (.mk k n s l)=if k=1 then (0,17) else if k=0 then (if inR n=true then (n,0) else (0,5)) else (0,11):=by
 match l,h with
 |[],_=>simp [aR]
 |[a],_=>simp [aR]
 |a::b::c::r,_=>simp [aR]
theorem Ht {k n:Int} {s:ByteArray} {a b:Tm}:aR (.mk k n s [a,b])=if k=1 then (0,17) else if k=0 then (if inR n=true then (n,0) else (0,5)) else if k≠2∨mz s=false then (0,11) else
  if (aR a).2≠0 then (0,(aR a).2) else if (aR b).2≠0 then (0,(aR b).2) else apply s (aR a).1 (aR b).1:=by rw [aR]
theorem oK {α:Type} {l:List α} (h:l.length=2):∃a b,l=[a,b]:=by
 match l,h with
 |[a,b],_=>exact ⟨a,b,rfl⟩
theorem uV {k n:Int} {s:ByteArray} {l:List Tm} (h2:k≠2):aR (.mk k n s l)=if k=1 then (0,17) else if k=0 then (if inR n=true then (n,0) else (0,5)) else (0,11):=by
 by_cases h:l.length=2
 ·obtain ⟨a,b,rfl⟩:=oK h;rw [Ht,if_pos (show k≠2∨mz s=false from .inl h2)]
 ·exact A7 h
theorem Fb {n:Int} {s:ByteArray} {l:List Tm} (h:l.length≠2):aR (.mk 2 n s l)=(0,11):=by
 rw [A7 h];simp
theorem xP {n:Int} {s:ByteArray} {a b:Tm}:aR (.mk 2 n s [a,b])=if mz s=false then (0,11) else
  if (aR a).2≠0 then (0,(aR a).2) else if (aR b).2≠0 then (0,(aR b).2) else apply s (aR a).1 (aR b).1:=by
 rw [aR];simp
end Go.CK
namespace Go.CK
open Go.AM Go.Proofs
theorem Hd {n:Int} (h:¬(-2147483648≤n∧n≤2147483648)):inR n=false:=by unfold inR;exact decide_eq_false h
theorem I2 {n:Int} (h:-2147483648≤n∧n≤2147483648):inR n=true:=by unfold inR;exact decide_eq_true h
theorem Kg {a b:Int} (h:bW (a+b)):Fun Tryz.prog 159 [.int .i64 a,.int .i64 b] (.tup [.int .i64 (a+b),.int .i64 0]):=by
 unfold bW at h;refine Fun.of (wy (by simp) ?_) rfl rfl
 conv=>whnf
 conv=>whnf
 repeat' ((first|(refine gW ?_;refine wI ?_)|refine af.nrm ?_)<;>conv=>whnf)
theorem Kf {a b:Int} (h:bW (a-b)):Fun Tryz.prog 160 [.int .i64 a,.int .i64 b] (.tup [.int .i64 (a-b),.int .i64 0]):=by
 unfold bW at h;refine Fun.of (wx (by simp) ?_) rfl rfl
 conv=>whnf
 conv=>whnf
 repeat' ((first|(refine gW ?_;refine wI ?_)|refine af.nrm ?_)<;>conv=>whnf)
theorem Ke {a b:Int} (h:bW (a*b)):Fun Tryz.prog 161 [.int .i64 a,.int .i64 b] (.tup [.int .i64 (a*b),.int .i64 0]):=by
 unfold bW at h;refine Fun.of (wv (by simp) ?_) rfl rfl
 conv=>whnf
 conv=>whnf
 repeat' ((first|(refine gW ?_;refine wI ?_)|refine af.nrm ?_)<;>conv=>whnf)
set_option maxHeartbeats 1000000 in
theorem uG (l:List Int) (hl:l.length≤100):Fun Tryz.prog 89 [.sl .no (l.map (AV.int .i64))] (.bool (l.all inR)):=by
 refine Fun.of (qX (by simp) ?_) rfl rfl
 conv=>whnf
 conv=>whnf
 repeat' ((refine gL ?_;refine .map ?_)<;>conv=>whnf)
 refine aw.by (fb:=true) (fun s (q:Nat)=>s.zG [(7,.int .i64 q)]) (fun q=>q≤l.length∧l.all inR=(l.drop q).all inR) (fun q=>l.length-q) 0 ⟨Nat.zero_le _,by rw [List.drop_zero]⟩ ?_ ?_
 ·exact au
 ·rintro q ⟨hq,he⟩
  by_cases hlt:q<l.length
  ·obtain ⟨x,hx⟩:∃x,l[q]? =some x:=⟨_,List.getElem?_eq_getElem hlt⟩;have hx2:(l.map (AV.int .i64))[q]? =some (.int .i64 x):=by rw [List.getElem?_map,hx];rfl
   have hd:(l.drop q).all inR=(inR x&&(l.drop (q+1)).all inR):=by
    rw [List.drop_eq_getElem_cons hlt,(List.getElem?_eq_some_iff.1 hx).2,List.all_cons]
   rw [hd] at he
   conv=>whnf
   repeat' ((first|(refine gC ?_;first|refine cY ?_|(refine gD ?_;first|refine cI ?_|refine cJ ?_)|refine aq.lt (fun hc=>?_) (fun hc=>?_))|(refine gW ?_;refine wI ?_)|(refine gI ?_;(refine gM ?_;refine iE ?_))|refine af.nrm ?_)<;>conv=>whnf)
   ·rw [he,Hd (by omega)];rfl
   ·rw [he,Hd (by omega)];rfl
   ·refine ⟨q+1,⟨⟨hlt,by rw [he,I2 (by omega)];rfl⟩,by omega⟩,?_⟩
    exact au
  ·have hq2:q=l.length:=by omega
   subst hq2;rw [List.drop_length] at he
   conv=>whnf
   repeat' ((first|(refine gC ?_;(refine gD ?_;refine cJ ?_))|refine af.nrm ?_)<;>conv=>whnf)
   rw [he];rfl
theorem oa (a b:Int):Fun Tryz.prog 89 [.sl .no [.int .i64 a,.int .i64 b]] (.bool (inR a&&inR b)):=by
 have:=uG [a,b] (by simp)
 simp only [List.map_cons,List.map_nil,List.all_cons,List.all_nil,Bool.and_true] at this;exact this
theorem od (a:Int):Fun Tryz.prog 89 [.sl .no [.int .i64 a]] (.bool (inR a)):=by
 have:=uG [a] (by simp)
 simp only [List.map_cons,List.map_nil,List.all_cons,List.all_nil,Bool.and_true] at this;exact this
theorem r9 {a b:Int} (hb:b≠0) (h1:inR a=true) (h2:inR b=true):Fun Tryz.prog 163 [.int .i64 a,.int .i64 b] (.int .i64 (a.fdiv b)):=by
 rw [←Gv a b hb];have h3:=qk.1 h1;have h4:=BZ b h3.1 h3.2;refine Fun.of (pY (by simp) ?_) rfl rfl
 conv=>whnf
 conv=>whnf
 repeat' ((first|(refine gC ?_;first|refine cN ?_|refine .not ?_|(refine gD ?_;first|refine cI ?_|refine cJ ?_)|refine aq.dec (fun hc=>?_) (fun hc=>?_))|(refine gW ?_;refine wI ?_)|(refine gN ?_;refine nS ?_)|refine af.nrm ?_)<;>conv=>whnf)
 all_goals unfold quo
 ·rw [if_neg (fun e=>e.1 hc)]
 ·rename_i h0;rw [if_neg (fun e=>e.2 (propext (decide_eq_decide.1 hc)))]
 ·rename_i h0;rw [if_pos ⟨h0,fun e=>hc (decide_eq_decide.2 (iff_of_eq e))⟩]
end Go.CK
