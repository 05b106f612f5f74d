/-
  Texts of this aX joined (wip/gen/bundle.py),those declarations only that are needed:UnT UnU UnW UlI UlJ UnX RcUnr UrA UrB UrC UrD UrE UrF UrG UrH UrI UrJ UrK. By an AI agent.
-/
import Derived.Test.YtpihbplamelcnaaGreatBbb
set_option linter.unusedSimpArgs false
set_option linter.unusedVariables false
set_option maxRecDepth 100000
namespace Go.CK
open Go.AM Go.Proofs
def bR:List Bnd->Int->Option Tm
 |[],_=>none
 |x::l,v=>if x.v=v then some x.t else bR l v
def yr:Option Tm->AV
 |some t=>.tup [t.avw,.bool true]
 |none=>.tup [(Tm.mk 0 0 ⟨⟨[]⟩⟩ []).avw,.bool false]
theorem Cu(o:Option Tm):(yr o).lt 0=true:=by cases o<;>rfl
theorem yq(l:List Bnd)(v:Int):Fun Tryz.prog 82 [.sl .no (l.map Bnd.av),.int .i64 v] (yr (bR l v)):=by
 refine Fun.of (Sem.assume λhg0 _=>?_) rfl (Cu _);have hg:=(aJ (hg0 (.sl .no (l.map Bnd.av)) (by simp) rfl)).1
 refine kI (by simp) ?_
 conv=>whnf
 skip;refine ax.by (fb:=true) (λ_ (j:Nat)=>⟨[(0,.sl .no (l.map Bnd.av)),(1,.int .i64 v),(4,.ptr 0 0),(6,.int .i64 (j:Int))],[.cells [.int .i64 0,.int .i64 0,.str ⟨⟨[]⟩⟩,.sl .full []]],0⟩) (λj=>j<=l.length/\bR (l.drop j) v=bR l v) (λj=>l.length-j) 0 ⟨zJ _,rfl⟩ ?_ ?_
 .exact aH
 .rintro j ⟨q1,q2⟩
  by_cases hj:j<l.length
  .obtain ⟨x,hx⟩:∃x,l[j]? =some x:=⟨_,zA hj⟩;rw[zH hj,(zB.1 hx).2,bR] at q2
   by_cases hv:x.v=v
   .rw [if_pos hv] at q2;rw[<-q2]
    conv=>whnf
    repeat' (first|refine gC (gD (cI ?_))|refine gL (.map ?_)|refine gI (gM (iE ?_)))<;>conv=>whnf
    conv=>whnf
    repeat' refine ae.nrm ?_<;>conv=>whnf
    rfl
   .rw [if_neg hv] at q2
    conv=>whnf
    repeat' (first|(refine gC ?_;(refine gD ?_;first|refine cI ?_|refine cJ ?_))|refine gW (wI ?_)|refine gL (.map ?_)|refine gI (gM (iE ?_)))<;>conv=>whnf
    refine⟨j+1,⟨⟨hj,q2⟩,by omega⟩,?_⟩
    exact aH
  .obtain rfl:j=l.length:=by omega
   rw[zj,bR] at q2;rw[<-q2]
   conv=>whnf
   repeat' (first|refine gC (gD (cJ ?_))|refine gL (.map ?_))<;>conv=>whnf
   conv=>whnf
   repeat' refine ae.nrm ?_<;>conv=>whnf
   rfl
mutual
def db(b:List Bnd):Tm->Tm
 |.mk k n s l=>if k=1 then (match bR b n with|some x=>x|none=>.mk k n s l) else if k=2 then .mk k n s (ot b l) else .mk k n s l
def ot(b:List Bnd):List Tm->List Tm
 |[]=>[]
 |t::r=>db b t::ot b r
end
theorem jP(b:List Bnd):∀l:List Tm,ot b l=l.map (db b)
 |[]=>rfl
 |t::r=>by rw[ot,jP b r];rfl
theorem Ep{b:List Bnd}{t:Tm}(h:t.kind=1):db b t=match bR b t.num with|some x=>x|none=>t:=by
 obtain⟨k,n,s,l⟩:=t;simp only[Tm.kind] at h;rw[db,if_pos h];rfl
theorem r7{b:List Bnd}{t:Tm}(h:t.kind=2):db b t=.mk t.kind t.num t.name (t.args.map (db b)):=by
 obtain⟨k,n,s,l⟩:=t;simp only[Tm.kind] at h;rw[db,if_neg (by omega),if_pos h,jP];rfl
theorem r6{b:List Bnd}{t:Tm}(h1:¬t.kind=1)(h2:¬t.kind=2):db b t=t:=by
 obtain⟨k,n,s,l⟩:=t;simp only[Tm.kind] at h1 h2;rw[db,if_neg h1,if_neg h2]
theorem qS{b:List Bnd}{l:List Tm} (hL:l.length<=4000000000) (h:∀x∈l,Fun Tryz.prog 84 [.sl .no (b.map Bnd.av),x.avw] (db b x).avw):Fun Tryz.prog 52 [.sl .no (b.map Bnd.av),.sl .no (l.map Tm.av)] (.sl .no ((l.map (db b)).map Tm.av)):=by
 refine Fun.of (Sem.assume fun _ _=>?_) rfl rfl;have hg:l.length<=4294967296:=by omega
 refine iw (by simp) ?_
 conv=>whnf
 skip;refine ax.by (fb:=true) (λ_ (j:Nat)=>⟨[(0,.sl .no (b.map Bnd.av)),(1,.sl .no (l.map Tm.av)),(5,.sl (.own 4) (((l.take j).map (db b)).map Tm.av)),(6,.int .i64 (j:Int))],[],0⟩) (λj=>j<=l.length) (λj=>l.length-j) 0 (zJ _) ?_ ?_
 .refine ah.at_ ?_ rfl
  conv=>whnf
  refine And.intro ?_ ?_<;>conv=>whnf
  all_goals repeat' (first|(refine gV ?_;first|refine vE ?_|refine vI ?_|((refine gK ?_;refine vD ?_ ?_);(focus (simp[AV.norm,AV.ao,];done))))|exact True.intro)<;>conv=>whnf
 .rintro j q1
  by_cases hj:j<l.length
  .obtain ⟨x,hx⟩:∃x,l[j]? =some x:=⟨_,zA hj⟩;have htk:l.take (j+1)=l.take j++[x]:=by rw[ZC,hx];rfl
   have hcall:=h x (zE hx)
   conv=>whnf
   repeat' (first|refine gF (aa.fn (hcall) ?_)|refine gC (gD (cI ?_))|refine gW (wI ?_)|refine gL (.map ?_)|refine gN (nS ?_)|refine gI (gT (iA ?_)))<;>conv=>whnf
   refine⟨j+1,⟨hj,by omega⟩,?_⟩
   rw[htk];refine ah.at_ ?_ rfl
   conv=>whnf
   refine And.intro ?_ ?_<;>conv=>whnf
   all_goals repeat' (first|(refine gV ?_;first|refine vE ?_|refine vI ?_|(refine WkN.sl ?_ ?_;(focus (simp[AV.norm,AV.ao,Tm.gz,Tm.avw];done))))|exact True.intro)<;>conv=>whnf
  .obtain rfl:j=l.length:=by omega
   rw[zl (zG _)]
   conv=>whnf
   repeat' (first|refine gC (gD (cJ ?_))|refine gL (.map ?_)|refine ae.nrm ?_)<;>conv=>whnf
theorem KU(b:List Bnd)(t:Tm):t.nodes<=1000000->Fun Tryz.prog 84 [.sl .no (b.map Bnd.av),t.avw] (db b t).avw:=by
 induction t using Tm.bK with
 |h k i s l ih=>
 intro hN;generalize ha:Tm.mk k i s l=t at hN|-;replace ih:∀x∈t.args,x.nodes<=1000000->Fun Tryz.prog 84 [.sl .no (b.map Bnd.av),x.avw] (db b x).avw:=by subst ha;exact ih
 have hnl:Tm.aj t.args+1<=t.nodes:=by subst ha;simp only[Tm.nodes,Tm.args];omega
 have hlen:=gg t.args
 clear ha
 by_cases h1:t.kind=1
 .rw [Ep h1];have hl:=yq b t.num
  cases hlk:bR b t.num with
  |none=>
   rw[hlk] at hl;have hl:Fun Tryz.prog 82 [.sl .no (b.map Bnd.av),.int .i64 t.num] (.tup [.agg [.int .i64 0,.int .i64 0,.str ⟨⟨[]⟩⟩,.sl .no []],.bool false]):=hl;refine Fun.of (bV (by simp) ?_) rfl rfl
   conv=>whnf
   repeat' (first|refine gF (aa.fn (hl) ?_)|(refine gC ?_;first|refine cN ?_|refine gD (cI ?_)))<;>conv=>whnf
   conv=>whnf
   repeat' refine ae.nrm ?_<;>conv=>whnf
   rfl
  |some x=>
   rw[hlk] at hl;have hl:Fun Tryz.prog 82 [.sl .no (b.map Bnd.av),.int .i64 t.num] (.tup [.agg [.int .i64 x.kind,.int .i64 x.num,.str x.name,.sl .no (x.args.map Tm.av)],.bool true]):=hl;refine Fun.of (bV (by simp) ?_) rfl rfl
   conv=>whnf
   repeat' (first|refine gF (aa.fn (hl) ?_)|(refine gC ?_;first|refine cY ?_|refine gD (cI ?_)))<;>conv=>whnf
   conv=>whnf
   repeat' refine ae.nrm ?_<;>conv=>whnf
   rfl
 .by_cases h2:t.kind=2
  .rw [r7 h2];have hl:=qS (by omega) fun x hx=>ih x hx (by have:=gh hx;omega);refine Fun.of (bV (by simp) ?_) rfl rfl
   conv=>whnf
   repeat' (first|refine gF (aa.fn (hl) ?_)|(refine gC ?_;(refine gD ?_;first|refine cI ?_|refine cJ ?_)))<;>conv=>whnf
   conv=>whnf
   repeat' refine ae.nrm ?_<;>conv=>whnf
   rfl
  .rw [r6 h1 h2];refine Fun.of (bV (by simp) ?_) rfl rfl
   conv=>whnf
   repeat' refine gC (gD (cJ ?_))<;>conv=>whnf
   conv=>whnf
   repeat' refine ae.nrm ?_<;>conv=>whnf
   rfl
mutual
theorem Lk:∀t:Tm,t.sz<=t.nodes
 |.mk k n s l=>by
  have:=pY l;simp only[Tm.sz,Tm.nodes];split<;>omega
theorem pY:∀l:List Tm,Tm.szs l<=Tm.aj l
 |[]=>zG _
 |t::r=>by
  have:=Lk t;have:=pY r;simp only[Tm.szs,Tm.aj];omega
end
mutual
theorem KH:∀t:Tm,t.dep<=t.nodes
 |.mk k n s l=>by
  have:=rW l;simp only[Tm.dep,Tm.nodes];split<;>omega
theorem rW:∀l:List Tm,Tm.fS l<=Tm.aj l
 |[]=>zG _
 |t::r=>by
  have:=KH t;have:=rW r;simp only[Tm.fS,Tm.aj];omega
end
theorem EO(t:Tm):t.nodes<=1000000000->Fun Tryz.prog 79 [t.avw] (.int .i64 (t.sz:Int)):=by
 induction t using Tm.bK with
 |h k i s l ih=>
 intro hN;generalize ha:Tm.mk k i s l=t at hN|-;replace ih:∀x∈t.args,x.nodes<=1000000000->Fun Tryz.prog 79 [x.avw] (.int .i64 (x.sz:Int)):=by subst ha;exact ih
 have hnl:Tm.aj t.args+1<=t.nodes:=by subst ha;simp only[Tm.nodes,Tm.args];omega
 clear ha
 have hsz:t.sz=1+Tm.szs t.use:=by
  unfold Tm.use
  by_cases h2:t.kind=2
  .rw [if_pos h2,tL h2]
  .rw [if_neg h2,wx h2];rfl
 have huse:∀x∈t.use,x∈t.args:=λx hx=>by unfold Tm.use at hx;split at hx;exact hx;cases hx
 have hul:Tm.aj t.use<=Tm.aj t.args:=by unfold Tm.use;split;exact zG _;exact zJ _
 have hlen:=gg t.use;have hszn:=pY t.use;rw[hsz];refine Fun.of (mH (by simp) ?_) rfl rfl
 conv=>whnf
 repeat' refine gF (aa.fn (eV) ?_)<;>conv=>whnf
 refine ax.by (fb:=true) (λ_ (j:Nat)=>⟨[(3,.int .i64 ((1+Tm.szs (t.use.take j):Nat):Int)),(4,.sl .no (t.use.map Tm.av)),(5,.int .i64 (j:Int))],[],0⟩) (λj=>j<=t.use.length) (λj=>t.use.length-j) 0 (zJ _) ?_ ?_
 .rw [ZL];refine ah.lay [] oko ?_
  conv=>whnf
  refine ah.at_ ?_ rfl
  conv=>whnf
  refine And.intro ?_ ?_<;>conv=>whnf
  all_goals repeat' (first|(refine gV ?_;first|refine vE ?_|refine vI ?_|(refine WkN.norm ?_ ?_;(focus (simp[AV.norm,AV.ao,Tm.szs,Tm.fS];done))))|exact True.intro)<;>conv=>whnf
 .rintro j q1
  by_cases hj:j<t.use.length
  .obtain ⟨x,hx⟩:∃x,t.use[j]? =some x:=⟨_,zA hj⟩;have htk:t.use.take (j+1)=t.use.take j++[x]:=by rw[ZC,hx];rfl
   have hst:=sn t.use hx;have hm:=gh (zE hx);have hcall:=ih x (huse x (zE hx)) (by omega)
   conv=>whnf
   repeat' (first|refine gF (aa.fn (hcall) ?_)|refine gC (gD (cI ?_))|refine gW (wI ?_)|refine gL (.map ?_)|refine gI (gT (iA ?_)))<;>conv=>whnf
   refine⟨j+1,⟨hj,by omega⟩,?_⟩
   rw[htk,oP];exact aH
  .obtain rfl:j=t.use.length:=by omega
   rw[zl (zG _)]
   conv=>whnf
   repeat' (first|refine gC (gD (cJ ?_))|refine gL (.map ?_)|refine ae.nrm ?_)<;>conv=>whnf
theorem KG(t:Tm):t.nodes<=1000000000->Fun Tryz.prog 80 [t.avw] (.int .i64 (t.dep:Int)):=by
 induction t using Tm.bK with
 |h k i s l ih=>
 intro hN;generalize ha:Tm.mk k i s l=t at hN|-;replace ih:∀x∈t.args,x.nodes<=1000000000->Fun Tryz.prog 80 [x.avw] (.int .i64 (x.dep:Int)):=by subst ha;exact ih
 have hnl:Tm.aj t.args+1<=t.nodes:=by subst ha;simp only[Tm.nodes,Tm.args];omega
 clear ha
 have hsz:t.dep=Tm.fS t.use+1:=by
  unfold Tm.use
  by_cases h2:t.kind=2
  .rw [if_pos h2,tA h2]
  .rw [if_neg h2,Ay h2];rfl
 have huse:∀x∈t.use,x∈t.args:=λx hx=>by unfold Tm.use at hx;split at hx;exact hx;cases hx
 have hul:Tm.aj t.use<=Tm.aj t.args:=by unfold Tm.use;split;exact zG _;exact zJ _
 have hlen:=gg t.use;have hdn:Tm.fS t.use<=Tm.aj t.use:=rW t.use;rw[hsz];refine Fun.of (lS (by simp) ?_) rfl rfl
 conv=>whnf
 repeat' refine gF (aa.fn (eV) ?_)<;>conv=>whnf
 refine ax.by (fb:=true) (λ_ (j:Nat)=>⟨[(3,.int .i64 ((Tm.fS (t.use.take j):Nat):Int)),(4,.sl .no (t.use.map Tm.av)),(5,.int .i64 (j:Int))],[],0⟩) (λj=>j<=t.use.length) (λj=>t.use.length-j) 0 (zJ _) ?_ ?_
 .rw [ZL];refine ah.lay [] oko ?_
  conv=>whnf
  refine ah.at_ ?_ rfl
  conv=>whnf
  refine And.intro ?_ ?_<;>conv=>whnf
  all_goals repeat' (first|(refine gV ?_;first|refine vE ?_|refine vI ?_|(refine WkN.norm ?_ ?_;(focus (simp[AV.norm,AV.ao,Tm.szs,Tm.fS];done))))|exact True.intro)<;>conv=>whnf
 .rintro j q1
  by_cases hj:j<t.use.length
  .obtain ⟨x,hx⟩:∃x,t.use[j]? =some x:=⟨_,zA hj⟩;have htk:t.use.take (j+1)=t.use.take j++[x]:=by rw[ZC,hx];rfl
   have hm:=gh (zE hx);have hcall:=ih x (huse x (zE hx)) (by omega)
   conv=>whnf
   repeat' (first|refine gF (aa.fn (hcall) ?_)|refine gC (gD (cI ?_))|refine gW (wI ?_)|refine gL (.map ?_)|refine gI (gT (iA ?_)))<;>conv=>whnf
   refine⟨j+1,⟨hj,by omega⟩,?_⟩
   rw[htk,uR];exact aH
  .obtain rfl:j=t.use.length:=by omega
   rw[zl (zG _)]
   conv=>whnf
   repeat' (first|refine gC (gD (cJ ?_))|refine gW (wI ?_)|refine gL (.map ?_)|refine ae.nrm ?_)<;>conv=>whnf
   rfl
theorem pz{l:List Tm}{x:Tm}(h:x∈l)(hf:x.form=false):Tm.b5 l=false:=by
 rw[Bool.eq_false_iff];intro e;rw[uK e h] at hf;cases hf
set_option maxHeartbeats 1000000 in
theorem MA(t:Tm):Fun Tryz.prog 78 [t.avw] (.bool t.form):=by
 induction t using Tm.bK with
 |h k i s l ih=>
 generalize ha:Tm.mk k i s l=t;replace ih:∀x∈t.args,Fun Tryz.prog 78 [x.avw] (.bool x.form):=by subst ha;exact ih
 clear ha;refine Fun.assume rfl λhg0=>?_;have hg:=(qi (hg0 t.avw (by simp))).2.1
 by_cases hk2:t.kind=2
 .rw [rT hk2];have hoo:=L0 t.name;have hro:=BZ t.name
  by_cases h3:t.num=0
  rotate_left
  .rw [decide_eq_false (λe=>h3 e.1),zw];cases hop:eF t.name<;>rw[hop] at hoo
   all_goals
    refine Fun.of (aB (by simp) ?_) rfl rfl
    conv=>whnf
    repeat' (first|refine gF (aa.fn (hoo) ?_)|(refine gC ?_;first|refine cY ?_|refine cN ?_|refine .not ?_|(refine gD ?_;first|refine cI ?_|refine cJ ?_))|refine gL (.map ?_)|refine ae.nrm ?_)<;>conv=>whnf
    try rfl
  by_cases h6:t.args.length<=6
  .rw [decide_eq_true (show t.num=0/\t.args.length<=6 from ⟨h3,h6⟩),za]
   by_cases hol:eF t.name=true/\t.args.length=2
   .obtain ⟨hop,h2⟩:=hol;rw[hop,decide_eq_true h2,za,Bool.or_true,za];rw[hop] at hoo;refine Fun.of (aB (by simp) ?_) rfl rfl
    conv=>whnf
    repeat' (first|refine gF (aa.fn (hoo) ?_)|(refine gC ?_;first|refine cY ?_|refine cN ?_|refine .not ?_|(refine gD ?_;first|refine cI ?_|refine cJ ?_))|refine gL (.map ?_))<;>conv=>whnf
    refine ax.by (fb:=true) (λ_ (j:Nat)=>⟨[(1,.ptr 0 0),(4,.int .i64 (j:Int))],[.cells [.int .i64 t.kind,.int .i64 t.num,.str t.name,.sl .no (t.args.map Tm.av)]],0⟩) (λj=>j<=t.args.length/\Tm.b5 (t.args.take j)=true) (λj=>t.args.length-j) 0 ⟨zJ _,rfl⟩ ?_ ?_
    .exact aH
    .rintro j ⟨q1,q2⟩
     by_cases hj:j<t.args.length
     .obtain ⟨x,hx⟩:∃x,t.args[j]? =some x:=⟨_,zA hj⟩;have htk:t.args.take (j+1)=t.args.take j++[x]:=by rw[ZC,hx];rfl
      have hcall:=ih x (zE hx)
      cases hxf:x.form with
      |false=>
       rw[hxf] at hcall
       conv=>whnf
       repeat' (first|refine gF (aa.fn (hcall) ?_)|(refine gC ?_;first|refine cN ?_|refine .not ?_|refine gD (cI ?_))|refine gL (.map ?_)|refine gI (gT (iA ?_))|refine ae.nrm ?_)<;>conv=>whnf
       exact congrArg AV.bool (pz (zE hx) hxf).symm
      |true=>
       rw[hxf] at hcall
       conv=>whnf
       repeat' (first|refine gF (aa.fn (hcall) ?_)|(refine gC ?_;first|refine cY ?_|refine .not ?_|refine gD (cI ?_))|refine gW (wI ?_)|refine gL (.map ?_)|refine gI (gT (iA ?_)))<;>conv=>whnf
       refine⟨j+1,⟨⟨hj,by rw[htk,kx,q2,hxf];rfl⟩,by omega⟩,?_⟩
       exact aH
     .obtain rfl:j=t.args.length:=by omega
      rw[zl (zG _)] at q2
      conv=>whnf
      repeat' (first|refine gC (gD (cJ ?_))|refine gL (.map ?_)|refine ae.nrm ?_)<;>conv=>whnf
      exact congrArg AV.bool q2.symm
   .have hob:(eF t.name&&decide (t.args.length=2))=false:=by
     rw[Bool.eq_false_iff];intro e;rw[zD,decide_eq_true_eq] at e;exact hol e
    rw[hob,Bool.or_false]
    cases hnr:ke t.name with
    |false=>
     rw[hnr] at hro;rw[zw]
     cases hop:eF t.name with
     |false=>
      rw[hop] at hoo;refine Fun.of (aB (by simp) ?_) rfl rfl
      conv=>whnf
      repeat' (first|(refine gF ?_;first|refine aa.fn (hoo) ?_|refine aa.fn (hro) ?_)|(refine gC ?_;first|refine cY ?_|refine cN ?_|refine .not ?_|(refine gD ?_;first|refine cI ?_|refine cJ ?_))|refine ae.nrm ?_)<;>conv=>whnf
     |true=>
      rw[hop] at hoo;have h2:¬t.args.length=2:=λe=>hol ⟨hop,e⟩;refine Fun.of (aB (by simp) ?_) rfl rfl
      conv=>whnf
      repeat' (first|(refine gF ?_;first|refine aa.fn (hoo) ?_|refine aa.fn (hro) ?_)|(refine gC ?_;first|refine cY ?_|refine cN ?_|refine .not ?_|(refine gD ?_;first|refine cI ?_|refine cJ ?_))|refine gL (.map ?_)|refine ae.nrm ?_)<;>conv=>whnf
    |true=>
     rw[hnr] at hro;rw[za]
     cases hop:eF t.name with
     |false=>
      rw[hop] at hoo;refine Fun.of (aB (by simp) ?_) rfl rfl
      conv=>whnf
      repeat' (first|(refine gF ?_;first|refine aa.fn (hoo) ?_|refine aa.fn (hro) ?_)|(refine gC ?_;first|refine cY ?_|refine cN ?_|refine .not ?_|(refine gD ?_;first|refine cI ?_|refine cJ ?_))|refine gL (.map ?_))<;>conv=>whnf
      refine ax.by (fb:=true) (λ_ (j:Nat)=>⟨[(1,.ptr 0 0),(4,.int .i64 (j:Int))],[.cells [.int .i64 t.kind,.int .i64 t.num,.str t.name,.sl .no (t.args.map Tm.av)]],0⟩) (λj=>j<=t.args.length/\Tm.b5 (t.args.take j)=true) (λj=>t.args.length-j) 0 ⟨zJ _,rfl⟩ ?_ ?_
      .exact aH
      .rintro j ⟨q1,q2⟩
       by_cases hj:j<t.args.length
       .obtain ⟨x,hx⟩:∃x,t.args[j]? =some x:=⟨_,zA hj⟩;have htk:t.args.take (j+1)=t.args.take j++[x]:=by rw[ZC,hx];rfl
        have hcall:=ih x (zE hx)
        cases hxf:x.form with
        |false=>
         rw[hxf] at hcall
         conv=>whnf
         repeat' (first|refine gF (aa.fn (hcall) ?_)|(refine gC ?_;first|refine cN ?_|refine .not ?_|refine gD (cI ?_))|refine gL (.map ?_)|refine gI (gT (iA ?_))|refine ae.nrm ?_)<;>conv=>whnf
         exact congrArg AV.bool (pz (zE hx) hxf).symm
        |true=>
         rw[hxf] at hcall
         conv=>whnf
         repeat' (first|refine gF (aa.fn (hcall) ?_)|(refine gC ?_;first|refine cY ?_|refine .not ?_|refine gD (cI ?_))|refine gW (wI ?_)|refine gL (.map ?_)|refine gI (gT (iA ?_)))<;>conv=>whnf
         refine⟨j+1,⟨⟨hj,by rw[htk,kx,q2,hxf];rfl⟩,by omega⟩,?_⟩
         exact aH
       .obtain rfl:j=t.args.length:=by omega
        rw[zl (zG _)] at q2
        conv=>whnf
        repeat' (first|refine gC (gD (cJ ?_))|refine gL (.map ?_)|refine ae.nrm ?_)<;>conv=>whnf
        exact congrArg AV.bool q2.symm
     |true=>
      rw[hop] at hoo;have h2:¬t.args.length=2:=λe=>hol ⟨hop,e⟩;refine Fun.of (aB (by simp) ?_) rfl rfl
      conv=>whnf
      repeat' (first|(refine gF ?_;first|refine aa.fn (hoo) ?_|refine aa.fn (hro) ?_)|(refine gC ?_;first|refine cY ?_|refine .not ?_|(refine gD ?_;first|refine cI ?_|refine cJ ?_))|refine gL (.map ?_))<;>conv=>whnf
      refine ax.by (fb:=true) (λ_ (j:Nat)=>⟨[(1,.ptr 0 0),(4,.int .i64 (j:Int))],[.cells [.int .i64 t.kind,.int .i64 t.num,.str t.name,.sl .no (t.args.map Tm.av)]],0⟩) (λj=>j<=t.args.length/\Tm.b5 (t.args.take j)=true) (λj=>t.args.length-j) 0 ⟨zJ _,rfl⟩ ?_ ?_
      .exact aH
      .rintro j ⟨q1,q2⟩
       by_cases hj:j<t.args.length
       .obtain ⟨x,hx⟩:∃x,t.args[j]? =some x:=⟨_,zA hj⟩;have htk:t.args.take (j+1)=t.args.take j++[x]:=by rw[ZC,hx];rfl
        have hcall:=ih x (zE hx)
        cases hxf:x.form with
        |false=>
         rw[hxf] at hcall
         conv=>whnf
         repeat' (first|refine gF (aa.fn (hcall) ?_)|(refine gC ?_;first|refine cN ?_|refine .not ?_|refine gD (cI ?_))|refine gL (.map ?_)|refine gI (gT (iA ?_))|refine ae.nrm ?_)<;>conv=>whnf
         exact congrArg AV.bool (pz (zE hx) hxf).symm
        |true=>
         rw[hxf] at hcall
         conv=>whnf
         repeat' (first|refine gF (aa.fn (hcall) ?_)|(refine gC ?_;first|refine cY ?_|refine .not ?_|refine gD (cI ?_))|refine gW (wI ?_)|refine gL (.map ?_)|refine gI (gT (iA ?_)))<;>conv=>whnf
         refine⟨j+1,⟨⟨hj,by rw[htk,kx,q2,hxf];rfl⟩,by omega⟩,?_⟩
         exact aH
       .obtain rfl:j=t.args.length:=by omega
        rw[zl (zG _)] at q2
        conv=>whnf
        repeat' (first|refine gC (gD (cJ ?_))|refine gL (.map ?_)|refine ae.nrm ?_)<;>conv=>whnf
        exact congrArg AV.bool q2.symm
  .rw [decide_eq_false (λe=>h6 e.2),zw];have h2:¬t.args.length=2:=by omega
   cases hnr:ke t.name<;>rw[hnr] at hro<;>cases hop:eF t.name<;>rw[hop] at hoo
   all_goals
    refine Fun.of (aB (by simp) ?_) rfl rfl
    conv=>whnf
    repeat' (first|(refine gF ?_;first|refine aa.fn (hoo) ?_|refine aa.fn (hro) ?_)|(refine gC ?_;first|refine cY ?_|refine cN ?_|refine .not ?_|(refine gD ?_;first|refine cI ?_|refine cJ ?_))|refine gL (.map ?_)|refine ae.nrm ?_)<;>conv=>whnf
    try rfl
 .by_cases hk0:t.kind=0
  .rw [Ag hk0];refine Fun.of (aB (by simp) ?_) rfl rfl
   conv=>whnf
   repeat' (first|(refine gC ?_;first|refine cN ?_|(refine gD ?_;first|refine cI ?_|refine cJ ?_)|refine ak.le (λhc=>?_) (λhc=>?_)|refine ak.dec (λhc=>?_) (λhc=>?_))|refine gL (.map ?_)|refine ae.nrm ?_)<;>conv=>whnf
   all_goals
    refine congrArg AV.bool ?_;symm
    first
     |(rw[decide_eq_decide];exact⟨λh=>by omega,λh=>⟨by omega,by omega,by assumption,by omega⟩⟩)
     |(rw[decide_eq_decide];exact⟨λ⟨_,_,_,h⟩=>by omega,λh=>⟨by omega,by omega,by assumption,by omega⟩⟩)
     |(rw[decide_eq_false_iff_not];rintro⟨e1,e2,e3,e4⟩;first|omega|contradiction)
     |(rw[decide_eq_true_iff];exact⟨by omega,by omega,by assumption,by omega⟩)
  .by_cases hk1:t.kind=1
   .rw [uL hk1];refine Fun.of (aB (by simp) ?_) rfl rfl
    conv=>whnf
    repeat' (first|(refine gC ?_;first|refine cN ?_|(refine gD ?_;first|refine cI ?_|refine cJ ?_)|refine ak.le (λhc=>?_) (λhc=>?_)|refine ak.dec (λhc=>?_) (λhc=>?_))|refine gL (.map ?_)|refine ae.nrm ?_)<;>conv=>whnf
    all_goals
     refine congrArg AV.bool ?_;symm
     first
      |(rw[decide_eq_decide];exact⟨λh=>by omega,λh=>⟨by omega,by omega,by assumption,by omega⟩⟩)
      |(rw[decide_eq_decide];exact⟨λ⟨_,_,_,h⟩=>by omega,λh=>⟨by omega,by omega,by assumption,by omega⟩⟩)
      |(rw[decide_eq_false_iff_not];rintro⟨e1,e2,e3,e4⟩;first|omega|contradiction)
      |(rw[decide_eq_true_iff];exact⟨by omega,by omega,by assumption,by omega⟩)
   .rw [Af hk0 hk1 hk2];refine Fun.of (aB (by simp) ?_) rfl rfl
    conv=>whnf
    repeat' (first|refine gC (gD (cJ ?_))|refine ae.nrm ?_)<;>conv=>whnf
theorem BY(t:Tm)(hN:t.nodes<=1000000000):Fun Tryz.prog 47 [t.avw] (.bool t.right):=by
 have h1:=MA t;have h2:=EO t hN;have h3:=KG t hN
 have he:t.right=(t.form&&(decide ((t.sz:Int)<=200)&&decide ((t.dep:Int)<=20))):=by
  unfold Tm.right vB;rw[Bool.decide_and]
 rw[he];cases hf:t.form<;>rw[hf] at h1
 all_goals
  refine Fun.of (lQ (by simp) ?_) rfl rfl
  conv=>whnf
  repeat' (first|(refine gF ?_;first|refine aa.fn (h1) ?_|refine aa.fn (h2) ?_|refine aa.fn (h3) ?_)|(refine gC ?_;first|refine cY ?_|refine cN ?_|(refine gD ?_;first|refine cI ?_|refine cJ ?_)|refine ak.le (λhc=>?_) (λhc=>?_))|refine ae.nrm ?_)<;>conv=>whnf
  all_goals (first|rfl|(refine congrArg AV.bool ?_;first|(simp[*];done)|(simp[*];omega)))
end Go.CK
namespace Go.CK
open Go.AM Go.Proofs
theorem KZ(l:List Int)(n:Int):(qz l n).length<=l.length+1:=by unfold qz;split<;>simp
theorem A7:∀(m l:List Int),(bp l m).length<=l.length+m.length
 |[],l=>by simp[bp]
 |n::m,l=>by
  have h1:=A7 m (qz l n);have h2:=KZ l n;show (bp (qz l n) m).length<=_;rw[zX];omega
theorem H3(l:List Int):(a8 l).length<=l.length:=by
 have:=A7 l [];unfold a8;simpa using this
def Ad(b:List Bnd)(t:Tm):Bool:=(a8 t.vs).all λv=>(bR b v).isNone
set_option maxHeartbeats 1000000 in
theorem KW(b:List Bnd)(hb:∀x∈b,x.t.vs.length<=100000):Fun Tryz.prog 48 [.sl .no (b.map Bnd.av)] (.bool (b.all λx=>Ad b x.t)):=by
 refine Fun.of (Sem.assume λhg0 _=>?_) rfl rfl;have hg:=(aJ (hg0 (.sl .no (b.map Bnd.av)) (by simp) rfl)).1
 refine lK (by simp) ?_
 conv=>whnf
 skip;refine ax.by (fb:=true) (λ_ (j:Nat)=>⟨[(0,.sl .no (b.map Bnd.av)),(3,.int .i64 (j:Int))],[],0⟩) (λj=>j<=b.length/\((b.drop j).all λx=>Ad b x.t)=b.all λx=>Ad b x.t) (λj=>b.length-j) 0 ⟨zJ _,rfl⟩ ?_ ?_
 .exact aH
 .rintro j ⟨q1,q2⟩
  by_cases hj:j<b.length
  .obtain ⟨x,hx⟩:∃x,b[j]? =some x:=⟨_,zA hj⟩;rw[zH hj,(zB.1 hx).2,Zq] at q2;have hv:=Hi (hb x (zE hx));obtain⟨L,hL⟩:∃L,L=a8 x.t.vs:=⟨_,rfl⟩;have hLl:L.length<=100000:=by rw[hL];exact ZO (H3 _) (hb x (zE hx))
   rw[<-hL] at hv;have hfr:Ad b x.t=L.all λv=>(bR b v).isNone:=by rw[hL];rfl
   conv=>whnf
   repeat' (first|refine gF (aa.fn (hv) ?_)|refine gC (gD (cI ?_))|refine gL (.map ?_)|refine gI (gM (iE ?_)))<;>conv=>whnf
   refine ax.by (fb:=true) (λ_ (i:Nat)=>⟨[(0,.sl .no (b.map Bnd.av)),(3,.int .i64 (j:Int)),(4,.sl .no (L.map bM)),(5,.int .i64 (i:Int))],[],0⟩) (λi=>i<=L.length/\((L.drop i).all λv=>(bR b v).isNone)=Ad b x.t) (λi=>L.length-i) 0 ⟨zJ _,hfr.symm⟩ ?_ ?_
   .exact aH
   .rintro i ⟨r1,r2⟩
    by_cases hi:i<L.length
    .obtain ⟨v,hv2⟩:∃v,L[i]? =some v:=⟨_,zA hi⟩;rw[zH hi,(zB.1 hv2).2,Zq] at r2;have hl:=yq b v
     cases hlk:bR b v with
     |none=>
      rw[hlk] at hl;have hl:Fun Tryz.prog 82 [.sl .no (b.map Bnd.av),.int .i64 v] (.tup [.agg [.int .i64 0,.int .i64 0,.str ⟨⟨[]⟩⟩,.sl .no []],.bool false]):=hl;rw[hlk,Option.isNone_none,za] at r2
      conv=>whnf
      repeat' (first|refine gF (aa.fn (hl) ?_)|(refine gC ?_;first|refine cN ?_|refine gD (cI ?_))|refine gW (wI ?_)|refine gL (.map ?_)|refine gI (gM (iE ?_)))<;>conv=>whnf
      refine⟨i+1,⟨⟨hi,r2⟩,by omega⟩,?_⟩
      refine ah.lay [] oko ?_
      conv=>whnf
      exact aH
     |some y=>
      rw[hlk] at hl;have hl:Fun Tryz.prog 82 [.sl .no (b.map Bnd.av),.int .i64 v] (.tup [.agg [.int .i64 y.kind,.int .i64 y.num,.str y.name,.sl .no (y.args.map Tm.av)],.bool true]):=hl;rw[hlk,Option.isNone_some,zw] at r2;rw[<-r2,zw] at q2;rw[<-q2]
      conv=>whnf
      repeat' (first|refine gF (aa.fn (hl) ?_)|(refine gC ?_;first|refine cY ?_|refine gD (cI ?_))|refine gL (.map ?_)|refine gI (gM (iE ?_))|refine ae.nrm ?_)<;>conv=>whnf
    .obtain rfl:i=L.length:=by omega
     rw[zj,List.all_nil] at r2;rw[<-r2,za] at q2
     conv=>whnf
     repeat' (first|refine gC (gD (cJ ?_))|refine gW (wI ?_)|refine gL (.map ?_))<;>conv=>whnf
     refine⟨j+1,⟨⟨hj,q2⟩,by omega⟩,?_⟩
     exact aH
  .obtain rfl:j=b.length:=by omega
   rw[zj,List.all_nil] at q2;rw[<-q2]
   conv=>whnf
   repeat' (first|refine gC (gD (cJ ?_))|refine gL (.map ?_)|refine ae.nrm ?_)<;>conv=>whnf
def Hm:Option Int->Int->Bool
 |none,_=>true
 |some p,v=>decide (p<v)
def Ij:Option Int->List Bnd->Bool
 |_,[]=>true
 |p,x::l=>decide (0<=x.v/\x.v<=1048576)&&(Hm p x.v&&(x.t.right&&Ij (some x.v) l))
def rz(b:List Bnd):Bool:=Ij none b&&b.all λx=>Ad b x.t
def xI(b:List Bnd)(j:Nat):Option Int:=match j with
 |0=>none
 |j+1=>(b[j]?).map (·.v)
set_option maxHeartbeats 1000000 in
theorem BX(b:List Bnd)(hb:∀x∈b,x.t.nodes<=1000000/\x.t.vs.length<=100000):Fun Tryz.prog 24 [.sl .no (b.map Bnd.av)] (.bool (rz b)):=by
 refine Fun.of (Sem.assume λhg0 _=>?_) rfl rfl;have hg:=(aJ (hg0 (.sl .no (b.map Bnd.av)) (by simp) rfl)).1
 have hap:=KW b λx hx=>(hb x hx).2;refine lL (by simp) ?_
 conv=>whnf
 skip;refine ax.by (fb:=true) (λ_ (j:Nat)=>⟨[(0,.sl .no (b.map Bnd.av)),(3,.int .i64 (j:Int))],[],0⟩) (λj=>j<=b.length/\Ij (xI b j) (b.drop j)=Ij none b) (λj=>b.length-j) 0 ⟨zJ _,rfl⟩ ?_ ?_
 .exact aH
 .rintro j ⟨q1,q2⟩
  by_cases hj:j<b.length
  .obtain ⟨x,hx⟩:∃x,b[j]? =some x:=⟨_,zA hj⟩;rw[zH hj,(zB.1 hx).2,Ij] at q2;have hnext:xI b (j+1)=some x.v:=by simp only[xI,hx,zM]
   have hr:=BY x.t (by have:=(hb x (zE hx)).1;omega)
   have hfalse:∀{z:Bool},z=Ij none b->z=false->false=rz b:=λh1 h2=>by unfold rz;rw[<-h1,h2];rfl
   by_cases h1:0<=x.v/\x.v<=1048576
   rotate_left
   .rw [decide_eq_false h1,zw] at q2;have hq:=hfalse q2 rfl;rw[<-hq]
    by_cases h2:0<=x.v
    .have h3:¬x.v<=1048576:=λe=>h1 ⟨h2,e⟩
     conv=>whnf
     repeat' (first|(refine gC ?_;first|refine cY ?_|(refine gD ?_;first|refine cI ?_|refine cJ ?_))|refine gL (.map ?_)|refine gI (gM (iE ?_))|refine ae.nrm ?_)<;>conv=>whnf
    .conv=>whnf
     repeat' (first|(refine gC ?_;first|refine cY ?_|refine gD (cI ?_))|refine gL (.map ?_)|refine gI (gM (iE ?_))|refine ae.nrm ?_)<;>conv=>whnf
   rw[decide_eq_true h1,za] at q2;obtain⟨h2,h3⟩:=h1
   cases j with
   |zero=>
    simp only[xI,Hm,za] at q2
    cases hxr:x.t.right with
    |false=>
     rw[hxr] at hr q2;have hq:=hfalse q2 rfl;rw[<-hq]
     conv=>whnf
     repeat' (first|refine gG (al.fn (hr) ?_)|(refine gC ?_;first|refine cN ?_|refine .not ?_|(refine gD ?_;first|refine cI ?_|refine cJ ?_))|refine gL (.map ?_)|refine gI (gM (iE ?_))|refine ae.nrm ?_)<;>conv=>whnf
    |true=>
     rw[hxr,za] at q2;rw[hxr] at hr
     conv=>whnf
     repeat' (first|refine gG (al.fn (hr) ?_)|(refine gC ?_;first|refine cY ?_|refine cN ?_|refine .not ?_|(refine gD ?_;first|refine cI ?_|refine cJ ?_))|refine gW (wI ?_)|refine gL (.map ?_)|refine gI (gM (iE ?_)))<;>conv=>whnf
     refine⟨0+1,⟨⟨hj,by rw[hnext];exact q2⟩,by omega⟩,?_⟩
     exact aH
   |succ j=>
    obtain⟨y,hy⟩:∃y,b[j]? =some y:=⟨_,zA (by omega)⟩
    have hy2:b[((((j+1:Nat):Int))-1).toNat]? =some y:=by rw[show ((((j+1:Nat):Int))-1).toNat=j by omega];exact hy
    simp only[xI,hy,zM,Hm] at q2
    by_cases h4:y.v<x.v
    rotate_left
    .rw [decide_eq_false h4,zw] at q2;have hq:=hfalse q2 rfl;rw[<-hq]
     conv=>whnf
     repeat' (first|(refine gC ?_;first|refine cY ?_|(refine gD ?_;first|refine cI ?_|refine cJ ?_))|refine gW (wI ?_)|refine gL (.map ?_)|(refine gI ?_;(refine gM ?_;first|refine iE ?_|refine iF ?_))|refine ae.nrm ?_)<;>conv=>whnf
    .rw [decide_eq_true h4,za] at q2
     cases hxr:x.t.right with
     |false=>
      rw[hxr] at hr q2;have hq:=hfalse q2 rfl;rw[<-hq]
      conv=>whnf
      repeat' (first|refine gG (al.fn (hr) ?_)|(refine gC ?_;first|refine cN ?_|refine .not ?_|(refine gD ?_;first|refine cI ?_|refine cJ ?_))|refine gW (wI ?_)|refine gL (.map ?_)|(refine gI ?_;(refine gM ?_;first|refine iE ?_|refine iF ?_))|refine ae.nrm ?_)<;>conv=>whnf
     |true=>
      rw[hxr,za] at q2;rw[hxr] at hr
      conv=>whnf
      repeat' (first|refine gG (al.fn (hr) ?_)|(refine gC ?_;first|refine cY ?_|refine .not ?_|(refine gD ?_;first|refine cI ?_|refine cJ ?_))|refine gW (wI ?_)|refine gL (.map ?_)|(refine gI ?_;(refine gM ?_;first|refine iE ?_|refine iF ?_)))<;>conv=>whnf
      refine⟨j+1+1,⟨⟨hj,by rw[hnext];exact q2⟩,by omega⟩,?_⟩
      exact aH
  .obtain rfl:j=b.length:=by omega
   rw[zj,Ij] at q2;have he:rz b=b.all λx=>Ad b x.t:=by unfold rz;rw[<-q2,za]
   rw[he]
   conv=>whnf
   repeat' (first|refine gF (aa.fn (hap) ?_)|refine gC (gD (cJ ?_))|refine gL (.map ?_)|refine ae.nrm ?_)<;>conv=>whnf
end Go.CK
namespace Go.CK
open Go.AM Go.Proofs
end Go.CK
namespace Go.CK
open Go.AM
def O5(b:List Bnd)(v:Int):Tm:=match bR b v with
 |some t=>t
 |none=>bX v
theorem GF(b:List Bnd)(t:Tm):t.cv->db b t=app (O5 b) t:=by
 induction t using Tm.bK with
 |h k n s l ih=>
 generalize ha:Tm.mk k n s l=t;replace ih:∀x∈t.args,x.cv->db b x=app (O5 b) x:=by subst ha;exact ih
 clear ha;intro hc
 by_cases h1:t.kind=1
 .rw [Ep h1,app_1 h1,O5]
  cases hl:bR b t.num with
  |some u=>rfl
  |none=>exact D9 hc h1
 .by_cases h2:t.kind=2
  .rw [r7 h2,vK h2];congr 1;exact List.map_congr_left λx hx=>ih x hx (On hc hx)
  .rw [r6 h1 h2,C3 h1 h2]
theorem Cs:∀{b:List Bnd} {v:Int} {t:Tm},bR b v=some t->(⟨v,t⟩:Bnd)∈b
 |x::b,v,t,h=>by
  rw[bR] at h;split at h
  .rename_i hv;cases h;subst hv;exact zV ..
  .exact zQ _ (Cs h)
theorem sT{a b:Int}(h:orI a b=0):a=0/\b=0:=by
 unfold orI at h;split at h
 .exact ⟨by assumption,h⟩
 .contradiction
theorem wF:∀(l m:List Tm),(∀x∈l,∀b:Tm,x.form=true->b.form=true->x.cmp b=0->x=b)->Tm.b5 l=true->Tm.b5 m=true->Tm.eD l m=0->l=m
 |[],m,_,_,_,h=>by
  rw[Tm.eD,jb] at h
  exact(zL (by omega)).symm
 |x::l,[],_,_,_,h=>by rw[Tm.eD] at h;exact absurd h (by decide)
 |x::l,y::m,ih,hl,hm,h=>by
  simp only[Tm.b5,zD] at hl hm;rw[Tm.eD] at h;have h:=sT h;rw[ih x (zV ..) y hl.1 hm.1 h.1,wF l m (λz hz=>ih z (zQ _ hz)) hl.2 hm.2 h.2]
theorem AG(a:Tm):∀b:Tm,a.form=true->b.form=true->a.cmp b=0->a=b:=by
 induction a using Tm.bK with
 |h k n s l ih=>
 intro b ha hb h;obtain⟨k2,n2,s2,l2⟩:=b;rw[Tm.cmp] at h;have h:=sT h;simp only[Tm.kind,Tm.num,Tm.name,Tm.args,jb] at h;obtain⟨hr,h⟩:=h
 by_cases h0:k=0
 .subst h0;have hk:k2=0:=by unfold ir at hr;repeat' split at hr<;>try omega
  subst hk;rw[if_pos (by decide),jb] at h
  rw[Ag rfl,decide_eq_true_eq] at ha hb;simp only[Tm.kind,Tm.num,Tm.name,Tm.args,ZY] at ha hb;rw[h,ha.2.2.1,hb.2.2.1,ha.2.2.2,hb.2.2.2]
 .by_cases h1:k=1
  .subst h1;have hk:k2=1:=by unfold ir at hr;repeat' split at hr<;>try omega
   subst hk;rw[if_pos (by decide),jb] at h
   rw[uL rfl,decide_eq_true_eq] at ha hb;simp only[Tm.kind,Tm.num,Tm.name,Tm.args,ZY] at ha hb;rw[h,ha.2.2.1,hb.2.2.1,ha.2.2.2,hb.2.2.2]
  .by_cases h2:k=2
   .subst h2;have hk:k2=2:=by unfold ir at hr;repeat' split at hr<;>try omega
    subst hk;rw[if_neg (by decide),if_pos (by decide)] at h
    have h3:=sT h;have h4:=sT h3.2;rw[rT rfl] at ha hb;rw[zD,zD] at ha hb;rw[Ie] at h4;have e1:n=0:=(of_decide_eq_true ha.1).1;have e2:n2=0:=(of_decide_eq_true hb.1).1;rw[e1,e2,h4.1,wF l l2 (λx hx b h1 h2 h3=>ih x hx b h1 h2 h3) ha.2.2 hb.2.2 h4.2]
   .rw [Af (t:=.mk k n s l) h0 h1 h2] at ha;cases ha
mutual
theorem wO:∀t:Tm,t.vs.length<=t.nodes
 |.mk k n s l=>by
  have:=jH l;rw[Tm.vs,Tm.nodes];split
  .simp
  .split
   .omega
   .simp
theorem jH:∀l:List Tm,(Tm.vss l).length<=Tm.aj l
 |[]=>by simp[Tm.vss]
 |t::r=>by
  have:=wO t;have:=jH r;simp only[Tm.vss,Tm.aj,zC];omega
end
end Go.CK
namespace Go.CK
open Go.AM
def Qv(a b:List Tm)(out:List Bnd)(e:Int):Prop:=(if (a.all Tm.right&&b.all Tm.right)=true then (if a.length=b.length then Ans (Eqs (a.zip b)) out e else out=[]/\e=9) else out=[]/\e=2)/\Rng out
theorem II{a b:List Tm}(hN:Tm.aj a+Tm.aj b<=300000000):∃out e,GK fN fF a b=some (out,e)/\Qv a b out e:=M8 hN
theorem D5{a b:Tm}{σ:Int->Tm}:Eqs [(a,b)] σ↔app σ a=app σ b:=by
 unfold Eqs;simp
theorem LA{a b:Tm}{out:List Bnd}{e:Int}(h:Qv [a] [b] out e)(ha:a.right=true)(hb:b.right=true):Ans (Eqs [(a,b)]) out e:=by
 have h:=h.1;rw[if_pos (by simp[ha,hb]),if_pos (show [a].length=[b].length from rfl)] at h
 exact h
theorem IB:∀{l:List Tm} {x:Tm},x∈l->x.sz<=Tm.szs l
 |y::l,x,hm=>by
  simp only[Tm.szs];rcases zI.1 hm with rfl|hm
  .omega
  .have:=IB hm;omega
end Go.CK
namespace Go.CK
open Go.AM Go.Proofs
def Bd.bnd(x:Bd):Bnd:=⟨x.var,x.term⟩
end Go.CK
namespace Go.CK
open Go.AM Go.Proofs
variable{vals:List AV}{bs:List Box}{Q:AV->List Box->Prop}
end Go.CK
namespace Go.CK
open Go.AM
structure Rg where
 nodes:List Nd
 cls:List Nat
section
variable{g:Rg}
end
end Go.CK
namespace Go.CK
open Go.AM
section
variable{g:Rg}
end
end Go.CK
namespace Go.CK
open Go.AM
def bndM(x:Int×Int):Prop:=0<=x.1/\x.1<=201/\0<=x.2/\x.2<=21
instance (x:Int×Int):Decidable (bndM x):=inferInstanceAs (Decidable (_/\_))
section
variable{g:Rg}
end
end Go.CK
namespace Go.CK
open Go.AM
section
variable{g:Rg}
end
end Go.CK
namespace Go.CK
open Go.AM Go.Proofs
end Go.CK
namespace Go.CK
open Go.AM Go.Proofs
end Go.CK
namespace Go.CK
open Go.AM Go.Proofs
end Go.CK
namespace Go.CK
open Go.AM Go.Proofs
end Go.CK
namespace Go.CK
open Go.AM Go.Proofs
end Go.CK
namespace Go.CK
open Go.AM Go.Proofs
end Go.CK
namespace Go.CK
open Go.AM Go.Proofs
end Go.CK
