/-
  Texts of this aV joined (wip/gen/bundle.py),those declarations only that are needed:IxR IxB RcChk IxC IxD IxE IxF RcIxa IxG. By an AI agent.
-/
import Derived.Test.YtcjfkbdbcgmomaaGreatDoorSaw
set_option linter.unusedSimpArgs false
set_option linter.unusedVariables false
set_option maxRecDepth 100000
namespace Go.CK
open Go.AM Go.Proofs
structure Bnd where
 v:Int
 t:Tm
def Bnd.av(x:Bnd):AV:=.agg [.int .i64 x.v,.int .i64 x.t.kind,.int .i64 x.t.num,.str x.t.name,.sl .no (x.t.args.map Tm.av)]
theorem lj:∀{l:List Tm} {x:Tm},x∈l->x.nodes<=Tm.aD l
 |y::l,x,h=>by
  simp only[Tm.aD];rcases zI.1 h with rfl|h
  .omega
  .have:=lj h;omega
theorem D6:∀{l:List Tm} {x:Tm},x∈l->x.sz<=Tm.szs l
 |y::l,x,hm=>by
  simp only[Tm.szs];rcases zI.1 hm with rfl|hm
  .omega
  .have:=D6 hm;omega
theorem Tm.v8(t:Tm):1<=t.nodes:=by
 cases t;simp only[Tm.nodes];omega
theorem cD:∀(l:List Tm),l.length<=Tm.aD l
 |[]=>zJ _
 |t::r=>by have:=cD r;have:=t.v8;simp only[Tm.aD,zY];omega
open Go.AM Go.Proofs
theorem GL(a b:Tm):Fun Tryz.prog 189 [a.avw,b.avw] (.bool (decide (a.cmp b=0))):=by
 refine Fun.of (kX (by simp) ?_) rfl rfl
 conv=>whnf
 repeat' (first|refine gF (ah.fn (oi a b) ?_)|refine ai.nrm ?_)<;>conv=>whnf
def bC:List Bnd->Int->Option Tm
 |[],_=>none
 |x::l,v=>if x.v=v then some x.t else bC l v
def tP:Option Tm->AV
 |some t=>.tup [t.avw,.bool true]
 |none=>.tup [(Tm.mk 0 0 ⟨⟨[]⟩⟩ []).avw,.bool false]
theorem wi(o:Option Tm):(tP o).lt 0=true:=by cases o<;>rfl
theorem Dd(l:List Bnd)(v:Int):Fun Tryz.prog 243 [.sl .no (l.map Bnd.av),.int .i64 v] (tP (bC l v)):=by
 refine Fun.of (Sem.assume λhg0 _=>?_) rfl (wi _);have hg:=(cO (hg0 (.sl .no (l.map Bnd.av)) (by simp) rfl)).1
 refine je (by simp) ?_
 conv=>whnf
 skip;refine aJ.by (fb:=true) (λ_ (j:Nat)=>⟨[(0,.sl .no (l.map Bnd.av)),(1,.int .i64 v),(4,.ptr 0 0),(6,.int .i64 (j:Int))],[.cells [.int .i64 0,.int .i64 0,.str ⟨⟨[]⟩⟩,.sl .full []]],0⟩) (λj=>j<=l.length/\bC (l.drop j) v=bC l v) (λj=>l.length-j) 0 ⟨zJ _,rfl⟩ ?_ ?_
 .exact bH
 .rintro j ⟨q1,q2⟩
  by_cases hj:j<l.length
  .obtain ⟨x,hx⟩:∃x,l[j]? =some x:=⟨_,zA hj⟩;rw[zH hj,(zB.1 hx).2,bC] at q2
   by_cases hv:x.v=v
   .rw [if_pos hv] at q2;rw[<-q2]
    conv=>whnf
    repeat' (first|refine gC (gD (cI ?_))|refine gL (.map ?_)|refine gI (gM (iE ?_)))<;>conv=>whnf
    conv=>whnf
    repeat' refine ai.nrm ?_<;>conv=>whnf
    rfl
   .rw [if_neg hv] at q2
    conv=>whnf
    repeat' (first|(refine gC ?_;(refine gD ?_;first|refine cI ?_|refine cJ ?_))|refine gW (wI ?_)|refine gL (.map ?_)|refine gI (gM (iE ?_)))<;>conv=>whnf
    refine⟨j+1,⟨⟨hj,q2⟩,by omega⟩,?_⟩
    exact bH
  .obtain rfl:j=l.length:=by omega
   rw[zk,bC] at q2;rw[<-q2]
   conv=>whnf
   repeat' (first|refine gC (gD (cJ ?_))|refine gL (.map ?_))<;>conv=>whnf
   conv=>whnf
   repeat' refine ai.nrm ?_<;>conv=>whnf
   rfl
mutual
def cV(b:List Bnd):Tm->Tm
 |.mk k n s l=>if k=1 then (match bC b n with|some x=>x|none=>.mk k n s l) else if k=2 then .mk k n s (EP b l) else .mk k n s l
def EP(b:List Bnd):List Tm->List Tm
 |[]=>[]
 |t::r=>cV b t::EP b r
end
theorem w6(b:List Bnd):∀l:List Tm,EP b l=l.map (cV b)
 |[]=>rfl
 |t::r=>by rw[EP,w6 b r];rfl
theorem Ab{b:List Bnd}{t:Tm}(h:t.kind=1):cV b t=match bC b t.num with|some x=>x|none=>t:=by
 obtain⟨k,n,s,l⟩:=t;simp only[Tm.kind] at h;rw[cV,if_pos h];rfl
theorem Aa{b:List Bnd}{t:Tm}(h:t.kind=2):cV b t=.mk t.kind t.num t.name (t.args.map (cV b)):=by
 obtain⟨k,n,s,l⟩:=t;simp only[Tm.kind] at h;rw[cV,if_neg (by omega),if_pos h,w6];rfl
theorem z8{b:List Bnd}{t:Tm}(h1:¬t.kind=1)(h2:¬t.kind=2):cV b t=t:=by
 obtain⟨k,n,s,l⟩:=t;simp only[Tm.kind] at h1 h2;rw[cV,if_neg h1,if_neg h2]
theorem oD{b:List Bnd}{l:List Tm} (hL:l.length<=4000000000) (h:∀x∈l,Fun Tryz.prog 216 [.sl .no (b.map Bnd.av),x.avw] (cV b x).avw):Fun Tryz.prog 190 [.sl .no (b.map Bnd.av),.sl .no (l.map Tm.av)] (.sl .no ((l.map (cV b)).map Tm.av)):=by
 refine Fun.of (Sem.assume fun _ _=>?_) rfl rfl;have hg:l.length<=4294967296:=by omega
 refine fM (by simp) ?_
 conv=>whnf
 skip;refine aJ.by (fb:=true) (λ_ (j:Nat)=>⟨[(0,.sl .no (b.map Bnd.av)),(1,.sl .no (l.map Tm.av)),(5,.sl (.own 4) (((l.take j).map (cV b)).map Tm.av)),(6,.int .i64 (j:Int))],[],0⟩) (λj=>j<=l.length) (λj=>l.length-j) 0 (zJ _) ?_ ?_
 .refine az.at_ ?_ rfl
  conv=>whnf
  refine And.intro ?_ ?_<;>conv=>whnf
  all_goals repeat' (first|(refine gV ?_;first|refine vE ?_|refine vI ?_|((refine gK ?_;refine vD ?_ ?_);(focus (simp[AV.norm,AV.bG,];done))))|exact True.intro)<;>conv=>whnf
 .rintro j q1
  by_cases hj:j<l.length
  .obtain ⟨x,hx⟩:∃x,l[j]? =some x:=⟨_,zA hj⟩;have htk:l.take (j+1)=l.take j++[x]:=by rw[ZD,hx];rfl
   have hcall:=h x (zE hx)
   conv=>whnf
   repeat' (first|refine gF (ah.fn (hcall) ?_)|refine gC (gD (cI ?_))|refine gW (wI ?_)|refine gL (.map ?_)|refine gN (nS ?_)|refine gI (gT (iA ?_)))<;>conv=>whnf
   refine⟨j+1,⟨hj,by omega⟩,?_⟩
   rw[htk];refine az.at_ ?_ rfl
   conv=>whnf
   refine And.intro ?_ ?_<;>conv=>whnf
   all_goals repeat' (first|(refine gV ?_;first|refine vE ?_|refine vI ?_|(refine WkN.sl ?_ ?_;(focus (simp[AV.norm,AV.bG,Tm.sj,Tm.avw];done))))|exact True.intro)<;>conv=>whnf
  .obtain rfl:j=l.length:=by omega
   rw[zm (zG _)]
   conv=>whnf
   repeat' (first|refine gC (gD (cJ ?_))|refine gL (.map ?_)|refine ai.nrm ?_)<;>conv=>whnf
theorem F6(b:List Bnd)(t:Tm):t.nodes<=1000000->Fun Tryz.prog 216 [.sl .no (b.map Bnd.av),t.avw] (cV b t).avw:=by
 induction t using Tm.bu with
 |h k i s l ih=>
 intro hN;generalize ha:Tm.mk k i s l=t at hN|-;replace ih:∀x∈t.args,x.nodes<=1000000->Fun Tryz.prog 216 [.sl .no (b.map Bnd.av),x.avw] (cV b x).avw:=by subst ha;exact ih
 have hnl:Tm.aD t.args+1<=t.nodes:=by subst ha;simp only[Tm.nodes,Tm.args];omega
 have hlen:=cD t.args
 clear ha
 by_cases h1:t.kind=1
 .rw [Ab h1];have hl:=Dd b t.num
  cases hlk:bC b t.num with
  |none=>
   rw[hlk] at hl;have hl:Fun Tryz.prog 243 [.sl .no (b.map Bnd.av),.int .i64 t.num] (.tup [.agg [.int .i64 0,.int .i64 0,.str ⟨⟨[]⟩⟩,.sl .no []],.bool false]):=hl;refine Fun.of (bw (by simp) ?_) rfl rfl
   conv=>whnf
   repeat' (first|refine gF (ah.fn (hl) ?_)|(refine gC ?_;first|refine cN ?_|refine gD (cI ?_)))<;>conv=>whnf
   conv=>whnf
   repeat' refine ai.nrm ?_<;>conv=>whnf
   rfl
  |some x=>
   rw[hlk] at hl;have hl:Fun Tryz.prog 243 [.sl .no (b.map Bnd.av),.int .i64 t.num] (.tup [.agg [.int .i64 x.kind,.int .i64 x.num,.str x.name,.sl .no (x.args.map Tm.av)],.bool true]):=hl;refine Fun.of (bw (by simp) ?_) rfl rfl
   conv=>whnf
   repeat' (first|refine gF (ah.fn (hl) ?_)|(refine gC ?_;first|refine cY ?_|refine gD (cI ?_)))<;>conv=>whnf
   conv=>whnf
   repeat' refine ai.nrm ?_<;>conv=>whnf
   rfl
 .by_cases h2:t.kind=2
  .rw [Aa h2];have hl:=oD (by omega) fun x hx=>ih x hx (by have:=lj hx;omega);refine Fun.of (bw (by simp) ?_) rfl rfl
   conv=>whnf
   repeat' (first|refine gF (ah.fn (hl) ?_)|(refine gC ?_;(refine gD ?_;first|refine cI ?_|refine cJ ?_)))<;>conv=>whnf
   conv=>whnf
   repeat' refine ai.nrm ?_<;>conv=>whnf
   rfl
  .rw [z8 h1 h2];refine Fun.of (bw (by simp) ?_) rfl rfl
   conv=>whnf
   repeat' refine gC (gD (cJ ?_))<;>conv=>whnf
   conv=>whnf
   repeat' refine ai.nrm ?_<;>conv=>whnf
   rfl
mutual
theorem GB:∀t:Tm,t.sz<=t.nodes
 |.mk k n s l=>by
  have:=nQ l;simp only[Tm.sz,Tm.nodes];split<;>omega
theorem nQ:∀l:List Tm,Tm.szs l<=Tm.aD l
 |[]=>zG _
 |t::r=>by
  have:=GB t;have:=nQ r;simp only[Tm.szs,Tm.aD];omega
end
mutual
theorem FM:∀t:Tm,t.dep<=t.nodes
 |.mk k n s l=>by
  have:=o7 l;simp only[Tm.dep,Tm.nodes];split<;>omega
theorem o7:∀l:List Tm,Tm.ji l<=Tm.aD l
 |[]=>zG _
 |t::r=>by
  have:=FM t;have:=o7 r;simp only[Tm.ji,Tm.aD];omega
end
theorem Au(t:Tm):t.nodes<=1000000000->Fun Tryz.prog 185 [t.avw] (.int .i64 (t.sz:Int)):=by
 induction t using Tm.bu with
 |h k i s l ih=>
 intro hN;generalize ha:Tm.mk k i s l=t at hN|-;replace ih:∀x∈t.args,x.nodes<=1000000000->Fun Tryz.prog 185 [x.avw] (.int .i64 (x.sz:Int)):=by subst ha;exact ih
 have hnl:Tm.aD t.args+1<=t.nodes:=by subst ha;simp only[Tm.nodes,Tm.args];omega
 clear ha
 have hsz:t.sz=1+Tm.szs t.use:=by
  unfold Tm.use
  by_cases h2:t.kind=2
  .rw [if_pos h2,xy h2]
  .rw [if_neg h2,xx h2];rfl
 have huse:∀x∈t.use,x∈t.args:=λx hx=>by unfold Tm.use at hx;split at hx;exact hx;cases hx
 have hul:Tm.aD t.use<=Tm.aD t.args:=by unfold Tm.use;split;exact zG _;exact zJ _
 have hlen:=cD t.use;have hszn:=nQ t.use;rw[hsz];refine Fun.of (kW (by simp) ?_) rfl rfl
 conv=>whnf
 repeat' refine gF (ah.fn (tp) ?_)<;>conv=>whnf
 refine aJ.by (fb:=true) (λ_ (j:Nat)=>⟨[(3,.int .i64 ((1+Tm.szs (t.use.take j):Nat):Int)),(4,.sl .no (t.use.map Tm.av)),(5,.int .i64 (j:Int))],[],0⟩) (λj=>j<=t.use.length) (λj=>t.use.length-j) 0 (zJ _) ?_ ?_
 .rw [ZM];refine az.lay [] oko ?_
  conv=>whnf
  refine az.at_ ?_ rfl
  conv=>whnf
  refine And.intro ?_ ?_<;>conv=>whnf
  all_goals repeat' (first|(refine gV ?_;first|refine vE ?_|refine vI ?_|(refine WkN.norm ?_ ?_;(focus (simp[AV.norm,AV.bG,Tm.szs,Tm.ji];done))))|exact True.intro)<;>conv=>whnf
 .rintro j q1
  by_cases hj:j<t.use.length
  .obtain ⟨x,hx⟩:∃x,t.use[j]? =some x:=⟨_,zA hj⟩;have htk:t.use.take (j+1)=t.use.take j++[x]:=by rw[ZD,hx];rfl
   have hst:=ph t.use hx;have hm:=lj (zE hx);have hcall:=ih x (huse x (zE hx)) (by omega)
   conv=>whnf
   repeat' (first|refine gF (ah.fn (hcall) ?_)|refine gC (gD (cI ?_))|refine gW (wI ?_)|refine gL (.map ?_)|refine gI (gT (iA ?_)))<;>conv=>whnf
   refine⟨j+1,⟨hj,by omega⟩,?_⟩
   rw[htk,mU];exact bH
  .obtain rfl:j=t.use.length:=by omega
   rw[zm (zG _)]
   conv=>whnf
   repeat' (first|refine gC (gD (cJ ?_))|refine gL (.map ?_)|refine ai.nrm ?_)<;>conv=>whnf
theorem FL(t:Tm):t.nodes<=1000000000->Fun Tryz.prog 211 [t.avw] (.int .i64 (t.dep:Int)):=by
 induction t using Tm.bu with
 |h k i s l ih=>
 intro hN;generalize ha:Tm.mk k i s l=t at hN|-;replace ih:∀x∈t.args,x.nodes<=1000000000->Fun Tryz.prog 211 [x.avw] (.int .i64 (x.dep:Int)):=by subst ha;exact ih
 have hnl:Tm.aD t.args+1<=t.nodes:=by subst ha;simp only[Tm.nodes,Tm.args];omega
 clear ha
 have hsz:t.dep=Tm.ji t.use+1:=by
  unfold Tm.use
  by_cases h2:t.kind=2
  .rw [if_pos h2,EG h2]
  .rw [if_neg h2,BN h2];rfl
 have huse:∀x∈t.use,x∈t.args:=λx hx=>by unfold Tm.use at hx;split at hx;exact hx;cases hx
 have hul:Tm.aD t.use<=Tm.aD t.args:=by unfold Tm.use;split;exact zG _;exact zJ _
 have hlen:=cD t.use;have hdn:Tm.ji t.use<=Tm.aD t.use:=o7 t.use;rw[hsz];refine Fun.of (j1 (by simp) ?_) rfl rfl
 conv=>whnf
 repeat' refine gF (ah.fn (tp) ?_)<;>conv=>whnf
 refine aJ.by (fb:=true) (λ_ (j:Nat)=>⟨[(3,.int .i64 ((Tm.ji (t.use.take j):Nat):Int)),(4,.sl .no (t.use.map Tm.av)),(5,.int .i64 (j:Int))],[],0⟩) (λj=>j<=t.use.length) (λj=>t.use.length-j) 0 (zJ _) ?_ ?_
 .rw [ZM];refine az.lay [] oko ?_
  conv=>whnf
  refine az.at_ ?_ rfl
  conv=>whnf
  refine And.intro ?_ ?_<;>conv=>whnf
  all_goals repeat' (first|(refine gV ?_;first|refine vE ?_|refine vI ?_|(refine WkN.norm ?_ ?_;(focus (simp[AV.norm,AV.bG,Tm.szs,Tm.ji];done))))|exact True.intro)<;>conv=>whnf
 .rintro j q1
  by_cases hj:j<t.use.length
  .obtain ⟨x,hx⟩:∃x,t.use[j]? =some x:=⟨_,zA hj⟩;have htk:t.use.take (j+1)=t.use.take j++[x]:=by rw[ZD,hx];rfl
   have hm:=lj (zE hx);have hcall:=ih x (huse x (zE hx)) (by omega)
   conv=>whnf
   repeat' (first|refine gF (ah.fn (hcall) ?_)|refine gC (gD (cI ?_))|refine gW (wI ?_)|refine gL (.map ?_)|refine gI (gT (iA ?_)))<;>conv=>whnf
   refine⟨j+1,⟨hj,by omega⟩,?_⟩
   rw[htk,qX];exact bH
  .obtain rfl:j=t.use.length:=by omega
   rw[zm (zG _)]
   conv=>whnf
   repeat' (first|refine gC (gD (cJ ?_))|refine gW (wI ?_)|refine gL (.map ?_)|refine ai.nrm ?_)<;>conv=>whnf
   rfl
theorem nC{l:List Tm}{x:Tm}(h:x∈l)(hf:x.form=false):Tm.fQ l=false:=by
 rw[Bool.eq_false_iff];intro e;rw[qS e h] at hf;cases hf
set_option maxHeartbeats 1000000 in
theorem HX(t:Tm):Fun Tryz.prog 210 [t.avw] (.bool t.form):=by
 induction t using Tm.bu with
 |h k i s l ih=>
 generalize ha:Tm.mk k i s l=t;replace ih:∀x∈t.args,Fun Tryz.prog 210 [x.avw] (.bool x.form):=by subst ha;exact ih
 clear ha;refine Fun.assume rfl λhg0=>?_;have hg:=(pX (hg0 t.avw (by simp))).2.1
 by_cases hk2:t.kind=2
 .rw [HS hk2];have hoo:=GZ t.name;have hro:=vO t.name
  by_cases h3:t.num=0
  rotate_left
  .rw [decide_eq_false (λe=>h3 e.1),zy];cases hop:fe t.name<;>rw[hop] at hoo
   all_goals
    refine Fun.of (aC (by simp) ?_) rfl rfl
    conv=>whnf
    repeat' (first|refine gF (ah.fn (hoo) ?_)|(refine gC ?_;first|refine cY ?_|refine cN ?_|refine .not ?_|(refine gD ?_;first|refine cI ?_|refine cJ ?_))|refine gL (.map ?_)|refine ai.nrm ?_)<;>conv=>whnf
    try rfl
  by_cases h6:t.args.length<=6
  .rw [decide_eq_true (show t.num=0/\t.args.length<=6 from ⟨h3,h6⟩),zb]
   by_cases hol:fe t.name=true/\t.args.length=2
   .obtain ⟨hop,h2⟩:=hol;rw[hop,decide_eq_true h2,zb,Bool.or_true,zb];rw[hop] at hoo;refine Fun.of (aC (by simp) ?_) rfl rfl
    conv=>whnf
    repeat' (first|refine gF (ah.fn (hoo) ?_)|(refine gC ?_;first|refine cY ?_|refine cN ?_|refine .not ?_|(refine gD ?_;first|refine cI ?_|refine cJ ?_))|refine gL (.map ?_))<;>conv=>whnf
    refine aJ.by (fb:=true) (λ_ (j:Nat)=>⟨[(1,.ptr 0 0),(4,.int .i64 (j:Int))],[.cells [.int .i64 t.kind,.int .i64 t.num,.str t.name,.sl .no (t.args.map Tm.av)]],0⟩) (λj=>j<=t.args.length/\Tm.fQ (t.args.take j)=true) (λj=>t.args.length-j) 0 ⟨zJ _,rfl⟩ ?_ ?_
    .exact bH
    .rintro j ⟨q1,q2⟩
     by_cases hj:j<t.args.length
     .obtain ⟨x,hx⟩:∃x,t.args[j]? =some x:=⟨_,zA hj⟩;have htk:t.args.take (j+1)=t.args.take j++[x]:=by rw[ZD,hx];rfl
      have hcall:=ih x (zE hx)
      cases hxf:x.form with
      |false=>
       rw[hxf] at hcall
       conv=>whnf
       repeat' (first|refine gF (ah.fn (hcall) ?_)|(refine gC ?_;first|refine cN ?_|refine .not ?_|refine gD (cI ?_))|refine gL (.map ?_)|refine gI (gT (iA ?_))|refine ai.nrm ?_)<;>conv=>whnf
       exact congrArg AV.bool (nC (zE hx) hxf).symm
      |true=>
       rw[hxf] at hcall
       conv=>whnf
       repeat' (first|refine gF (ah.fn (hcall) ?_)|(refine gC ?_;first|refine cY ?_|refine .not ?_|refine gD (cI ?_))|refine gW (wI ?_)|refine gL (.map ?_)|refine gI (gT (iA ?_)))<;>conv=>whnf
       refine⟨j+1,⟨⟨hj,by rw[htk,iW,q2,hxf];rfl⟩,by omega⟩,?_⟩
       exact bH
     .obtain rfl:j=t.args.length:=by omega
      rw[zm (zG _)] at q2
      conv=>whnf
      repeat' (first|refine gC (gD (cJ ?_))|refine gL (.map ?_)|refine ai.nrm ?_)<;>conv=>whnf
      exact congrArg AV.bool q2.symm
   .have hob:(fe t.name&&decide (t.args.length=2))=false:=by
     rw[Bool.eq_false_iff];intro e;rw[zD,decide_eq_true_eq] at e;exact hol e
    rw[hob,Bool.or_false]
    cases hnr:fO t.name with
    |false=>
     rw[hnr] at hro;rw[zy]
     cases hop:fe t.name with
     |false=>
      rw[hop] at hoo;refine Fun.of (aC (by simp) ?_) rfl rfl
      conv=>whnf
      repeat' (first|(refine gF ?_;first|refine ah.fn (hoo) ?_|refine ah.fn (hro) ?_)|(refine gC ?_;first|refine cY ?_|refine cN ?_|refine .not ?_|(refine gD ?_;first|refine cI ?_|refine cJ ?_))|refine ai.nrm ?_)<;>conv=>whnf
     |true=>
      rw[hop] at hoo;have h2:¬t.args.length=2:=λe=>hol ⟨hop,e⟩;refine Fun.of (aC (by simp) ?_) rfl rfl
      conv=>whnf
      repeat' (first|(refine gF ?_;first|refine ah.fn (hoo) ?_|refine ah.fn (hro) ?_)|(refine gC ?_;first|refine cY ?_|refine cN ?_|refine .not ?_|(refine gD ?_;first|refine cI ?_|refine cJ ?_))|refine gL (.map ?_)|refine ai.nrm ?_)<;>conv=>whnf
    |true=>
     rw[hnr] at hro;rw[zb]
     cases hop:fe t.name with
     |false=>
      rw[hop] at hoo;refine Fun.of (aC (by simp) ?_) rfl rfl
      conv=>whnf
      repeat' (first|(refine gF ?_;first|refine ah.fn (hoo) ?_|refine ah.fn (hro) ?_)|(refine gC ?_;first|refine cY ?_|refine cN ?_|refine .not ?_|(refine gD ?_;first|refine cI ?_|refine cJ ?_))|refine gL (.map ?_))<;>conv=>whnf
      refine aJ.by (fb:=true) (λ_ (j:Nat)=>⟨[(1,.ptr 0 0),(4,.int .i64 (j:Int))],[.cells [.int .i64 t.kind,.int .i64 t.num,.str t.name,.sl .no (t.args.map Tm.av)]],0⟩) (λj=>j<=t.args.length/\Tm.fQ (t.args.take j)=true) (λj=>t.args.length-j) 0 ⟨zJ _,rfl⟩ ?_ ?_
      .exact bH
      .rintro j ⟨q1,q2⟩
       by_cases hj:j<t.args.length
       .obtain ⟨x,hx⟩:∃x,t.args[j]? =some x:=⟨_,zA hj⟩;have htk:t.args.take (j+1)=t.args.take j++[x]:=by rw[ZD,hx];rfl
        have hcall:=ih x (zE hx)
        cases hxf:x.form with
        |false=>
         rw[hxf] at hcall
         conv=>whnf
         repeat' (first|refine gF (ah.fn (hcall) ?_)|(refine gC ?_;first|refine cN ?_|refine .not ?_|refine gD (cI ?_))|refine gL (.map ?_)|refine gI (gT (iA ?_))|refine ai.nrm ?_)<;>conv=>whnf
         exact congrArg AV.bool (nC (zE hx) hxf).symm
        |true=>
         rw[hxf] at hcall
         conv=>whnf
         repeat' (first|refine gF (ah.fn (hcall) ?_)|(refine gC ?_;first|refine cY ?_|refine .not ?_|refine gD (cI ?_))|refine gW (wI ?_)|refine gL (.map ?_)|refine gI (gT (iA ?_)))<;>conv=>whnf
         refine⟨j+1,⟨⟨hj,by rw[htk,iW,q2,hxf];rfl⟩,by omega⟩,?_⟩
         exact bH
       .obtain rfl:j=t.args.length:=by omega
        rw[zm (zG _)] at q2
        conv=>whnf
        repeat' (first|refine gC (gD (cJ ?_))|refine gL (.map ?_)|refine ai.nrm ?_)<;>conv=>whnf
        exact congrArg AV.bool q2.symm
     |true=>
      rw[hop] at hoo;have h2:¬t.args.length=2:=λe=>hol ⟨hop,e⟩;refine Fun.of (aC (by simp) ?_) rfl rfl
      conv=>whnf
      repeat' (first|(refine gF ?_;first|refine ah.fn (hoo) ?_|refine ah.fn (hro) ?_)|(refine gC ?_;first|refine cY ?_|refine .not ?_|(refine gD ?_;first|refine cI ?_|refine cJ ?_))|refine gL (.map ?_))<;>conv=>whnf
      refine aJ.by (fb:=true) (λ_ (j:Nat)=>⟨[(1,.ptr 0 0),(4,.int .i64 (j:Int))],[.cells [.int .i64 t.kind,.int .i64 t.num,.str t.name,.sl .no (t.args.map Tm.av)]],0⟩) (λj=>j<=t.args.length/\Tm.fQ (t.args.take j)=true) (λj=>t.args.length-j) 0 ⟨zJ _,rfl⟩ ?_ ?_
      .exact bH
      .rintro j ⟨q1,q2⟩
       by_cases hj:j<t.args.length
       .obtain ⟨x,hx⟩:∃x,t.args[j]? =some x:=⟨_,zA hj⟩;have htk:t.args.take (j+1)=t.args.take j++[x]:=by rw[ZD,hx];rfl
        have hcall:=ih x (zE hx)
        cases hxf:x.form with
        |false=>
         rw[hxf] at hcall
         conv=>whnf
         repeat' (first|refine gF (ah.fn (hcall) ?_)|(refine gC ?_;first|refine cN ?_|refine .not ?_|refine gD (cI ?_))|refine gL (.map ?_)|refine gI (gT (iA ?_))|refine ai.nrm ?_)<;>conv=>whnf
         exact congrArg AV.bool (nC (zE hx) hxf).symm
        |true=>
         rw[hxf] at hcall
         conv=>whnf
         repeat' (first|refine gF (ah.fn (hcall) ?_)|(refine gC ?_;first|refine cY ?_|refine .not ?_|refine gD (cI ?_))|refine gW (wI ?_)|refine gL (.map ?_)|refine gI (gT (iA ?_)))<;>conv=>whnf
         refine⟨j+1,⟨⟨hj,by rw[htk,iW,q2,hxf];rfl⟩,by omega⟩,?_⟩
         exact bH
       .obtain rfl:j=t.args.length:=by omega
        rw[zm (zG _)] at q2
        conv=>whnf
        repeat' (first|refine gC (gD (cJ ?_))|refine gL (.map ?_)|refine ai.nrm ?_)<;>conv=>whnf
        exact congrArg AV.bool q2.symm
  .rw [decide_eq_false (λe=>h6 e.2),zy];have h2:¬t.args.length=2:=by omega
   cases hnr:fO t.name<;>rw[hnr] at hro<;>cases hop:fe t.name<;>rw[hop] at hoo
   all_goals
    refine Fun.of (aC (by simp) ?_) rfl rfl
    conv=>whnf
    repeat' (first|(refine gF ?_;first|refine ah.fn (hoo) ?_|refine ah.fn (hro) ?_)|(refine gC ?_;first|refine cY ?_|refine cN ?_|refine .not ?_|(refine gD ?_;first|refine cI ?_|refine cJ ?_))|refine gL (.map ?_)|refine ai.nrm ?_)<;>conv=>whnf
    try rfl
 .by_cases hk0:t.kind=0
  .rw [HW hk0];refine Fun.of (aC (by simp) ?_) rfl rfl
   conv=>whnf
   repeat' (first|(refine gC ?_;first|refine cN ?_|(refine gD ?_;first|refine cI ?_|refine cJ ?_)|refine aj.le (λhc=>?_) (λhc=>?_)|refine aj.dec (λhc=>?_) (λhc=>?_))|refine gL (.map ?_)|refine ai.nrm ?_)<;>conv=>whnf
   all_goals
    refine congrArg AV.bool ?_;symm
    first
     |(rw[decide_eq_decide];exact⟨λh=>by omega,λh=>⟨by omega,by omega,by assumption,by omega⟩⟩)
     |(rw[decide_eq_decide];exact⟨λ⟨_,_,_,h⟩=>by omega,λh=>⟨by omega,by omega,by assumption,by omega⟩⟩)
     |(rw[decide_eq_false_iff_not];rintro⟨e1,e2,e3,e4⟩;first|omega|contradiction)
     |(rw[decide_eq_true_iff];exact⟨by omega,by omega,by assumption,by omega⟩)
  .by_cases hk1:t.kind=1
   .rw [HU hk1];refine Fun.of (aC (by simp) ?_) rfl rfl
    conv=>whnf
    repeat' (first|(refine gC ?_;first|refine cN ?_|(refine gD ?_;first|refine cI ?_|refine cJ ?_)|refine aj.le (λhc=>?_) (λhc=>?_)|refine aj.dec (λhc=>?_) (λhc=>?_))|refine gL (.map ?_)|refine ai.nrm ?_)<;>conv=>whnf
    all_goals
     refine congrArg AV.bool ?_;symm
     first
      |(rw[decide_eq_decide];exact⟨λh=>by omega,λh=>⟨by omega,by omega,by assumption,by omega⟩⟩)
      |(rw[decide_eq_decide];exact⟨λ⟨_,_,_,h⟩=>by omega,λh=>⟨by omega,by omega,by assumption,by omega⟩⟩)
      |(rw[decide_eq_false_iff_not];rintro⟨e1,e2,e3,e4⟩;first|omega|contradiction)
      |(rw[decide_eq_true_iff];exact⟨by omega,by omega,by assumption,by omega⟩)
   .rw [HR hk0 hk1 hk2];refine Fun.of (aC (by simp) ?_) rfl rfl
    conv=>whnf
    repeat' (first|refine gC (gD (cJ ?_))|refine ai.nrm ?_)<;>conv=>whnf
theorem Fj(t:Tm)(hN:t.nodes<=1000000000):Fun Tryz.prog 184 [t.avw] (.bool t.right):=by
 have h1:=HX t;have h2:=Au t hN;have h3:=FL t hN
 have he:t.right=(t.form&&(decide ((t.sz:Int)<=200)&&decide ((t.dep:Int)<=20))):=by
  unfold Tm.right vB;rw[Bool.decide_and]
 rw[he];cases hf:t.form<;>rw[hf] at h1
 all_goals
  refine Fun.of (jZ (by simp) ?_) rfl rfl
  conv=>whnf
  repeat' (first|(refine gF ?_;first|refine ah.fn (h1) ?_|refine ah.fn (h2) ?_|refine ah.fn (h3) ?_)|(refine gC ?_;first|refine cY ?_|refine cN ?_|(refine gD ?_;first|refine cI ?_|refine cJ ?_)|refine aj.le (λhc=>?_) (λhc=>?_))|refine ai.nrm ?_)<;>conv=>whnf
  all_goals (first|rfl|(refine congrArg AV.bool ?_;first|(simp[*];done)|(simp[*];omega)))
end Go.CK
namespace Go.CK
open Go.AM Go.Proofs
open Go.AM Go.Proofs
theorem FY{l:List Tm}(hl:l.length<=9223372036854775807):AM.Sem Tryz.prog 102 [.ptr 0 0,.sl .no (l.map Tm.av),.int .i64 20] [.cells [.int .i64 200]] (pc 200 (vLB 200 20 l) (Tm.szs l)):=DQ ⟨by decide,by decide⟩ ⟨by decide,by decide⟩ hl λx _ n h1 h2=>Gk x n 20 h1 h2 (by decide) (by decide)
def At.right(x:At):Bool:=fO x.name&&(decide (x.args.length<=6)&&vLB 200 20 x.args)
theorem qf(x:At)(hl:x.args.length<=9223372036854775807):Fun Tryz.prog 49 [x.av] (.bool x.right):=by
 have hn:=tj x.name;unfold At.right
 cases h1:fO x.name with
 |false=>
  rw[h1] at hn;refine Fun.of (eH (by simp) ?_) rfl rfl
  conv=>whnf
  repeat' (first|refine gF (ah.fn (hn) ?_)|refine gC (cN ?_)|refine ai.nrm ?_)<;>conv=>whnf
  rfl
 |true=>
 rw[h1] at hn
 by_cases h6:x.args.length<=6
 .rw [decide_eq_true h6];refine Fun.of (eH (by simp) ?_) rfl rfl
  conv=>whnf
  repeat' (first|refine gF (ah.fn (hn) ?_)|(refine gC ?_;first|refine cY ?_|refine gD (cI ?_))|refine gL (.map ?_))<;>conv=>whnf
  refine ah.at [1] (FY hl) rfl rfl ?_ oko ?_
  .rintro r bs' ⟨rfl,m',rfl,_⟩;exact⟨rfl,rfl,oko⟩
  rintro r bs' ⟨rfl,m',rfl,hm'⟩
  conv=>whnf
  repeat' refine gC (gD (cI ?_))<;>conv=>whnf
  conv=>whnf
  repeat' refine ai.nrm ?_<;>conv=>whnf
  rfl
 .rw [decide_eq_false h6];refine Fun.of (eH (by simp) ?_) rfl rfl
  conv=>whnf
  repeat' (first|refine gF (ah.fn (hn) ?_)|(refine gC ?_;first|refine cY ?_|refine gD (cJ ?_))|refine gL (.map ?_)|refine ai.nrm ?_)<;>conv=>whnf
  rfl
def raB(l:List Tm):Bool:=l.all Tm.right&&decide ((Tm.szs l:Int)<=200)
theorem H7(n:Int)(h:0<=n):∀l:List Tm,(Tm.ji l:Int)<=n↔∀x∈l,(x.dep:Int)<=n
 |[]=>by simp[Tm.ji,h]
 |x::l=>by
  have ih:=H7 n h l;simp only[Tm.ji,zI,forall_eq_or_imp,<-ih];omega
theorem wD:∀l:List Tm,Tm.fQ l=l.all Tm.form
 |[]=>rfl
 |x::l=>by rw[Tm.fQ,List.all_cons,wD l]
theorem Kj(l:List Tm):raB l=vLB 200 20 l:=by
 unfold raB vLB;rw[Bool.eq_iff_iff,wD];simp only[zD,decide_eq_true_eq,zT];rw[H7 20 (by decide)]
 constructor
 .rintro ⟨h1,h2⟩;exact⟨λx hx=>(xi (h1 x hx)).1,h2,λx hx=>(xi (h1 x hx)).2.2⟩
 .rintro ⟨h1,h2,h3⟩;refine⟨λx hx=>?_,h2⟩;have:=D6 hx;unfold Tm.right vB;rw[h1 x hx,zb,decide_eq_true_eq];exact⟨by omega,h3 x hx⟩
theorem xM{l:List Tm}(hN:Tm.aD l<=100000000)(hl:l.length<=4000000000):Fun Tryz.prog 135 [.sl .no (l.map Tm.av)] (.bool (vLB 200 20 l)):=by
 rw[<-Kj];refine Fun.of (gb (by simp) ?_) rfl rfl
 conv=>whnf
 skip;refine aJ.by (fb:=true) (λ_ (j:Nat)=>⟨[(0,.sl .no (l.map Tm.av)),(3,.int .i64 (Tm.szs (l.take j):Int)),(4,.int .i64 (j:Int))],[],0⟩) (λj=>j<=l.length/\(l.take j).all Tm.right=true) (λj=>l.length-j) 0 ⟨zJ _,rfl⟩ ?_ ?_
 .refine az.at_ ?_ rfl
  conv=>whnf
  refine And.intro ?_ ?_<;>conv=>whnf
  all_goals repeat' (first|(refine gV ?_;first|refine vE ?_|refine vI ?_|(refine WkN.norm ?_ ?_;(focus (simp[AV.norm,AV.bG,Tm.szs];done))))|exact True.intro)<;>conv=>whnf
 .rintro j ⟨q1,q2⟩
  by_cases hj:j<l.length
  .obtain ⟨x,hx⟩:∃x,l[j]? =some x:=⟨_,zA hj⟩;have htk:l.take (j+1)=l.take j++[x]:=by rw[ZD,hx];rfl
   have hxm:=zE hx;have hxn:=lj hxm;have h1:=Fj x (by omega)
   have h2:=Au x (by omega)
   have h3:=ph l hx;have h4:=nQ l
   cases hr:x.right with
   |false=>
    rw[hr] at h1
    have:raB l=false:=by
     unfold raB;rw[List.all_eq_false.2 ⟨x,hxm,by simp[hr]⟩,zy]
    rw[this]
    conv=>whnf
    repeat' (first|refine gF (ah.fn (h1) ?_)|(refine gC ?_;first|refine cN ?_|refine .not ?_|refine gD (cI ?_))|refine gL (.map ?_)|refine gI (gT (iA ?_))|refine ai.nrm ?_)<;>conv=>whnf
   |true=>
    rw[hr] at h1
    conv=>whnf
    repeat' (first|(refine gF ?_;first|refine ah.fn (h1) ?_|refine ah.fn (h2) ?_)|(refine gC ?_;first|refine cY ?_|refine .not ?_|refine gD (cI ?_))|refine gW (wI ?_)|refine gL (.map ?_)|refine gI (gT (iA ?_)))<;>conv=>whnf
    refine⟨j+1,⟨⟨hj,by rw[htk];simp[q2,hr]⟩,by omega⟩,?_⟩
    refine az.at_ ?_ rfl
    conv=>whnf
    refine And.intro ?_ ?_<;>conv=>whnf
    all_goals repeat' (first|(refine gV ?_;first|refine vE ?_|refine vI ?_|(refine WkN.norm ?_ ?_;(focus (simp[AV.norm,AV.bG,htk,mU];done))))|exact True.intro)<;>conv=>whnf
  .obtain rfl:j=l.length:=by omega
   rw[ZA] at q2|-;unfold raB;rw[q2,zb]
   conv=>whnf
   repeat' (first|refine gC (gD (cJ ?_))|refine gL (.map ?_)|refine ai.nrm ?_)<;>conv=>whnf
theorem mH(x:At)(hN:Tm.aD x.args<=100000000)(hl:x.args.length<=4000000000):Fun Tryz.prog 75 [x.av] (.bool x.right):=by
 have hn:=vO x.name;have hr:=xM hN hl;unfold At.right
 cases h1:fO x.name with
 |false=>
  rw[h1] at hn;refine Fun.of (bE (by simp) ?_) rfl rfl
  conv=>whnf
  repeat' (first|refine gF (ah.fn (hn) ?_)|refine gC (cN ?_)|refine ai.nrm ?_)<;>conv=>whnf
  all_goals rfl
 |true=>
 rw[h1] at hn
 by_cases h6:x.args.length<=6
 .rw [decide_eq_true h6];refine Fun.of (bE (by simp) ?_) rfl rfl
  conv=>whnf
  repeat' (first|(refine gF ?_;first|refine ah.fn (hn) ?_|refine ah.fn (hr) ?_)|(refine gC ?_;first|refine cY ?_|refine gD (cI ?_))|refine gL (.map ?_)|refine ai.nrm ?_)<;>conv=>whnf
  all_goals rfl
 .rw [decide_eq_false h6];refine Fun.of (bE (by simp) ?_) rfl rfl
  conv=>whnf
  repeat' (first|refine gF (ah.fn (hn) ?_)|(refine gC ?_;first|refine cY ?_|refine gD (cJ ?_))|refine gL (.map ?_)|refine ai.nrm ?_)<;>conv=>whnf
  all_goals rfl
end Go.CK
namespace Go.CK
open Go.AM Go.Proofs
variable{ae:List AV}{bs:List Box}{Q:AV->List Box->Prop}
def tt:RC:=
 (.seq (rR [0] [oQ 2 (.mov (.c (.bool false)))]) (.seq (.seq (rR [0,8] [qM 6 0,oQ 7 (.len false 6),oQ 8 (.bin .gtr 7 (.c (.int .i64 500)))]) (.cond 8 (.seq (rR [2] [oQ 2 (.mov (.c (.bool false)))]) .ret) .skip)) (.seq (rR [0,3] [oQ 3 (.mov (.c (.int .i64 0)))]) (.seq (.seq (rR [3,9,10,11] [qM 9 0,oQ 10 (.len false 9),oQ 11 (.mov (.c (.int .i64 0)))]) (.block 0 (.loop (.seq (rR [3,9,10,11,12] [oQ 12 (.bin .lss 11 10)]) (.seq (.cond 12 .skip (.exit 0)) (.seq (.block 1 (.seq (rR [3,5,9,10,11] [qI 13 3 9 11,qA 14 3 13,oQ 5 (.box (.c (.agg [(.int .i64 0),(.str ⟨⟨[]⟩⟩),(.sl .full [])]))),oN (.store 3 5 14)]) (.seq (.seq (rR [5,9,10,11,24] [qF 15 0 5,qL 16 15,qM 17 3,oQ 18 (.bin .leq 16 17),qM 19 18,oG 20 19 false (.bn 1 5),oG 21 19 false (.load true 2 20),oG 22 19 false (cF 49 [21]),oG 23 19 false (.un .not 22),oQ 24 (.pick 19 (.c (.bool true)) 23)])
 (.cond 24 (.seq (rR [2] [oQ 2 (.mov (.c (.bool false)))]) .ret) .skip)) (rR [3,9,10,11] [qF 25 0 5,qL 26 25,qM 3 26])))) (rR [3,9,10,11] [oQ 27 (.bin .add 11 (.c (.int .i64 1))),qM 11 27]))))))) (.seq (rR [2] [oQ 2 (.mov (.c (.bool true)))]) .ret)))))
theorem nf(hn:ae.length<=28)(h:SP Tryz.prog true ae bs tt [.slot 2] Q):AM.Sem Tryz.prog 40 ae bs Q:=
 oZ (keeps:=[(0,[0]),(1,[0,8]),(2,[2]),(3,[0,3]),(4,[3,9,10,11]),(5,[3,9,10,11,12]),(6,[3,5,9,10,11]),(7,[5,9,10,11,24]),(8,[2]),(9,[3,9,10,11]),(10,[3,9,10,11]),(11,[2])]) (solo:=[]) Tryz.func40 rfl hn h
end Go.CK
namespace Go.CK
end Go.CK
namespace Go.CK
end Go.CK
namespace Go.CK
end Go.CK
namespace Go.CK
end Go.CK
namespace Go.CK
open Go.AM Go.Proofs
variable{ae:List AV}{bs:List Box}{Q:AV->List Box->Prop}
def xW:RC:=
 (.seq (rR [0,1] [oQ 4 (.mov (.c .cU)),oQ 5 (.mov (.c (.int .i64 0)))]) (.seq (.seq (rR [0,1,17] [qM 11 0,oQ 12 (cF 40 [11]),oQ 13 (.un .not 12),qM 14 13,oG 15 14 false (.mov 1),oG 16 14 false (cF 41 [15,(.c (.fn (.func 42) [] []))]),oQ 17 (.pick 14 (.c (.bool true)) 16)]) (.cond 17 (.seq (rR [4,5] [oQ 4 (.mov (.c .cU)),oQ 5 (.mov (.c (.int .i64 2)))]) .ret) .skip)) (.seq (rR [0,1,6] [oQ 18 (.build [(.sl .full []),(.sl .full []),(.sl .full [])] []),oQ 19 (.box 18),qM 6 19]) (.seq (.seq (rR [0,6,20,21,22] [qM 20 1,oQ 21 (.len false 20),oQ 22 (.mov (.c (.int .i64 0)))]) (.block 0 (.loop (.seq (rR [0,6,20,21,22,23] [oQ 23 (.bin .lss 22 21)]) (.seq (.cond 23 .skip (.exit 0)) (.seq (.block 1 (.seq (rR [0,6,8,20,21,22] [qI 24 3 20 22,qA 25 3 24,oQ 8 (.box (.c (.agg [(.str ⟨⟨[]⟩⟩),(.int .i64 0),(.sl .full [])]))),oN (.store 3 8 25)]) (.seq (rR [0,6,8,20,21,22] [
 qF 26 2 8,qL 27 26,oQ 28 (cF 44 [27]),qF 29 2 8,oN (.store 1 29 28)]) (.seq (.mult [0,6,20,21,22] [(0,qM 30 6),(0,qM 31 6),(0,qK 32 31),(0,qF 33 0 32),(0,qL 34 33),(0,qA 35 3 8),(2,oQ 36 (.eff (.bsR 3) [35])),(2,oQ 37 (.eff (.sk 3) [34,36])),(0,qK 38 30),(0,qF 39 0 38),(0,oN (.store 1 39 37))]) (rR [0,6,20,21,22] [qM 40 6,qM 41 6,qK 42 41,qF 43 2 42,qL 44 43,oQ 45 (.eff .mkM []),oQ 46 (.eff (.bsR 1) [45]),oQ 47 (.eff (.sk 1) [44,46]),qK 48 40,qF 49 2 48,oN (.store 1 49 47)]))))) (rR [0,6,20,21,22] [oQ 50 (.bin .add 22 (.c (.int .i64 1))),qM 22 50]))))))) (.seq (.seq (rR [6,51,52,53] [qM 51 0,oQ 52 (.len false 51),oQ 53 (.mov (.c (.int .i64 0)))]) (.block 2 (.loop (.seq (rR [6,51,52,53,54] [oQ 54 (.bin .lss 53 52)]) (.seq (.cond 54 .skip (.exit 2)) (.seq (.block 3 (.seq (rR [6,10,51,52,53] [qI 55 3 51 53,qA 56 3 55,oQ 10 (.box (.c (.agg [(.int .i64 0),(.str ⟨⟨[]⟩⟩),(.sl .full [])]))),oN (.store 3 10 56)])
 (.mult [6,51,52,53] [(0,qM 57 6),(0,qM 58 6),(0,qK 59 58),(0,qF 60 1 59),(0,qL 61 60),(0,qA 62 3 10),(0,oQ 63 (cF 45 [62])),(2,oQ 64 (.eff (.bsR 3) [63])),(2,oQ 65 (.eff (.sk 3) [61,64])),(0,qK 66 57),(0,qF 67 1 66),(0,oN (.store 1 67 65))]))) (rR [6,51,52,53] [oQ 68 (.bin .add 53 (.c (.int .i64 1))),qM 53 68]))))))) (.seq (rR [6] [qM 69 6,oQ 70 (cF 46 [69])]) (.seq (rR [4,5] [qM 71 6,qM 4 71,oQ 5 (.mov (.c (.int .i64 0)))]) .ret)))))))
def tu:RC:=
 (.seq (rR [1] [oQ 1 (.box 0),oQ 2 (.mov (.c (.bool false)))]) (.seq (.seq (rR [1,19] [qF 6 0 1,qL 7 6,oQ 8 (cF 95 [7]),oQ 9 (.un .not 8),qM 10 9,oG 11 10 false (.bn 1 1),oG 12 10 false (.load false 1 11),oG 13 10 false (.bin .lss 12 (.c (.int .i64 0))),oQ 14 (.pick 10 (.c (.bool true)) 13),qM 15 14,oG 16 15 false (.bn 1 1),oG 17 15 false (.load false 1 16),oG 18 15 false (.bin .gtr 17 (.c (.int .i64 6))),oQ 19 (.pick 15 (.c (.bool true)) 18)]) (.cond 19 (.seq (rR [2] [oQ 2 (.mov (.c (.bool false)))]) .ret) .skip)) (.seq (rR [1,3] [oQ 3 (.mov (.c (.int .i64 (-1))))]) (.seq (.seq (rR [1,3,21,22,23] [qF 20 2 1,qL 21 20,oQ 22 (.len false 21),oQ 23 (.mov (.c (.int .i64 0)))]) (.block 0 (.loop (.seq (rR [1,3,21,22,23,24] [oQ 24 (.bin .lss 23 22)]) (.seq (.cond 24 .skip (.exit 0)) (.seq (.block 1 (.seq (rR [1,3,5,21,22,23] [qI 25 1 21 23,qL 26 25,qM 5 26])
 (.seq (.seq (rR [1,5,21,22,23,35] [qM 27 5,qM 28 3,oQ 29 (.bin .leq 27 28),qM 30 29,oG 31 30 false (.mov 5),oG 32 30 false (.bn 1 1),oG 33 30 false (.load false 1 32),oG 34 30 false (.bin .geq 31 33),oQ 35 (.pick 30 (.c (.bool true)) 34)]) (.cond 35 (.seq (rR [2] [oQ 2 (.mov (.c (.bool false)))]) .ret) .skip)) (rR [1,3,21,22,23] [qM 36 5,qM 3 36])))) (rR [1,3,21,22,23] [oQ 37 (.bin .add 23 (.c (.int .i64 1))),qM 23 37]))))))) (.seq (rR [2] [oQ 2 (.mov (.c (.bool true)))]) .ret)))))
theorem eJ(hn:ae.length<=38)(h:SP Tryz.prog true ae bs tu [.slot 2] Q):AM.Sem Tryz.prog 43 ae bs Q:=
 oZ (keeps:=[(0,[1]),(1,[1,19]),(2,[2]),(3,[1,3]),(4,[1,3,21,22,23]),(5,[1,3,21,22,23,24]),(6,[1,3,5,21,22,23]),(7,[1,5,21,22,23,35]),(8,[2]),(9,[1,3,21,22,23]),(10,[1,3,21,22,23]),(11,[2])]) (solo:=[]) Tryz.func43 rfl hn h
def tv:RC:=
 (.seq (rR [1] [oQ 1 (.box 0),oQ 2 (.mov (.c (.bool false)))]) (.seq (rR [2] [qA 3 3 1,oQ 4 (cF 43 [3]),oQ 5 (.un .not 4),qM 2 5]) .ret))
theorem tz(hn:ae.length<=6)(h:SP Tryz.prog true ae bs tv [.slot 2] Q):AM.Sem Tryz.prog 42 ae bs Q:=
 oZ (keeps:=[(0,[1]),(1,[2])]) (solo:=[]) Tryz.func42 rfl hn h
def cm:RC:=
 (.seq (rR [0,1] [oQ 4 (.mov (.c (.bool false)))]) (.seq (rR [4] [qM 5 0,qM 6 1,oQ 7 (cF 94 [5,6]),oQ 8 (.bin .geq 7 (.c (.int .i64 0))),qM 4 8]) .ret))
theorem cn(hn:ae.length<=9)(h:SP Tryz.prog true ae bs cm [.slot 4] Q):AM.Sem Tryz.prog 41 ae bs Q:=
 oZ (keeps:=[(0,[0,1]),(1,[4])]) (solo:=[]) Tryz.func41 rfl hn h
def kD:RC:=
 (.seq (rR [0] [oQ 2 (.mov (.c (.sl .full [])))]) (.seq (.seq (rR [0,4] [qM 3 0,oQ 4 (.eff (.A4 false) [3])]) (.cond 4 (.seq (rR [2] [oQ 2 (.mov (.c (.sl .full [])))]) .ret) .skip)) (.seq (rR [2] [oQ 5 (.aZ 1 []),qM 6 0,oQ 7 (.append 1 5 6),qM 2 7]) .ret)))
theorem kR(hn:ae.length<=8)(h:SP Tryz.prog true ae bs kD [.slot 2] Q):AM.Sem Tryz.prog 44 ae bs Q:=
 oZ (keeps:=[(0,[0]),(1,[0,4]),(2,[2]),(3,[2])]) (solo:=[]) Tryz.func44 rfl hn h
def jG:RC:=
 (.seq (.seq (rR [0,9,10,11] [qM 6 0,qK 7 6,qF 8 2 7,qL 9 8,oQ 10 (.len false 9),oQ 11 (.mov (.c (.int .i64 0)))]) (.block 0 (.loop (.seq (rR [0,9,10,11,12] [oQ 12 (.bin .lss 11 10)]) (.seq (.cond 12 .skip (.exit 0)) (.seq (.block 1 (.seq (rR [0,3,9,10,11] [qI 13 1 9 11,qL 14 13,qM 3 14]) (rR [0,9,10,11] [qM 15 3,oN (.eff (.tab .clr) [15])]))) (rR [0,9,10,11] [oQ 16 (.bin .add 11 (.c (.int .i64 1))),qM 11 16]))))))) (.seq (rR [0,20,21,22] [qM 17 0,qK 18 17,qF 19 1 18,qL 20 19,oQ 21 (.len false 20),oQ 22 (.mov (.c (.int .i64 0)))]) (.block 2 (.loop (.seq (rR [0,20,21,22,23] [oQ 23 (.bin .lss 22 21)]) (.seq (.cond 23 .skip (.exit 2)) (.seq (.block 3 (.seq (rR [0,5,20,21,22] [qI 24 3 20 22,qA 25 3 24,oQ 5 (.box (.c (.agg [(.int .i64 0),(.str ⟨⟨[]⟩⟩),(.sl .full [])]))),oN (.store 3 5 25)]) (rR [0,20,21,22] [qM 26 0,qA 27 3 5,oQ 28 (cF 51 [26,27])])))
 (rR [0,20,21,22] [oQ 29 (.bin .add 22 (.c (.int .i64 1))),qM 22 29]))))))))
theorem j7(hn:ae.length<=72)(h:SP Tryz.prog false ae bs xW [.slot 4,.slot 5] Q):AM.Sem Tryz.prog 11 ae bs Q:=
 oZ (keeps:=[(0,[0,1]),(1,[0,1,17]),(2,[4,5]),(3,[0,1,6]),(4,[0,6,20,21,22]),(5,[0,6,20,21,22,23]),(6,[0,6,8,20,21,22]),(7,[0,6,8,20,21,22]),(8,[0,6,20,21,22]),(9,[0,6,20,21,22]),(10,[0,6,20,21,22]),(11,[6,51,52,53]),(12,[6,51,52,53,54]),(13,[6,10,51,52,53]),(14,[6,51,52,53]),(15,[6,51,52,53]),(16,[6]),(17,[4,5]),(1000000,[36,37,46,47,64,65]),(2000008,[0,1,2,3,4,5,6,7,8,9,10]),(3000008,[0,0,0,0,0,0,2,2,0,0,0]),(2000014,[0,1,2,3,4,5,6,7,8,9,10,11]),(3000014,[0,0,0,0,0,0,0,2,2,0,0,0])]) (solo:=[]) Tryz.func11 rfl hn h
theorem jf(hn:ae.length<=30)(h:SP Tryz.prog false ae bs jG [] Q):AM.Sem Tryz.prog 46 ae bs Q:=
 oZ (keeps:=[(0,[0,9,10,11]),(1,[0,9,10,11,12]),(2,[0,3,9,10,11]),(3,[0,9,10,11]),(4,[0,9,10,11]),(5,[0,20,21,22]),(6,[0,20,21,22,23]),(7,[0,5,20,21,22]),(8,[0,20,21,22]),(9,[0,20,21,22])]) (solo:=[]) Tryz.func46 rfl hn h
end Go.CK
namespace Go.CK
open Go.AM Go.Proofs
def AT(n:Int):Int->List Int->Bool
 |_,[]=>true
 |last,p::l=>decide (last<p)&&(decide (p<n)&&AT n p l)
def Ac.right(a:Ac):Bool:=fO a.name&&(decide (0<=a.arity)&&(decide (a.arity<=6)&&AT a.arity (-1) a.positions))
def wo(l:List Int)(j:Nat):Int:=match j with
 |0=>-1
 |j+1=>l.getD j 0
theorem DS{a:Ac}(hl:a.positions.length<=10000000):Fun Tryz.prog 43 [a.av] (.bool a.right):=by
 have hn:=tj a.name;unfold Ac.right
 cases hb:fO a.name with
 |false=>
  rw[hb] at hn;refine Fun.of (eJ (by simp) ?_) rfl rfl
  conv=>whnf
  repeat' (first|refine gF (ah.fn (hn) ?_)|(refine gC ?_;first|refine cY ?_|refine cN ?_|refine .not ?_)|refine ai.nrm ?_)<;>conv=>whnf
  rfl
 |true=>
  rw[hb] at hn
  by_cases h0:0<=a.arity
  .rw [decide_eq_true h0]
   by_cases h6:a.arity<=6
   .rw [decide_eq_true h6];refine Fun.of (eJ (by simp) ?_) rfl rfl
    conv=>whnf
    repeat' (first|refine gF (ah.fn (hn) ?_)|(refine gC ?_;first|refine cY ?_|refine .not ?_|refine gD (cJ ?_))|refine gL (.map ?_))<;>conv=>whnf
    refine aJ.count (fb:=true) (a.positions.length) (λst_ j=>st_.oK [(3,.int .i64 (wo a.positions j)),(23,.int .i64 j)]) (λj=>AT a.arity (-1) a.positions=AT a.arity (wo a.positions j) (a.positions.drop j)) ?_ ?_ (λj hj hij=>?_) (λhij=>?_)
    .rfl
    .refine az.at_ ?_ rfl
     conv=>whnf
     refine And.intro ?_ ?_<;>conv=>whnf
     all_goals repeat' (first|(refine gV ?_;first|refine vE ?_|refine vI ?_|(refine WkN.norm ?_ ?_;(focus (simp[AV.norm,AV.bG,wo];done))))|refine gX (xB ?_)|exact True.intro)<;>conv=>whnf
    .obtain ⟨y,hy⟩:∃y,a.positions[j]? =some y:=⟨_,zA hj⟩;rw[zH hj,(zB.1 hy).2,AT] at hij;have hla:wo a.positions (j+1)=y:=by simp[wo,hy]
     generalize wo a.positions j=la at*
     by_cases h1:la<y
     .rw [decide_eq_true h1,zb] at hij
      by_cases h2:y<a.arity
      .rw [decide_eq_true h2,zb] at hij
       conv=>whnf
       repeat' (first|(refine gC ?_;(refine gD ?_;first|refine cI ?_|refine cJ ?_))|refine gW (wI ?_)|refine gI (gM (iE ?_)))<;>conv=>whnf
       refine⟨by rw[hla];exact hij,?_⟩
       refine az.atC 1 ?_ rfl rfl rfl rfl (by first|rfl|(repeat' (first|rfl|refine bLtRow (row_allI _ _ _) ?_|refine bLtRow (row_allB _ _ _) ?_|refine bLtMp ?_|refine bLtDead ?_|refine bLtCells rfl ?_)))
       conv=>whnf
       refine And.intro ?_ ?_<;>conv=>whnf
       all_goals repeat' (first|(refine gV ?_;first|refine vE ?_|refine vI ?_)|refine gX (xB ?_)|exact True.intro)<;>conv=>whnf
      .rw [decide_eq_false h2,zy] at hij;rw[hij]
       conv=>whnf
       repeat' (first|(refine gC ?_;(refine gD ?_;first|refine cI ?_|refine cJ ?_))|refine gI (gM (iE ?_))|refine ai.nrm ?_)<;>conv=>whnf
       all_goals rfl
     .rw [decide_eq_false h1,zy] at hij;rw[hij]
      conv=>whnf
      repeat' (first|(refine gC ?_;first|refine cY ?_|refine gD (cI ?_))|refine gI (gM (iE ?_))|refine ai.nrm ?_)<;>conv=>whnf
      all_goals rfl
    .rw [zk,AT] at hij;rw[hij]
     conv=>whnf
     repeat' (first|refine gC (gD (cJ ?_))|refine ai.nrm ?_)<;>conv=>whnf
     all_goals rfl
   .rw [decide_eq_false h6];refine Fun.of (eJ (by simp) ?_) rfl rfl
    conv=>whnf
    repeat' (first|refine gF (ah.fn (hn) ?_)|(refine gC ?_;first|refine cY ?_|refine .not ?_|(refine gD ?_;first|refine cI ?_|refine cJ ?_))|refine ai.nrm ?_)<;>conv=>whnf
    all_goals rfl
  .rw [decide_eq_false h0];refine Fun.of (eJ (by simp) ?_) rfl rfl
   conv=>whnf
   repeat' (first|refine gF (ah.fn (hn) ?_)|(refine gC ?_;first|refine cY ?_|refine .not ?_|refine gD (cI ?_))|refine ai.nrm ?_)<;>conv=>whnf
   all_goals rfl
theorem I6{x:Ac}(hl:x.positions.length<=10000000):Fun Tryz.prog 42 [x.av] (.bool (!x.right)):=by
 have h:=DS hl;refine Fun.of (tz (by simp) ?_) rfl rfl
 conv=>whnf
 repeat' (first|refine gF (ah.fn (h) ?_)|refine ai.nrm ?_)<;>conv=>whnf
theorem Bs{l:List Ac}(hl:l.length<=10000000)(hp:∀a∈l,a.positions.length<=10000000):Fun Tryz.prog 94 [slA Ac.av l,.fn (.func 42) [] []] (.int .i64 (rK (λx=>!x.right) l)):=by
 refine Fun.of (cL (by simp) ?_) rfl rfl
 conv=>whnf
 repeat' refine gL (.map ?_)<;>conv=>whnf
 refine aJ.count (fb:=true) (l.length) (λst_ j=>st_.oK [(8,.int .i64 j)]) (λj=>∀i x,i<j->l[i]? =some x->(!x.right)=false) ?_ ?_ (λj hj hij=>?_) (λhij=>?_)
 .exact En
 .exact bH
 .obtain ⟨y,hy⟩:∃y,l[j]? =some y:=⟨_,zA hj⟩;have h1:=I6 (x:=y) (hp y (zE hy))
  cases hb:(!y.right) with
  |true=>
   rw[hb] at h1
   conv=>whnf
   repeat' (first|refine gF (ah.fn (h1) ?_)|(refine gC ?_;first|refine cY ?_|refine gD (cI ?_))|refine gI (gM (iE ?_))|refine gH (hB ?_)|refine ai.nrm ?_)<;>conv=>whnf
   rw[BG hij hy hb]
  |false=>
   rw[hb] at h1
   conv=>whnf
   repeat' (first|refine gF (ah.fn (h1) ?_)|(refine gC ?_;first|refine cN ?_|refine gD (cI ?_))|refine gW (wI ?_)|refine gI (gM (iE ?_))|refine gH (hB ?_))<;>conv=>whnf
   refine⟨Eo hij hy hb,?_⟩;exact bH
 .conv=>whnf
  repeat' (first|refine gC (gD (cJ ?_))|refine ai.nrm ?_)<;>conv=>whnf
  rw[BF hij]
theorem nJ{l:List Ac}(hl:l.length<=10000000)(hp:∀a∈l,a.positions.length<=10000000):Fun Tryz.prog 41 [slA Ac.av l,.fn (.func 42) [] []] (.bool (l.any λx=>!x.right)):=by
 have h:=Bs hl hp;rw[<-wH];refine Fun.of (cn (by simp) ?_) rfl rfl
 conv=>whnf
 repeat' (first|refine gF (ah.fn (h) ?_)|refine ai.nrm ?_)<;>conv=>whnf
theorem wW{l:List Int}(hl:l.length<=10000000):Fun Tryz.prog 44 [slA bF l] (slA bF l):=by
 refine Fun.of (kR (by simp) ?_) rfl rfl
 conv=>whnf
 skip;refine IA.no λb hb=>?_
 conv=>whnf
 repeat' (first|(refine gC ?_;refine aj.any (λhc=>?_) (λhc=>?_))|refine gN (nS ?_))<;>conv=>whnf
 .have hl0:l=[]:=by simpa using hb (by assumption)
  subst hl0
  conv=>whnf
  repeat' refine ai.nrm ?_<;>conv=>whnf
  rfl
 .conv=>whnf
  repeat' refine ai.nrm ?_<;>conv=>whnf
  rfl
end Go.CK
