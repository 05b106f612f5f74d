/-
  Texts of this bj joined (wip/gen/bundle.py),those declarations only that are needed:PlC PlD PlE PlF PlG PlH PlI PlJ PlK PlL PlM. By an AI agent.
-/
import Derived.Test.YtcjfkbdbcgmomaaGreatDoorBaw
set_option linter.unusedSimpArgs false
set_option linter.unusedVariables false
set_option maxRecDepth 100000
namespace Go.CK
open Go.AM Go.Proofs
def Rl.wh(r:Rl):AV:=.agg [.str r.name,.sl .no (r.aE.map At.av),.sl .no (r.remove.map At.av),.sl .no (r.guard.map Gl.av),.sl .no (r.body.map Gl.av),.int .i64 r.vars,.sl .no (r.ah.map At.av)]
theorem Gn{r:Rl}{k:Int}(h:0<=k/\k<r.ah.length):Fun Tryz.prog 205 [r.wh,.int .i64 k] (.bool true):=by
 refine Fun.of (j8 (by simp) ?_) rfl rfl
 conv=>whnf
 repeat' (first|refine gC (gD (cI ?_))|refine gL (.map ?_)|refine ak.nrm ?_)<;>conv=>whnf
 rw[decide_eq_true h.2]
theorem Hu{r:Rl}{k:Int}(h:¬(0<=k/\k<r.ah.length)):Fun Tryz.prog 205 [r.wh,.int .i64 k] (.bool false):=by
 refine Fun.of (j8 (by simp) ?_) rfl rfl
 conv=>whnf
 repeat' (first|(refine gC ?_;first|(refine gD ?_;first|refine cI ?_|refine cJ ?_)|refine ae.le (λhc=>?_) (λhc=>?_))|refine gL (.map ?_)|refine ak.nrm ?_)<;>conv=>whnf
 rw[decide_eq_false (by omega)]
theorem A1{r:Rl}{k:Int}:Fun Tryz.prog 180 [r.wh,.int .i64 k] (.bool (decide ((r.aE.length:Int)<=k))):=by
 refine Fun.of (l5 (by simp) ?_) rfl rfl
 conv=>whnf
 repeat' (first|refine gL (.map ?_)|refine ak.nrm ?_)<;>conv=>whnf
set_option maxHeartbeats 1000000 in
theorem yi{r:Rl}{done:List Int}{head:Int}(hr:r.ok)(hd:done.length<=100000)(hh0:0<=head)(hh1:head<r.ah.length):Fun Tryz.prog 178 [r.wh,slA aK done,.int .i64 head] (slA aK (bc r done head)):=by
 have hhl:r.ah.length<=1000:=by rw[Rl.bK];exact hr.1
 obtain⟨h,hh⟩:∃h,r.ah[head.toNat]? =some h:=⟨_,zA (by omega)⟩
 have hho:=hr.2 h (zE hh);rw[bc,if_neg (by omega),hh]
 refine Fun.of (nJ (by simp) ?_) rfl rfl
 conv=>whnf
 repeat' refine gL (.map ?_)<;>conv=>whnf
 refine az.count (fb:=true) done.length (λst_ j=>⟨(st_.bD [(22,.int .i64 j)]).env,[.cells [.str r.name,.sl .no (r.aE.map At.av),.sl .no (r.remove.map At.av),.sl .no (r.guard.map Gl.av),.sl .no (r.body.map Gl.av),.int .i64 r.vars,.sl .no (r.ah.map At.av)],.mp (cZ (.agg []) (kvs r.ah (done.take j)))],0⟩) (λ_=>True) trivial ?_ (λj hj _=>?_) (λ_=>?_)
 .refine aq.at_ ?_ rfl
  conv=>whnf
  refine And.intro ?_ ?_<;>conv=>whnf
  all_goals repeat' (first|(refine gV ?_;first|refine vE ?_|refine vI ?_)|(refine gX ?_;first|refine xB ?_|(refine BxN.mk ?_ ?_;(focus (simp[AV.norm,AV.aj,cZ,kvs];done))))|exact True.intro)<;>conv=>whnf
 .obtain ⟨k,hk⟩:∃k,done[j]? =some k:=⟨_,zA hj⟩
  by_cases hv:0<=k/\k<r.ah.length
  .obtain ⟨g,hgk⟩:∃g,r.ah[k.toNat]? =some g:=⟨_,zA (by omega)⟩
   have hgo:=(hr.2 g (zE hgk)).2.1;have hks:=wP hk hv.1 hgk
   have hgl:(aV (Tm.vss g.args)).length<=100000:=by
    have:=cK (Tm.vss g.args) [];simp only[ZP] at this;unfold aV;omega
   conv=>whnf
   repeat' (first|(refine gF ?_;first|refine ag.fn (Gn hv) ?_|refine ag.fn (iX (x:=g) hgo) ?_)|(refine gC ?_;first|refine cY ?_|refine gD (cI ?_))|refine gL (.map ?_)|(refine gI ?_;(refine gM ?_;first|refine iE ?_|refine iF ?_)))<;>conv=>whnf
   generalize aV (Tm.vss g.args)=vs at*;refine az.count (fb:=true) vs.length (λst_ m=>⟨(st_.bD [(36,.int .i64 m)]).env,[.cells [.str r.name,.sl .no (r.aE.map At.av),.sl .no (r.remove.map At.av),.sl .no (r.guard.map Gl.av),.sl .no (r.body.map Gl.av),.int .i64 r.vars,.sl .no (r.ah.map At.av)],.mp (cZ (.agg []) (kvs r.ah (done.take j)++vs.take m))],0⟩) (λ_=>True) trivial ?_ (λm hm _=>?_) (λ_=>?_)
   .refine aq.at_ ?_ rfl
    conv=>whnf
    refine And.intro ?_ ?_<;>conv=>whnf
    all_goals repeat' (first|(refine gV ?_;first|refine vE ?_|refine vI ?_)|(refine gX ?_;first|refine xB ?_|(refine BxN.mk ?_ ?_;(focus (simp[AV.norm,AV.aj,];done))))|exact True.intro)<;>conv=>whnf
   .obtain ⟨y,hy⟩:∃y,vs[m]? =some y:=⟨_,zA hm⟩
    have hs:vs.take (m+1)=vs.take m++[y]:=by
     rw[List.take_succ_eq_append_getElem hm,(zB.1 hy).2]
    conv=>whnf
    repeat' (first|refine gC (gD (cI ?_))|refine gW (wI ?_)|refine gN (nS ?_)|refine gI (gM (iE ?_))|refine gMp (mA ?_))<;>conv=>whnf
    refine⟨trivial,?_⟩;refine aq.at_ ?_ rfl
    conv=>whnf
    refine And.intro ?_ ?_<;>conv=>whnf
    all_goals repeat' (first|(refine gV ?_;first|refine vE ?_|refine vI ?_)|refine gX (xB ?_)|exact True.intro)<;>conv=>whnf
    refine BxN.mk ?_ True.intro;show ft _ y (.agg [])=_;rw[hs,<-zg,oD]
   .rw [zz,<-hks]
    conv=>whnf
    repeat' (first|refine gC (gD (cJ ?_))|refine gW (wI ?_))<;>conv=>whnf
    refine⟨trivial,?_⟩;exact bq
  .have hks:=Bq (hs:=r.ah) hk (by omega)
   conv=>whnf
   repeat' (first|refine gF (ag.fn (Hu hv) ?_)|(refine gC ?_;first|refine cN ?_|refine gD (cI ?_))|refine gW (wI ?_)|refine gI (gM (iE ?_)))<;>conv=>whnf
   refine⟨trivial,?_⟩;refine aq.at_ ?_ rfl
   conv=>whnf
   refine And.intro ?_ ?_<;>conv=>whnf
   all_goals repeat' (first|(refine gV ?_;first|refine vE ?_|refine vI ?_)|(refine gX ?_;first|refine xB ?_|(refine BxN.mk ?_ ?_;(focus (simp[AV.norm,AV.aj,hks];done))))|exact True.intro)<;>conv=>whnf
 .rw [zz]
  conv=>whnf
  repeat' (first|refine gC (gD (cJ ?_))|refine gL (.map ?_)|refine gI (gM (iF ?_)))<;>conv=>whnf
  obtain⟨p,hp⟩:∃p,p=CM (kvs r.ah done):=⟨_,rfl⟩;rw[<-hp];refine az.count (fb:=true) h.args.length (λst_ j=>st_.bD [(12,.sl (.own 1) ((bu p h.args j).map aK)),(52,.int .i64 j)]) (λ_=>True) trivial ?_ (λj hj _=>?_) (λ_=>?_)
  .refine aq.at_ ?_ rfl
   conv=>whnf
   refine And.intro ?_ ?_<;>conv=>whnf
   all_goals repeat' (first|(refine gV ?_;first|refine vE ?_|refine vI ?_|((refine gK ?_;refine vD ?_ ?_);(focus (simp[AV.norm,AV.aj,bu];done))))|refine gX (xB ?_)|exact True.intro)<;>conv=>whnf
  .obtain ⟨t,ht⟩:∃t,h.args[j]? =some t:=⟨_,zA hj⟩;have hto:=hho.2.2 t (zE ht);have hpl:=dD p h.args j
   conv=>whnf
   repeat' (first|(refine gF ?_;refine ag.fn (vS (t:=t) hto) ?_)|refine gC (gD (cI ?_))|refine gL (.map ?_)|refine gI (gT (iA ?_)))<;>conv=>whnf
   have hvl:(aV t.vs).length<=100000:=by
    have:=cK t.vs [];simp only[ZP] at this;unfold aV;omega
   have hpt:((aV t.vs).all λv=>decide (v∈kvs r.ah done))=p t:=by rw[hp];rfl
   generalize aV t.vs=vs at*;refine az.count (fb:=true) (vs.length) (λst_ m=>st_.bD [(60,.int .i64 m)]) (λm=>∀i x,i<m->vs[i]? =some x->x∈kvs r.ah done) ?_ ?_ (λm hm him=>?_) (λhim=>?_)
   .exact λi x hi=>by omega
   .exact bq
   .obtain ⟨y,hy⟩:∃y,vs[m]? =some y:=⟨_,zA hm⟩
    conv=>whnf
    repeat' (first|(refine gC ?_;first|refine cY ?_|refine cN ?_|refine .not ?_|refine gD (cI ?_))|refine gW (wI ?_)|refine gI (gM (iE ?_))|refine gMp (mA ?_)|(refine gMs ?_;refine mS (λhc=>?_) (λhc=>?_)))<;>conv=>whnf
    .refine ⟨λi x hi hx=>?_,?_⟩
     .by_cases e:i=m
      .subst e;rw[hy] at hx;cases hx;assumption
      .exact him i x (by omega) hx
     .refine aq.atC 3 ?_ rfl rfl rfl rfl (by first|rfl|(repeat' (first|rfl|refine ao (row_allI _ _ _) ?_|refine ao (aw _ _ _) ?_|refine bLtMp ?_|refine aB ?_|refine bLtCells rfl ?_)))
      conv=>whnf
      refine And.intro ?_ ?_<;>conv=>whnf
      all_goals repeat' (first|(refine gV ?_;first|refine vE ?_|refine vI ?_)|refine gX (xB ?_)|exact True.intro)<;>conv=>whnf
    .have hpf:p t=false:=by
      rw[<-hpt,List.all_eq_false];exact⟨y,zE hy,by simpa using(by assumption:¬y∈kvs r.ah done)⟩
     have hs:=se ht hpf;refine⟨trivial,?_⟩;refine aq.atC 2 ?_ rfl rfl rfl rfl (by first|rfl|(repeat' (first|rfl|refine ao (row_allI _ _ _) ?_|refine ao (aw _ _ _) ?_|refine bLtMp ?_|refine aB ?_|refine bLtCells rfl ?_)))
     conv=>whnf
     refine And.intro ?_ ?_<;>conv=>whnf
     all_goals repeat' (first|(refine gV ?_;first|refine vE ?_|refine vI ?_|(refine WkN.sl ?_ ?_;(focus (simp[AV.norm,AV.aj,hs];done))))|refine gX (xB ?_)|exact True.intro)<;>conv=>whnf
   .have hpf:p t=true:=by
     rw[<-hpt,zT];intro y hy;obtain⟨i,hi,rfl⟩:=ZZ.1 hy;exact decide_eq_true (him i _ hi (zA hi))
    have hs:=qg ht hpf
    conv=>whnf
    repeat' (first|refine gC (gD (cJ ?_))|refine gW (wI ?_)|refine gN (nS ?_))<;>conv=>whnf
    refine⟨trivial,?_⟩;refine aq.atC 2 ?_ rfl rfl rfl rfl (by first|rfl|(repeat' (first|rfl|refine ao (row_allI _ _ _) ?_|refine ao (aw _ _ _) ?_|refine bLtMp ?_|refine aB ?_|refine bLtCells rfl ?_)))
    conv=>whnf
    refine And.intro ?_ ?_<;>conv=>whnf
    all_goals repeat' (first|(refine gV ?_;first|refine vE ?_|refine vI ?_|(refine WkN.sl ?_ ?_;(focus (simp[AV.norm,AV.aj,hs];done))))|refine gX (xB ?_)|exact True.intro)<;>conv=>whnf
  .conv=>whnf
   repeat' (first|refine gC (gD (cJ ?_))|refine ak.nrm ?_)<;>conv=>whnf
end Go.CK
namespace Go.CK
open Go.AM Go.Proofs
end Go.CK
namespace Go.CK
open Go.AM Go.Proofs
theorem yb{bs:List Box}{c:Nat}{xs:List Int}{v:Int}(hp:aa bs c=some [slA aK xs]):AM.Sem Tryz.prog 206 [.int .i64 v,.ptr c 0] bs λr bs'=>r=.bool (!decide (v∈xs))/\bs'=bs:=by
 refine nf (by simp) ?_
 conv=>whnf
 skip;refine kD.of hp ?_
 conv=>whnf
 repeat' (refine gF ?_;refine ag.fn (qw (l:=xs) (n:=v)) ?_)<;>conv=>whnf
 exact ak.slot ⟨rfl,rfl⟩
theorem qU{bs:List Box}{c:Nat}{xs l:List Int}(hp:aa bs c=some [slA aK xs]):AM.Sem Tryz.prog 109 [slA aK l,.fn (.func 206) [] [.ptr c 0]] bs λr bs'=>r=.int .i64 (dS (λv=>!decide (v∈xs)) l)/\bs'=bs:=by
 refine Sem.assume λhg0 _=>?_;have hg:=(aU (hg0 (slA aK l) (by simp) rfl)).1
 refine cA (by simp) ?_
 conv=>whnf
 repeat' refine gL (.map ?_)<;>conv=>whnf
 refine az.count (fb:=false) l.length (λst_ j=>⟨[(0,slA aK l),(1,.fn (.func 206) [] [.ptr c 0]),(7,.int .i64 l.length),(8,.int .i64 j)],bs,bs.length⟩) (λj=>∀i x,i<j->l[i]? =some x->(!decide (x∈xs))=false) bZ ?_ (λj hj hij=>?_) (λhij=>?_)
 .refine aq.atS ?_ rfl rfl
  conv=>whnf
  repeat' (first|(refine gV ?_;first|refine vE ?_|refine vI ?_)|exact True.intro)<;>conv=>whnf
 .obtain ⟨y,hy⟩:∃y,l[j]? =some y:=⟨_,zA hj⟩
  conv=>whnf
  repeat' (first|refine gC (gD (cI ?_))|refine gI (gM (iE ?_))|refine gH (hB ?_))<;>conv=>whnf
  refine ag.raw (yb hp) ?_;rintro r bs' ⟨rfl,rfl⟩
  conv=>whnf
  repeat' (first|(refine gC ?_;first|refine .not ?_|refine ae.dec (λhc=>?_) (λhc=>?_))|refine gW (wI ?_))<;>conv=>whnf
  .refine ⟨bJ hij hy (by rw[decide_eq_true hc];rfl),?_⟩
   refine aq.atS ?_ rfl rfl
   conv=>whnf
   repeat' (first|(refine gV ?_;first|refine vE ?_|refine vI ?_)|exact True.intro)<;>conv=>whnf
  .refine ak.slot ⟨?_,rfl⟩;rw[fa hij hy (by rw[decide_eq_false hc];rfl)];rfl
 .conv=>whnf
  repeat' refine gC (gD (cJ ?_))<;>conv=>whnf
  refine ak.slot ⟨?_,rfl⟩;rw[hU hij];rfl
theorem nV{bs:List Box}{c:Nat}{xs l:List Int}(hp:aa bs c=some [slA aK xs]):AM.Sem Tryz.prog 72 [slA aK l,.fn (.func 206) [] [.ptr c 0]] bs λr bs'=>r=.bool (!l.all λv=>decide (v∈xs))/\bs'=bs:=by
 rw[show (!l.all λv=>decide (v∈xs))=l.any λv=>!decide (v∈xs) by rw[List.all_eq_not_any_not,Bool.not_not],<-eH]
 refine bW (by simp) ?_
 conv=>whnf
 skip;refine ag.raw (qU hp) ?_;rintro r bs' ⟨rfl,rfl⟩
 conv=>whnf
 skip;exact ak.slot ⟨rfl,rfl⟩
def vg(name:ByteArray)(ps:List Int)(k:Ky):Bool:=decide (k.name=name)&&k.positions.all λv=>decide (v∈ps)
def xv(keys:List Ky)(name:ByteArray)(ps:List Int):Bool:=keys.any (vg name ps)
theorem xj{α:Type}{p:α->Bool}{l:List α}(h:∀i x,i<l.length->l[i]? =some x->p x=false):l.any p=false:=by
 rw[List.any_eq_false];intro x hx;obtain⟨i,hi,rfl⟩:=ZZ.1 hx;rw[h i _ hi (zA hi)];simp
theorem CV{keys:List Ky}{name:ByteArray}{ps:List Int}(hk:keys.length<=100000):Fun Tryz.prog 179 [slA Ky.av keys,.str name,slA aK ps] (.bool (xv keys name ps)):=by
 refine Fun.of (pw (by simp) ?_) rfl rfl
 conv=>whnf
 repeat' refine gL (.map ?_)<;>conv=>whnf
 refine az.count (fb:=true) (keys.length) (λst_ j=>st_.bD [(12,.int .i64 j)]) (λj=>∀i x,i<j->keys[i]? =some x->vg name ps x=false) ?_ ?_ (λj hj hij=>?_) (λhij=>?_)
 .exact bZ
 .exact bq
 .obtain ⟨k,hk⟩:∃k,keys[j]? =some k:=⟨_,zA hj⟩
  conv=>whnf
  repeat' (first|(refine gC ?_;first|refine cN ?_|(refine gD ?_;first|refine cI ?_|refine cJ ?_)|refine ae.dec (λhc=>?_) (λhc=>?_))|refine gW (wI ?_)|refine gI (gM (iE ?_)))<;>conv=>whnf
  .refine ag.raw (nV (xs:=ps) rfl) ?_;rintro r bs' ⟨rfl,rfl⟩
   cases ha:k.positions.all λv=>decide (v∈ps) with
   |true=>
    conv=>whnf
    repeat' (first|(refine gC ?_;first|refine cY ?_|refine .not ?_|refine gD (cI ?_))|refine ak.nrm ?_)<;>conv=>whnf
    have h1:vg name ps k=true:=by simp only[vg,ha,decide_eq_true (by assumption:k.name=name),Bool.and_self]
    rw[show xv keys name ps=true from List.any_eq_true.2 ⟨k,zE hk,h1⟩]
   |false=>
    conv=>whnf
    repeat' (first|(refine gC ?_;first|refine cN ?_|refine .not ?_|refine gD (cI ?_))|refine gW (wI ?_))<;>conv=>whnf
    refine⟨bJ hij hk (by simp only[vg,ha,Bool.and_false]),?_⟩
    refine aq.atC 1 ?_ rfl rfl rfl rfl (by first|rfl|(repeat' (first|rfl|refine ao (row_allI _ _ _) ?_|refine ao (aw _ _ _) ?_|refine bLtMp ?_|refine aB ?_|refine bLtCells rfl ?_)))
    conv=>whnf
    refine And.intro ?_ ?_<;>conv=>whnf
    all_goals repeat' (first|(refine gV ?_;first|refine vE ?_|refine vI ?_)|refine gX (xB ?_)|exact True.intro)<;>conv=>whnf
  .refine ⟨bJ hij hk (by simp only[vg,decide_eq_false (by assumption:¬k.name=name),zw]),?_⟩
   refine aq.atC 1 ?_ rfl rfl rfl rfl (by first|rfl|(repeat' (first|rfl|refine ao (row_allI _ _ _) ?_|refine ao (aw _ _ _) ?_|refine bLtMp ?_|refine aB ?_|refine bLtCells rfl ?_)))
   conv=>whnf
   refine And.intro ?_ ?_<;>conv=>whnf
   all_goals repeat' (first|(refine gV ?_;first|refine vE ?_|refine vI ?_)|refine gX (xB ?_)|exact True.intro)<;>conv=>whnf
 .conv=>whnf
  repeat' (first|refine gC (gD (cJ ?_))|refine ak.nrm ?_)<;>conv=>whnf
  rw[show xv keys name ps=false from xj hij]
end Go.CK
namespace Go.CK
open Go.AM Go.Proofs
def cM(r:Rl)(keys:List Ky)(done:List Int)(head:Int)(h:At):Int:=
 (if xv keys h.name (bc r done head) then 100 else 10*((bc r done head).length:Int))+(if (r.aE.length:Int)<=head then 1 else 0)
theorem D8{r:Rl}{keys:List Ky}{done:List Int}{head:Int}{h:At}(hr:r.ok2)(hd:done.length<=100000)(hk:keys.length<=100000)(hh0:0<=head)(hh1:head<r.ah.length)(hh:r.ah[head.toNat]? =some h):Fun Tryz.prog 128 [r.wh,slA Ky.av keys,slA aK done,.int .i64 head] (.int .i64 (cM r keys done head h)):=by
 have hkn:=yi hr.ok hd hh0 hh1;have hhl:r.ah.length<=8:=by rw[Rl.bK];exact hr.1
 have hkl:(bc r done head).length<=100000:=by
  rw[bc,if_neg (by omega),hh]
  have:=dD (CM (kvs r.ah done)) h.args h.args.length;have:=(hr.2 h (zE hh)).1;show (bu _ h.args h.args.length).length<=_;omega
 have hu:=CV (keys:=keys) (name:=h.name) (ps:=bc r done head) hk;have hrm:=A1 (r:=r) (k:=head);unfold cM;generalize bc r done head=ps at*;generalize xv keys h.name ps=u at*
 by_cases hrem:(r.aE.length:Int)<=head
 .rw [decide_eq_true hrem] at hrm;rw[if_pos hrem]
  cases u with
  |true=>
   refine Fun.of (cn (by simp) ?_) rfl rfl
   conv=>whnf
   repeat' (first|(refine gF ?_;first|refine ag.fn (hkn) ?_|refine ag.fn (hu) ?_|refine ag.fn (hrm) ?_)|refine gC (cY ?_)|refine gW (wI ?_)|refine gL (.map ?_)|refine gI (gM (iF ?_))|refine ak.nrm ?_)<;>conv=>whnf
   simp
  |false=>
   refine Fun.of (cn (by simp) ?_) rfl rfl
   conv=>whnf
   repeat' (first|(refine gF ?_;first|refine ag.fn (hkn) ?_|refine ag.fn (hu) ?_|refine ag.fn (hrm) ?_)|(refine gC ?_;first|refine cY ?_|refine cN ?_)|refine gW (wI ?_)|refine gL (.map ?_)|refine gI (gM (iF ?_))|refine ak.nrm ?_)<;>conv=>whnf
   simp
 .rw [decide_eq_false hrem] at hrm;rw[if_neg hrem]
  cases u with
  |true=>
   refine Fun.of (cn (by simp) ?_) rfl rfl
   conv=>whnf
   repeat' (first|(refine gF ?_;first|refine ag.fn (hkn) ?_|refine ag.fn (hu) ?_|refine ag.fn (hrm) ?_)|(refine gC ?_;first|refine cY ?_|refine cN ?_)|refine gW (wI ?_)|refine gL (.map ?_)|refine gI (gM (iF ?_))|refine ak.nrm ?_)<;>conv=>whnf
   simp
  |false=>
   refine Fun.of (cn (by simp) ?_) rfl rfl
   conv=>whnf
   repeat' (first|(refine gF ?_;first|refine ag.fn (hkn) ?_|refine ag.fn (hu) ?_|refine ag.fn (hrm) ?_)|refine gC (cN ?_)|refine gW (wI ?_)|refine gL (.map ?_)|refine gI (gM (iF ?_))|refine ak.nrm ?_)<;>conv=>whnf
   simp
theorem Hl{p:Pg}{n:Int}{r:Rl}(h0:0<=n)(hr:p.rules[n.toNat]? =some r)(hr2:r.ok2):Fun Tryz.prog 126 [p.av,.int .i64 n] (.tup [r.wh,.bool true]):=by
 have hlt:=(zB.1 hr).1;have hhl:r.aE.length+r.remove.length<=8:=hr2.1;refine Fun.of (A8 (by simp) ?_) rfl rfl
 conv=>whnf
 repeat' (first|(refine gG ?_;refine a6.fn (dP (x:=r) (by omega)) ?_)|refine gC (gD (cJ ?_))|refine gL (.map ?_)|refine gI (gM (iF ?_))|refine ak.nrm ?_)<;>conv=>whnf
 rfl
end Go.CK
namespace Go.CK
open Go.AM Go.Proofs
end Go.CK
namespace Go.CK
open Go.AM Go.Proofs
theorem wQ{hs:List At}{done:List Int}{i:Nat}{x:Int}(h:x∈kvs hs (done.take i)):x∈kvs hs done:=by
 have:=oI hs (done.take i) (done.drop i);rw[List.take_append_drop] at this;rw[this];exact ZB _ h
end Go.CK
namespace Go.CK
open Go.AM Go.Proofs
theorem FX{x:Rl}:Fun Tryz.prog 172 [x.av] (.bool (decide ((x.remove.length:Int)=0))):=by
 refine Fun.of (l7 (by simp) ?_) rfl rfl
 conv=>whnf
 repeat' (first|refine gL (.map ?_)|refine ak.nrm ?_)<;>conv=>whnf
def Pg.ok(p:Pg):Prop:=∀x∈p.rules,x.aE.length+x.remove.length<=100000/\x.ah.length=x.aE.length+x.remove.length
theorem HZ{o:Cap}{l m:List AV}(h:l=m):AV.sl o l=AV.sl o m:=by rw[h]
def lI(i:Nat)(x:Rl):Nat->List (Oc×At)
 |0=>[]
 |j+1=>lI i x j++[(⟨i,(x.ah.length:Int)-1-j,decide ((x.ah.length:Int)-1-j<x.aE.length)⟩,(x.ah[x.ah.length-1-j]?).getD ⟨.empty,[]⟩)]
def fV(l:List Rl):Nat->List (Oc×At)
 |0=>[]
 |j+1=>fV l j++match l[j]? with
  |none=>[]
  |some x=>lI j x x.ah.length
def ocs(l:List (Oc×At)):List AV:=l.map λy=>y.1.av
theorem sD(i:Nat)(x:Rl):∀j,(lI i x j).length=j
 |0=>rfl
 |j+1=>by simp[lI,sD i x j]
theorem F2(l:List (Oc×At)):(ocs l).length=l.length:=by simp[ocs]
theorem Au{p:Pg}(hp:p.ok):∀j,(fV p.rules j).length<=100000*j
 |0=>zJ _
 |j+1=>by
  have:=Au hp j;simp only[fV,zC];split
  .simp;omega
  .rename_i x hx;have:=hp x (zE hx);rw[sD];omega
def Pg.occs(p:Pg):List Oc:=(fV p.rules p.rules.length).map (·.1)
theorem F3(p:Pg):p.occs.map Oc.av=ocs (fV p.rules p.rules.length):=by simp[Pg.occs,ocs]
theorem Ba{p:Pg}:Fun Tryz.prog 124 [p.av] (.fn (.func 175) [] [.ept p.av.cells]):=by
 refine Fun.of (uj (by simp) ?_) rfl rfl
 conv=>whnf
 skip;refine ak.of (Fy.freeze 0 rfl rfl rfl rfl ?_)
 conv=>whnf
 rfl
def ysA(l:List (Oc×At)):List (List AV):=l.map λy=>[y.1.av,y.2.av]
theorem vM{l:List Rl}{j:Nat}{x:Rl}(h:l[j]? =some x):fV l (j+1)=fV l j++lI j x x.ah.length:=by simp[fV,h]
theorem BU{l:List Rl}{j:Nat}(hj:j<=l.length):∃r,fV l l.length=fV l j++r:=by
 have:∀k,∃r,fV l (j+k)=fV l j++r:=λk=>by
  induction k with
  |zero=>exact⟨[],by simp⟩
  |succ k ih=>
   obtain⟨r,hr⟩:=ih;exact⟨_,by rw[<-Zh,fV,hr,zg]⟩
 obtain⟨r,hr⟩:=this (l.length-j);rw[show j+(l.length-j)=l.length by omega] at hr
 exact⟨r,hr⟩
theorem A9{i:Nat}{x:Rl}{n k:Nat}(hk:k<=n):∃r,lI i x n=lI i x k++r:=by
 have:∀m,∃r,lI i x (k+m)=lI i x k++r:=λm=>by
  induction m with
  |zero=>exact⟨[],by simp⟩
  |succ m ih=>
   obtain⟨r,hr⟩:=ih;exact⟨_,by rw[<-Zh,lI,hr,zg]⟩
 obtain⟨r,hr⟩:=this (n-k);rw[show k+(n-k)=n by omega] at hr
 exact⟨r,hr⟩
theorem DN{l:List Rl}{i:Nat}{x:Rl}(hx:l[i]? =some x){k:Nat}(hk:k<x.ah.length){h:At}(hh:x.ah[x.ah.length-1-k]? =some h):
  ∃rest,ysA (fV l i++lI i x k)++[(⟨i,(x.ah.length:Int)-1-k,decide ((x.ah.length:Int)-1-k<x.aE.length)⟩:Oc).av,h.av]::rest=ysA (fV l l.length):=by
 have hi:i<l.length:=(zB.1 hx).1;obtain⟨r,hr⟩:=BU (l:=l) (j:=i+1) hi;obtain⟨q,hq⟩:=A9 (i:=i) (x:=x) (n:=x.ah.length) (k:=k+1) hk;refine⟨ysA (q++r),?_⟩;rw[hr,vM hx,hq];simp[ysA,lI,hh]
theorem wM{p:Pg}(hp:p.ok)(hll:p.rules.length<=10000):vP Tryz.prog 175 [.ept p.av.cells] (ysA (fV p.rules p.rules.length)):=by
 intro b bs J Jx hb hJ hJx hr h0;refine px (by simp) ?_
 conv=>whnf
 repeat' refine gL (.map ?_)<;>conv=>whnf
 refine az.by (fb:=false) (λ_ (q:Nat×List Box)=>⟨[(0,.yl b),(8,.sl .no (p.rules.map Rl.av)),(9,.int .i64 p.rules.length),(10,.int .i64 q.1)],q.2,bs.length⟩) (λq=>q.1<=p.rules.length/\J (ysA (fV p.rules q.1)) q.2) (λq=>p.rules.length-q.1) (0,bs) ⟨by simp,h0⟩ (aq.eqS rfl rfl rfl) ?_
 rintro⟨i,bs1⟩ ⟨hi,hj1⟩;dsimp only at hi hj1|-;have hbl:=hJ _ _ hj1
 by_cases hlt:i<p.rules.length
 .conv=>whnf
  repeat' (first|(refine gF ?_;refine ag.fn (dP (hp _ (zE (by assumption))).1) ?_)|refine gC (gD (cI ?_))|refine gW (wI ?_)|refine gL (.map ?_)|(refine gI ?_;(refine gM ?_;(refine iH λx hx=>?_;try have hm:=hp x (zE hx))))|refine gB (.last ?_)|refine aA.last ?_)<;>conv=>whnf
  refine az.by (fb:=false) (λ_ (q:Nat×List Box)=>⟨[(0,.yl b),(3,.int .i64 i),(4,.ptr q.2.length 0),(5,.sl .no (x.ah.map At.av)),(6,.int .i64 ((x.ah.length:Int)-1-q.1)),(8,.sl .no (p.rules.map Rl.av)),(9,.int .i64 p.rules.length),(10,.int .i64 i)],q.2++[.cells x.av.cells],bs.length⟩)
   (λq=>q.1<=x.ah.length/\J (ysA (fV p.rules i++lI i x q.1)) q.2) (λq=>x.ah.length-q.1) (0,bs1) ⟨zJ _,by simpa[lI] using hj1⟩ (aq.atS ?_ rfl rfl) ?_
  .conv=>whnf
   repeat' (first|(refine gV ?_;first|refine vE ?_|refine vI ?_)|exact True.intro)<;>conv=>whnf
  rintro⟨k,bs2⟩ ⟨hk,hj2⟩;dsimp only at hk hj2|-;have hbl2:=hJ _ _ hj2
  by_cases hkl:k<x.ah.length
  .obtain ⟨h,hh⟩:∃h,x.ah[x.ah.length-1-k]? =some h:=⟨_,zA (by omega)⟩
   have hhi:x.ah[((x.ah.length:Int)-1-k).toNat]? =some h:=by
    rw[show ((x.ah.length:Int)-1-k).toNat=x.ah.length-1-k by omega];exact hh
   obtain⟨rest,hrest⟩:=DN hx hkl hh
   conv=>whnf
   repeat' (first|refine gC (gD (cI ?_))|refine gL (.map ?_)|refine gI (gM (iF ?_))|refine gB (.last ?_))<;>conv=>whnf
   refine tT.of (hr _ _ rest bs2 [.cells x.av.cells] hrest hj2) ?_;rintro r bs3 ⟨own,rfl,h⟩;rcases h with ⟨rfl,hj3⟩|⟨rfl,hj3⟩
   .have hbl3:=hJ _ _ hj3
    conv=>whnf
    repeat' (first|(refine gC ?_;first|refine cY ?_|refine .not ?_)|refine gW (wI ?_))<;>conv=>whnf
    refine⟨(k+1,own),⟨⟨hkl,?_⟩,by simp;omega⟩,aq.atS ?_ rfl rfl⟩
    .have e:ysA (fV p.rules i++lI i x (k+1))=ysA (fV p.rules i++lI i x k)++[[(⟨i,(x.ah.length:Int)-1-k,decide ((x.ah.length:Int)-1-k<x.aE.length)⟩:Oc).av,h.av]]:=by simp[ysA,lI,hh]
     dsimp only;rw[e];exact hj3
    .have he:bs2.length=own.length:=by omega
     conv=>whnf
     repeat' (first|(refine gV ?_;first|refine vE ?_|refine vI ?_|(refine WkN.norm ?_ ?_;(focus (simp[AV.norm,AV.aj,he];done))))|exact True.intro)<;>conv=>whnf
   .have hbl3:=hJx _ hj3
    conv=>whnf
    repeat' (refine gC ?_;first|refine cN ?_|refine .not ?_)<;>conv=>whnf
    refine ak.aE [] ?_;refine ak.oU (own:=own) rfl (by simp[St.aE];omega) rfl (by rw[hbl3.1];exact hbl3.2) ?_
    conv=>whnf
    repeat' refine ak.nrm ?_<;>conv=>whnf
    exact .inr hj3
  .have hke:k=x.ah.length:=by omega
   subst hke
   conv=>whnf
   repeat' (first|refine gC (gD (cJ ?_))|refine gW (wI ?_))<;>conv=>whnf
   refine⟨(i+1,bs2),⟨⟨by simp;omega,?_⟩,by simp;omega⟩,aq.oU rfl (by simp;omega) (by simp[eo,AV.lt,AV.lt1,AV.lt0,AV.aW];omega) (by rw[hbl2.1];exact hbl2.2) (aq.atS ?_ rfl rfl)⟩
   .simpa [vM hx] using hj2
   .conv=>whnf
    repeat' (first|(refine gV ?_;first|refine vE ?_|refine vI ?_)|exact True.intro)<;>conv=>whnf
 .have hie:i=p.rules.length:=by omega
  conv=>whnf
  repeat' (first|refine gC (gD (cJ ?_))|refine ak.nrm ?_)<;>conv=>whnf
  exact .inl (hie▸hj1)
theorem BS{p:Pg}(hp:p.ok)(hll:p.rules.length<=10000):Fun Tryz.prog 66 [p.av] (.sl .no (p.occs.map Oc.av)):=by
 rw[F3];have hal:=Au hp p.rules.length;refine Fun.of (wJ (by simp) ?_) rfl rfl
 conv=>whnf
 repeat' refine gF (ag.fn (Ba) ?_)<;>conv=>whnf
 refine mL.each (λy:Oc×At=>[y.1.av,y.2.av]) (fV p.rules p.rules.length) ⟨[(2,.sl .full []),(3,.ptr 1 0),(6,.fn (.func 175) [] [.ept p.av.cells])],[.cells [.sl .no (p.decls.map Dc.av),.sl .no (p.rules.map Rl.av)],.cells [.sl (.own 3) []]],0⟩
  (λpre=>[.cells [.sl .no (p.decls.map Dc.av),.sl .no (p.rules.map Rl.av)],.cells [.sl (.own 3) (ocs pre)]]) (wM hp hll) (by kernel_rfl) ?_ rfl (λ_=>rfl) (λ_=>rfl) rfl (λ_=>⟨rfl,rfl⟩) ?_ ?_
 .refine aq.wZ 1 0 3 rfl (by simp) ?_
  exact aq.eqS rfl rfl rfl
 .intro x pre y rest hxs
  have hpl:(ocs pre).length+1<=100000*p.rules.length:=by
   have:=congrArg List.length hxs;simp at this;rw[F2];omega
  conv=>whnf
  repeat' (first|refine gN (nS ?_)|refine gA (aP ?_))<;>conv=>whnf
  refine p8.by ?_ rfl rfl rfl
  conv=>whnf
  repeat' (first|refine xB ?_|(refine BxN.mk ?_ ?_;(focus (simp[ocs,Oc.av];done)))|exact True.intro)<;>conv=>whnf
 .conv=>whnf
  repeat' refine ak.nrm ?_<;>conv=>whnf
end Go.CK
namespace Go.CK
open Go.AM Go.Proofs
def EO(o x:Oc):Bool:=decide (o=x)
theorem EN{o x:Oc}(h1:o.rule=x.rule)(h2:o.head=x.head)(h3:o.kept=x.kept):EO o x=true:=decide_eq_true (Oc.ext h1 h2 h3)
theorem wR{α:Type}{o x:Oc}(f:Oc->α)(h:¬f o=f x):EO o x=false:=decide_eq_false λe=>h (by rw[e])
theorem Fq(l:List Oc)(o:Oc):l.any (EO o)=decide (o∈l):=by
 rw[Bool.eq_iff_iff,List.any_eq_true,decide_eq_true_eq];exact⟨λ⟨x,h,e⟩=>(of_decide_eq_true e:o=x)▸h,λh=>⟨o,h,decide_eq_true rfl⟩⟩
theorem Bs{l:List Oc}{o:Oc}:Fun Tryz.prog 176 [slA Oc.av l,o.av] (.int .i64 (dS (EO o) l)):=by
 refine Fun.assume rfl λhg0=>?_;have hg:=(aU (hg0 (slA Oc.av l) (by simp))).1
 refine Fun.of (eh (by simp) ?_) rfl rfl
 conv=>whnf
 repeat' refine gL (.map ?_)<;>conv=>whnf
 refine az.count (fb:=true) (l.length) (λst_ j=>st_.bD [(8,.int .i64 j)]) (λj=>∀i x,i<j->l[i]? =some x->EO o x=false) ?_ ?_ (λj hj hij=>?_) (λhij=>?_)
 .exact bZ
 .exact bq
 .conv=>whnf
  repeat' (first|(refine gC ?_;first|refine cY ?_|refine gD (cI ?_)|with_reducible refine ae.and ?_|refine ae.dec (λhc=>?_) (λhc=>?_))|refine gW (wI ?_)|(refine gI ?_;(refine gM ?_;refine iH λx hx=>?_))|refine ak.nrm ?_)<;>conv=>whnf
  .rw [fa hij (by assumption) (EN (by assumption) (by assumption) (by assumption))]
  .refine ⟨bJ hij (by assumption) (wR Oc.kept (by assumption)),?_⟩
   exact bq
  .refine ⟨bJ hij (by assumption) (wR Oc.head (by assumption)),?_⟩
   exact bq
  .refine ⟨bJ hij (by assumption) (wR Oc.rule (by assumption)),?_⟩
   exact bq
 .conv=>whnf
  repeat' (first|refine gC (gD (cJ ?_))|refine ak.nrm ?_)<;>conv=>whnf
  rw[hU hij]
theorem nw{l:List Oc}{o:Oc}:Fun Tryz.prog 125 [slA Oc.av l,o.av] (.bool (decide (o∈l))):=by
 rw[<-Fq,<-eH];refine Fun.of (dA (by simp) ?_) rfl rfl
 conv=>whnf
 repeat' (first|(refine gF ?_;refine ag.fn (Bs (l:=l) (o:=o)) ?_)|refine ak.nrm ?_)<;>conv=>whnf
end Go.CK
namespace Go.CK
open Go.AM Go.Proofs
theorem yx{x:Gl}(hl:(Tm.vss x.args).length<=100000):Fun Tryz.prog 235 [x.av] (slA aK (aV (Tm.vss x.args))):=by
 refine Fun.of (pn (by simp) ?_) rfl rfl
 conv=>whnf
 repeat' (first|(refine gF ?_;first|refine ag.fn (wY) ?_|refine ag.fn (wK hl) ?_)|refine ak.nrm ?_)<;>conv=>whnf
theorem rW{x:Gl}(hl:(Tm.vss x.args).length<=100000):Fun Tryz.prog 169 [x.av] (slA aK (aV (Tm.vss x.args))):=by
 refine Fun.of (fN (by simp) ?_) rfl rfl
 conv=>whnf
 repeat' (first|refine gF (ag.fn (oY hl) ?_)|refine ak.nrm ?_)<;>conv=>whnf
def cu(xs:List Int)(g:Gl):Bool:=(aV (Tm.vss g.args)).all λv=>decide (v∈xs)
theorem Dt{bs:List Box}{b:Nat}{xs:List Int}{g:Gl}(hl:(Tm.vss g.args).length<=100000)(hbb:al bs.length bs=true)(hb:bs[b]? =some (.mp (cZ (.bool true) xs))):AM.Sem Tryz.prog 207 [.mpt b,g.av] bs λr bs'=>r=.bool (cu xs g)/\bs'=bs:=by
 have hblt:b<bs.length:=(zB.1 hb).1;refine kU (by simp) ?_
 conv=>whnf
 repeat' (first|(refine gF ?_;refine ag.fn (yx (x:=g) hl) ?_)|refine gL (.map ?_)|refine gB (.last ?_))<;>conv=>whnf
 unfold cu
 have hvl:(aV (Tm.vss g.args)).length<=100000:=by
  have:=cK (Tm.vss g.args) [];simp only[ZP] at this;unfold aV;omega
 generalize aV (Tm.vss g.args)=vs at*;obtain⟨bg,hbg⟩:∃bg,bg=[AV.int .i64 g.op,.str g.name,.sl .no (g.args.map Tm.av)]:=⟨_,rfl⟩;have hb2:(bs++[Box.cells bg])[b]? =some (.mp (cZ (.bool true) xs)):=by rw[zK hblt];exact hb
 rw[<-hbg];refine az.count (fb:=false) vs.length (λst_ j=>⟨[(0,.mpt b),(8,slA aK vs),(9,.int .i64 vs.length),(10,.int .i64 j)],bs++[Box.cells bg],bs.length⟩) (λj=>∀i x,i<j->vs[i]? =some x->decide (x∈xs)=true) (λi x hi=>by omega) ?_ (λj hj hij=>?_) (λhij=>?_)
 .refine aq.atS ?_ rfl rfl
  conv=>whnf
  repeat' (first|(refine gV ?_;first|refine vE ?_|refine vI ?_)|exact True.intro)<;>conv=>whnf
 .obtain ⟨y,hy⟩:∃y,vs[j]? =some y:=⟨_,zA hj⟩
  conv=>whnf
  repeat' (first|(refine gC ?_;first|refine cY ?_|refine cN ?_|refine .not ?_|refine gD (cI ?_))|refine gW (wI ?_)|refine gI (gM (iE ?_))|refine gMp (mA ?_)|(refine gMs ?_;refine mS (λhc=>?_) (λhc=>?_)))<;>conv=>whnf
  .refine ⟨eV hij hy (decide_eq_true (by assumption)),?_⟩
   refine aq.atS ?_ rfl rfl
   conv=>whnf
   repeat' (first|(refine gV ?_;first|refine vE ?_|refine vI ?_)|exact True.intro)<;>conv=>whnf
  .refine ak.oU rfl (zG _) rfl hbb ?_;refine ak.slot ⟨?_,rfl⟩;rw[nX hy (decide_eq_false (by assumption))];rfl
 .conv=>whnf
  repeat' refine gC (gD (cJ ?_))<;>conv=>whnf
  refine ak.oU rfl (zG _) rfl hbb ?_;refine ak.slot ⟨?_,rfl⟩;rw[xn hij];rfl
theorem ak.nil{s:St}{Q:AV->List Box->Prop}(h:Q (.tup []) s.bs):ak s [] Q:=⟨s,aG.refl s,.inl h⟩
theorem rO{α:Type}{l:List α}{b:Nat}{x:α}(h:l[b]? =some x):l.set b x=l:=by
 obtain⟨hb,rfl⟩:=zB.1 h;exact List.set_getElem_self hb
theorem Bp{hs:List At}{k:Int}(h:k<0\/(hs.length:Int)<=k):kvs hs [k]=[]:=by
 have:=Bq (hs:=hs) (l:=[k]) (j:=0) (k:=k) rfl h;simpa[kvs] using this
theorem Gf{hs:List At}{k:Int}{h:At}(h0:0<=k)(hh:hs[k.toNat]? =some h):kvs hs [k]=aV (Tm.vss h.args):=by
 have:=wP (hs:=hs) (l:=[k]) (j:=0) (k:=k) rfl h0 hh;simpa[kvs] using this
theorem Fc{bs:List Box}{b:Nat}{xs:List Int}{hs:List At}{k:Int}(hl:∀h∈hs,(Tm.vss h.args).length<=100000)(hbb:al bs.length bs=true)(hb:bs[b]? =some (.mp (cZ (.bool true) xs))):AM.Sem Tryz.prog 208 [.mpt b,slA At.av hs,.int .i64 k] bs λr bs'=>r=.tup []/\bs'=bs.set b (.mp (cZ (.bool true) (xs++kvs hs [k]))):=by
 have hblt:b<bs.length:=(zB.1 hb).1;refine lH (by simp) ?_
 by_cases hk:0<=k/\k<hs.length
 .obtain ⟨h,hh⟩:∃h,hs[k.toNat]? =some h:=⟨_,zA (by omega)⟩
  rw[Gf hk.1 hh]
  conv=>whnf
  repeat' (first|(refine gF ?_;refine ag.fn (iX (x:=h) (hl h (zE hh))) ?_)|refine gC (gD (cJ ?_))|refine gL (.map ?_)|refine gI (gM (iF ?_)))<;>conv=>whnf
  have hvl:(aV (Tm.vss h.args)).length<=100000:=by
   have:=cK (Tm.vss h.args) [];simp only[ZP] at this;have:=hl h (zE hh);unfold aV;omega
  generalize aV (Tm.vss h.args)=vs at*;refine az.count (fb:=false) vs.length (λst_ j=>⟨[(0,.mpt b),(20,slA aK vs),(21,.int .i64 vs.length),(22,.int .i64 j)],bs.set b (.mp (cZ (.bool true) (xs++vs.take j))),bs.length⟩) (λ_=>True) trivial ?_ (λj hj _=>?_) (λ_=>?_)
  .refine aq.atS ?_ (by rw[ZK,zy,rO hb]) rfl
   conv=>whnf
   repeat' (first|(refine gV ?_;first|refine vE ?_|refine vI ?_)|exact True.intro)<;>conv=>whnf
  .obtain ⟨y,hy⟩:∃y,vs[j]? =some y:=⟨_,zA hj⟩
   have hs:vs.take (j+1)=vs.take j++[y]:=by
    rw[List.take_succ_eq_append_getElem hj,(zB.1 hy).2]
   have hb3:(bs.set b (.mp (cZ (.bool true) (xs++vs.take j))))[b]? =some (.mp (cZ (.bool true) (xs++vs.take j))):=by rw[List.getElem?_set_self hblt]
   conv=>whnf
   repeat' (first|refine gC (gD (cI ?_))|refine gW (wI ?_)|refine gN (nS ?_)|refine gI (gM (iE ?_))|refine gMp (mA ?_))<;>conv=>whnf
   refine⟨trivial,?_⟩;refine aq.atS ?_ (by simp only[List.set_set,St.ev];rw[hs,<-zg,oD]) rfl
   conv=>whnf
   repeat' (first|(refine gV ?_;first|refine vE ?_|refine vI ?_)|exact True.intro)<;>conv=>whnf
  .rw [zz]
   conv=>whnf
   repeat' refine gC (gD (cJ ?_))<;>conv=>whnf
   exact ak.nil ⟨rfl,rfl⟩
 .rw [Bp (by omega),zy,rO hb]
  conv=>whnf
  repeat' (first|(refine gC ?_;first|refine cY ?_|(refine gD ?_;first|refine cI ?_|refine cJ ?_)|refine ae.lt (λhc=>?_) (λhc=>?_))|refine gL (.map ?_))<;>conv=>whnf
  .exact ak.nil ⟨rfl,rfl⟩
  .exact ak.nil ⟨rfl,rfl⟩
end Go.CK
namespace Go.CK
open Go.AM Go.Proofs
end Go.CK
namespace Go.CK
open Go.AM Go.Proofs
def ei{α:Type}(p:α->Bool)(l:List α):Nat->List Int
 |0=>[]
 |j+1=>ei p l j++match l[j]? with
  |none=>[]
  |some x=>if p x then [(j:Int)] else []
theorem ET{α:Type}{p:α->Bool}{l:List α}{j:Nat}{t:α}(h:l[j]? =some t)(hp:p t=true):ei p l (j+1)=ei p l j++[(j:Int)]:=by simp[ei,h,hp]
theorem Cx{α:Type}{p:α->Bool}{l:List α}{j:Nat}{t:α}(h:l[j]? =some t)(hp:p t=false):ei p l (j+1)=ei p l j:=by simp[ei,h,hp]
theorem sZ{α:Type}(p:α->Bool)(l:List α):∀j,(ei p l j).length<=j
 |0=>zG _
 |j+1=>by
  have:=sZ p l j;simp only[ei,zC];split
  .simp;omega
  .split<;>simp<;>omega
def Rl.okG(r:Rl):Prop:=r.guard.length<=100000/\∀g∈r.guard,(Tm.vss g.args).length<=100000
def kW(r:Rl)(order:List Int):Nat->Gl->Bool
 |0=>cu (kvs r.ah [])
 |k+1=>λg=>cu (kvs r.ah (order.take (k+1))) g&&!cu (kvs r.ah (order.take k)) g
def newI(r:Rl)(order:List Int)(k:Nat):List Int:=ei (kW r order k) r.guard r.guard.length
def eC(r:Rl)(order:List Int):Nat->List (List Int)
 |0=>[]
 |k+1=>eC r order k++[newI r order k]
def wB(r:Rl)(order:List Int):List (List Int):=eC r order (order.length+1)
theorem nI(r:Rl)(order:List Int):∀k,(eC r order k).length=k
 |0=>rfl
 |k+1=>by simp[eC,nI r order k]
def lC(l:List Int):AV:=slA aK l
end Go.CK
