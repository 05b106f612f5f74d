/-
  Texts of this bj joined (wip/gen/bundle.py),those declarations only that are needed:PlN IxS SrtM PlO PlP PlQ PlR. By an AI agent.
-/
import Derived.Test.YtcjfkbdbcgmomaaGreatDoorBax
set_option linter.unusedSimpArgs false
set_option linter.unusedVariables false
set_option maxRecDepth 100000
namespace Go.CK
open Go.AM Go.Proofs
def cX(r:Rl)(order:List Int):Nat->List Bool
 |0=>List.replicate r.guard.length false
 |k+1=>r.guard.map (cu (kvs r.ah (order.take k)))
def bf(r:Rl)(order:List Int)(k i:Nat):List Bool:=(cX r order (k+1)).take i++(cX r order k).drop i
theorem cg(r:Rl)(order:List Int):∀k,(cX r order k).length=r.guard.length
 |0=>by simp[cX]
 |k+1=>by simp[cX]
theorem CW{α:Type}{A B:List α}{j:Nat}{a:α}(h:A[j]? =some a)(hl:A.length=B.length):A.take (j+1)++B.drop (j+1)=(A.take j++B.drop j).set j a:=by
 obtain⟨hj,rfl⟩:=zB.1 h;rw[yH _ _ (by rw[zn];omega),zn,Nat.min_eq_left (by omega),yE,zH (show j<B.length by omega),List.set_cons_zero,List.take_succ_eq_append_getElem hj,zg]
 rfl
theorem FL{α:Type}{A B:List α}{j:Nat}{b:α}(h:B[j]? =some b)(hl:A.length=B.length):(A.take j++B.drop j)[j]? =some b:=by
 have hj:j<B.length:=(zB.1 h).1;rw[zZ (by rw[zn];omega),zn,Nat.min_eq_left (by omega),yE,List.getElem?_drop,Ze,h]
def ot(r:Rl)(order:List Int):Nat->Gl->Bool
 |0,_=>false
 |k+1,g=>cu (kvs r.ah (order.take k)) g
theorem pA(r:Rl)(order:List Int)(k:Nat)(g:Gl):kW r order k g=(cu (kvs r.ah (order.take k)) g&&!ot r order k g):=by
 cases k with
 |zero=>simp[kW,ot]
 |succ k=>rfl
theorem sh{r:Rl}{order:List Int}{j:Nat}{g:Gl}(h:r.guard[j]? =some g):∀k,(cX r order k)[j]? =some (ot r order k g)
 |0=>by
  have:=(zB.1 h).1
  simp[cX,ot,this]
 |k+1=>by simp[cX,ot,h]
theorem si{r:Rl}{order:List Int}{j:Nat}{g:Gl}(k:Nat)(h:r.guard[j]? =some g):(bf r order k j)[j]? =some (ot r order k g):=
 FL (sh h k) (by rw[cg,cg])
theorem ou{r:Rl}{order:List Int}{j:Nat}{g:Gl}(k:Nat)(h:r.guard[j]? =some g):bf r order k (j+1)=(bf r order k j).set j (cu (kvs r.ah (order.take k)) g):=
 CW (sh h (k+1)) (by rw[cg,cg])
theorem yT{xs ys:List Int}{g:Gl}(h:∀x∈xs,x∈ys)(hc:cu xs g=true):cu ys g=true:=by
 rw[cu,zT] at hc|-;exact λx hx=>decide_eq_true (h x (of_decide_eq_true (hc x hx)))
theorem qf{r:Rl}{order:List Int}{g:Gl}:∀{k:Nat},ot r order k g=true->cu (kvs r.ah (order.take k)) g=true
 |0,h=>by cases h
 |k+1,h=>yT (λx hx=>by
  have:=wQ (hs:=r.ah) (done:=order.take (k+1)) (i:=k) (x:=x);rw[List.take_take,Nat.min_eq_left (Nat.le_succ k)] at this;exact this hx) h
theorem qi(r:Rl)(order:List Int)(k j:Nat):(bf r order k j).length=r.guard.length:=by
 simp only[bf,zC,zn,Zc,cg];omega
theorem ov{r:Rl}{order:List Int}{j:Nat}{g:Gl}(k:Nat)(h:r.guard[j]? =some g)(e:cu (kvs r.ah (order.take k)) g=ot r order k g):bf r order k (j+1)=bf r order k j:=by
 rw[ou k h,e,rO (si k h)]
theorem qj{r:Rl}{order:List Int}{j:Nat}{g:Gl}(k:Nat)(h:r.guard[j]? =some g)(hgg:(Tm.vss g.args).length<=100000):∃pv cv:Bool,(bf r order k j)[j]? =some pv/\
  ((pv=true->ei (kW r order k) r.guard (j+1)=ei (kW r order k) r.guard j)/\(pv=false/\cv=true->ei (kW r order k) r.guard (j+1)=ei (kW r order k) r.guard j++[(j:Int)])/\(pv=false/\cv=false->ei (kW r order k) r.guard (j+1)=ei (kW r order k) r.guard j))/\
  ((pv=true->bf r order k (j+1)=bf r order k j)/\(pv=false/\cv=true->bf r order k (j+1)=(bf r order k j).set j true)/\(pv=false/\cv=false->bf r order k (j+1)=bf r order k j))/\
  ∀{bs:List Box} {b:Nat},al bs.length bs=true->bs[b]? =some (.mp (cZ (.bool true) (kvs r.ah (order.take k))))->AM.Sem Tryz.prog 207 [.mpt b,g.av] bs λr bs'=>r=.bool cv/\bs'=bs:=by
 refine⟨ot r order k g,cu (kvs r.ah (order.take k)) g,si k h,⟨λh1=>Cx h ?_,λ⟨h1,h2⟩=>ET h ?_,λ⟨h1,h2⟩=>Cx h ?_⟩,⟨λh1=>ov k h ?_,λ⟨h1,h2⟩=>?_,λ⟨h1,h2⟩=>ov k h ?_⟩,λhb h1=>Dt hgg hb h1⟩
 .rw [pA,h1,qf h1];rfl
 .rw [pA,h1,h2];rfl
 .rw [pA,h1,h2];rfl
 .rw [h1,qf h1]
 .rw [ou k h,h2]
 .rw [h1,h2]
set_option maxHeartbeats 4000000 in
theorem Eo{r:Rl}{order:List Int}(hr:r.ok2)(hg:r.okG)(hd:order.length<=100):Fun Tryz.prog 181 [r.av,slA aK order] (slA lC (wB r order)):=by
 have hgl:=hg.1;obtain⟨rc,hrc⟩:∃rc,rc=[AV.str r.name,.sl .no (r.aE.map At.av),.sl .no (r.remove.map At.av),.sl .no (r.guard.map Gl.av),.sl .no (r.body.map Gl.av),.int .i64 r.vars]:=⟨_,rfl⟩;refine Fun.of (sw (by simp) ?_) rfl rfl
 conv=>whnf
 repeat' (first|(refine gF ?_;refine ag.fn (dP (x:=r) (by have:=hr.1;omega)) ?_)|refine gW (wI ?_)|refine gL (.map ?_)|refine gN (nS ?_)|refine gMk (mBb ?_))<;>conv=>whnf
 refine az.count (fb:=true) order.length (λst_ k=>⟨[(1,.sl .no (order.map aK)),(2,.ptr 0 0),(5,.sl .no (r.ah.map At.av)),(6,.mpt 1),(7,.bsl 2 r.guard.length r.guard.length),(8,.sl (.own 1) ((eC r order k).map lC)),(9,.int .i64 k)],[.cells [.str r.name,.sl .no (r.aE.map At.av),.sl .no (r.remove.map At.av),.sl .no (r.guard.map Gl.av),.sl .no (r.body.map Gl.av),.int .i64 r.vars],.mp (cZ (.bool true) (kvs r.ah (order.take k))),bh AV.bool 1 r.guard.length (cX r order k)],0⟩) (λ_=>True) trivial ?_ (λk hk _=>?_) (λ_=>?_)
 .refine aq.at_ ?_ rfl
  conv=>whnf
  refine And.intro ?_ ?_<;>conv=>whnf
  all_goals repeat' (first|(refine gV ?_;first|refine vE ?_|refine vI ?_|(refine WkN.sl ?_ ?_;(focus (simp[AV.norm,AV.aj,eC,cZ,kvs,cX];done)))|(refine WkN.norm ?_ ?_;(focus (simp[AV.norm,AV.aj,eC,cZ,kvs,cX];done))))|(refine gX ?_;first|refine xB ?_|(refine BxN.mk ?_ ?_;(focus (simp[AV.norm,AV.aj,eC,cZ,kvs,cX];done))))|exact True.intro)<;>conv=>whnf
 .obtain ⟨x,hx⟩:∃x,order[k]? =some x:=⟨_,zA hk⟩
  have htk:order.take (k+1)=order.take k++[x]:=by
   rw[List.take_succ_eq_append_getElem hk,(zB.1 hx).2]
  have hkv:kvs r.ah (order.take (k+1))=kvs r.ah (order.take k)++kvs r.ah [x]:=by rw[htk,oI]
  have hpn:bf r order k r.guard.length=cX r order (k+1):=by
   rw[bf,<-cg r order (k+1),zz,cg,<-cg r order k,zj,zy]
  have hpt:(eC r order k).map lC++[AV.sl Cap.no ((ei (kW r order k) r.guard r.guard.length).map aK)]=(eC r order (k+1)).map lC:=by
   simp only[eC,zu,zQ,List.map_nil];rfl
  have hpl:=nI r order k
  conv=>whnf
  repeat' refine gL (.map ?_)<;>conv=>whnf
  refine az.count (fb:=true) r.guard.length (λst_ j=>⟨(st_.bD [(10,.sl (.own 1) ((ei (kW r order k) r.guard j).map aK)),(29,.int .i64 j)]).env,[.cells [.str r.name,.sl .no (r.aE.map At.av),.sl .no (r.remove.map At.av),.sl .no (r.guard.map Gl.av),.sl .no (r.body.map Gl.av),.int .i64 r.vars],.mp (cZ (.bool true) (kvs r.ah (order.take k))),bh AV.bool 1 r.guard.length (bf r order k j)],0⟩) (λ_=>True) trivial ?_ (λj hj _=>?_) (λ_=>?_)
  .refine aq.at_ ?_ rfl
   conv=>whnf
   refine And.intro ?_ ?_<;>conv=>whnf
   all_goals repeat' (first|(refine gV ?_;first|refine vE ?_|refine vI ?_|((refine gK ?_;refine vD ?_ ?_);(focus (simp[AV.norm,AV.aj,ei,bf];done))))|(refine gX ?_;first|refine xB ?_|(refine BxN.mk ?_ ?_;(focus (simp[AV.norm,AV.aj,ei,bf];done))))|exact True.intro)<;>conv=>whnf
  .obtain ⟨g,hgj⟩:∃g,r.guard[j]? =some g:=⟨_,zA hj⟩;have hgg:=hg.2 g (zE hgj);have hl:=sZ (kW r order k) r.guard j;have hplen:=qi r order k j;obtain⟨pv,cv,hat,hs,hsb,hcov⟩:=qj (order:=order) k hgj hgg;generalize bf r order k j=pj at*;generalize bf r order k (j+1)=pj' at*;generalize ei (kW r order k) r.guard (j+1)=ix' at*;generalize ei (kW r order k) r.guard j=ix at*
   cases pv with
   |true=>
    have hs:=hs.1 rfl;have hsb:=hsb.1 rfl;clear hcov
    conv=>whnf
    repeat' (first|(refine gC ?_;first|refine cY ?_|refine cN ?_|refine .not ?_|refine gD (cI ?_))|refine gW (wI ?_)|refine gN (nS ?_)|refine gI (gM (iE ?_))|(refine gE ?_;refine eLb ?_))<;>conv=>whnf
    refine⟨trivial,?_⟩;refine aq.atC 3 ?_ rfl rfl rfl rfl (by first|rfl|(repeat' (first|rfl|refine ao (row_allI _ _ _) ?_|refine ao (aw _ _ _) ?_|refine bLtMp ?_|refine aB ?_|refine bLtCells rfl ?_)))
    conv=>whnf
    refine And.intro ?_ ?_<;>conv=>whnf
    all_goals repeat' (first|(refine gV ?_;first|refine vE ?_|refine vI ?_|(refine WkN.sl ?_ ?_;(focus (simp[AV.norm,AV.aj,hs,hsb];done))))|(refine gX ?_;first|refine xB ?_|(refine BxN.mk ?_ ?_;(focus (simp[AV.norm,AV.aj,hs,hsb];done))))|exact True.intro)<;>conv=>whnf
   |false=>
    cases cv with
    |true=>
     have hs:=hs.2.1 ⟨rfl,rfl⟩;have hsb:=hsb.2.1 ⟨rfl,rfl⟩
     conv=>whnf
     repeat' (first|(refine gF ?_;refine ag.to (hcov (by first|rfl|(repeat' (first|rfl|refine ao (row_allI _ _ _) ?_|refine ao (aw _ _ _) ?_|refine bLtMp ?_|refine aB ?_|refine bLtCells rfl ?_))) rfl) ?_)|(refine gC ?_;first|refine cY ?_|refine cN ?_|refine .not ?_|refine gD (cI ?_))|refine gW (wI ?_)|refine gN (nS ?_)|refine gI (gM (iE ?_))|(refine gE ?_;refine eLb ?_)|refine gS (eSb ?_))<;>conv=>whnf
     refine⟨trivial,?_⟩;refine aq.atC 3 ?_ rfl rfl rfl rfl (by first|rfl|(repeat' (first|rfl|refine ao (row_allI _ _ _) ?_|refine ao (aw _ _ _) ?_|refine bLtMp ?_|refine aB ?_|refine bLtCells rfl ?_)))
     conv=>whnf
     refine And.intro ?_ ?_<;>conv=>whnf
     all_goals repeat' (first|(refine gV ?_;first|refine vE ?_|refine vI ?_|(refine WkN.sl ?_ ?_;(focus (simp[AV.norm,AV.aj,hs,hsb];done))))|(refine gX ?_;first|refine xB ?_|(refine BxN.mk ?_ ?_;(focus (simp[AV.norm,AV.aj,hs,hsb];done))))|exact True.intro)<;>conv=>whnf
    |false=>
     have hs:=hs.2.2 ⟨rfl,rfl⟩;have hsb:=hsb.2.2 ⟨rfl,rfl⟩
     conv=>whnf
     repeat' (first|(refine gF ?_;refine ag.to (hcov (by first|rfl|(repeat' (first|rfl|refine ao (row_allI _ _ _) ?_|refine ao (aw _ _ _) ?_|refine bLtMp ?_|refine aB ?_|refine bLtCells rfl ?_))) rfl) ?_)|(refine gC ?_;first|refine cN ?_|refine .not ?_|refine gD (cI ?_))|refine gW (wI ?_)|refine gN (nS ?_)|refine gI (gM (iE ?_))|(refine gE ?_;refine eLb ?_))<;>conv=>whnf
     refine⟨trivial,?_⟩;refine aq.atC 3 ?_ rfl rfl rfl rfl (by first|rfl|(repeat' (first|rfl|refine ao (row_allI _ _ _) ?_|refine ao (aw _ _ _) ?_|refine bLtMp ?_|refine aB ?_|refine bLtCells rfl ?_)))
     conv=>whnf
     refine And.intro ?_ ?_<;>conv=>whnf
     all_goals repeat' (first|(refine gV ?_;first|refine vE ?_|refine vI ?_|(refine WkN.sl ?_ ?_;(focus (simp[AV.norm,AV.aj,hs,hsb];done))))|(refine gX ?_;first|refine xB ?_|(refine BxN.mk ?_ ?_;(focus (simp[AV.norm,AV.aj,hs,hsb];done))))|exact True.intro)<;>conv=>whnf
  conv=>whnf
  repeat' (first|(refine gF ?_;refine ag.to (Fc (λh hh=>by have:=(hr.2 h hh).2.1;omega) (by first|rfl|(repeat' (first|rfl|refine ao (row_allI _ _ _) ?_|refine ao (aw _ _ _) ?_|refine bLtMp ?_|refine aB ?_|refine bLtCells rfl ?_))) rfl) ?_)|refine gC (gD (cJ ?_))|refine gW (wI ?_)|refine gL (.map ?_)|refine gN (nS ?_)|refine gI (gM (iE ?_)))<;>conv=>whnf
  refine⟨trivial,?_⟩;refine aq.at_ ?_ rfl
  conv=>whnf
  refine And.intro ?_ ?_<;>conv=>whnf
  all_goals repeat' (first|(refine gV ?_;first|refine vE ?_|refine vI ?_|(refine WkN.sl ?_ ?_;(focus (simp[AV.norm,AV.aj,hkv,hpn,hpt];done))))|(refine gX ?_;first|refine xB ?_|(refine BxN.mk ?_ ?_;(focus (simp[AV.norm,AV.aj,hkv,hpn,hpt];done))))|exact True.intro)<;>conv=>whnf
 .obtain ⟨k,hk⟩:∃k,order.length=k:=⟨_,rfl⟩;rw[hk]
  have hpt:(eC r order k).map lC++[AV.sl Cap.no ((ei (kW r order k) r.guard r.guard.length).map aK)]=(wB r order).map lC:=by
   rw[wB,hk];simp only[eC,zu,zQ,List.map_nil];rfl
  have hpl:=nI r order k
  conv=>whnf
  repeat' refine gL (.map ?_)<;>conv=>whnf
  refine az.count (fb:=true) r.guard.length (λst_ j=>⟨(st_.bD [(10,.sl (.own 1) ((ei (kW r order k) r.guard j).map aK)),(29,.int .i64 j)]).env,[.cells [.str r.name,.sl .no (r.aE.map At.av),.sl .no (r.remove.map At.av),.sl .no (r.guard.map Gl.av),.sl .no (r.body.map Gl.av),.int .i64 r.vars],.mp (cZ (.bool true) (kvs r.ah (order.take k))),bh AV.bool 1 r.guard.length (bf r order k j)],0⟩) (λ_=>True) trivial ?_ (λj hj _=>?_) (λ_=>?_)
  .refine aq.at_ ?_ rfl
   conv=>whnf
   refine And.intro ?_ ?_<;>conv=>whnf
   all_goals repeat' (first|(refine gV ?_;first|refine vE ?_|refine vI ?_|((refine gK ?_;refine vD ?_ ?_);(focus (simp[AV.norm,AV.aj,ei,bf];done))))|(refine gX ?_;first|refine xB ?_|(refine BxN.mk ?_ ?_;(focus (simp[AV.norm,AV.aj,ei,bf];done))))|exact True.intro)<;>conv=>whnf
  .obtain ⟨g,hgj⟩:∃g,r.guard[j]? =some g:=⟨_,zA hj⟩;have hgg:=hg.2 g (zE hgj);have hl:=sZ (kW r order k) r.guard j;have hplen:=qi r order k j;obtain⟨pv,cv,hat,hs,hsb,hcov⟩:=qj (order:=order) k hgj hgg;generalize bf r order k j=pj at*;generalize bf r order k (j+1)=pj' at*;generalize ei (kW r order k) r.guard (j+1)=ix' at*;generalize ei (kW r order k) r.guard j=ix at*
   cases pv with
   |true=>
    have hs:=hs.1 rfl;have hsb:=hsb.1 rfl;clear hcov
    conv=>whnf
    repeat' (first|(refine gC ?_;first|refine cY ?_|refine cN ?_|refine .not ?_|refine gD (cI ?_))|refine gW (wI ?_)|refine gN (nS ?_)|refine gI (gM (iE ?_))|(refine gE ?_;refine eLb ?_))<;>conv=>whnf
    refine⟨trivial,?_⟩;refine aq.atC 3 ?_ rfl rfl rfl rfl (by first|rfl|(repeat' (first|rfl|refine ao (row_allI _ _ _) ?_|refine ao (aw _ _ _) ?_|refine bLtMp ?_|refine aB ?_|refine bLtCells rfl ?_)))
    conv=>whnf
    refine And.intro ?_ ?_<;>conv=>whnf
    all_goals repeat' (first|(refine gV ?_;first|refine vE ?_|refine vI ?_|(refine WkN.sl ?_ ?_;(focus (simp[AV.norm,AV.aj,hs,hsb];done))))|(refine gX ?_;first|refine xB ?_|(refine BxN.mk ?_ ?_;(focus (simp[AV.norm,AV.aj,hs,hsb];done))))|exact True.intro)<;>conv=>whnf
   |false=>
    cases cv with
    |true=>
     have hs:=hs.2.1 ⟨rfl,rfl⟩;have hsb:=hsb.2.1 ⟨rfl,rfl⟩
     conv=>whnf
     repeat' (first|(refine gF ?_;refine ag.to (hcov (by first|rfl|(repeat' (first|rfl|refine ao (row_allI _ _ _) ?_|refine ao (aw _ _ _) ?_|refine bLtMp ?_|refine aB ?_|refine bLtCells rfl ?_))) rfl) ?_)|(refine gC ?_;first|refine cY ?_|refine cN ?_|refine .not ?_|refine gD (cI ?_))|refine gW (wI ?_)|refine gN (nS ?_)|refine gI (gM (iE ?_))|(refine gE ?_;refine eLb ?_)|refine gS (eSb ?_))<;>conv=>whnf
     refine⟨trivial,?_⟩;refine aq.atC 3 ?_ rfl rfl rfl rfl (by first|rfl|(repeat' (first|rfl|refine ao (row_allI _ _ _) ?_|refine ao (aw _ _ _) ?_|refine bLtMp ?_|refine aB ?_|refine bLtCells rfl ?_)))
     conv=>whnf
     refine And.intro ?_ ?_<;>conv=>whnf
     all_goals repeat' (first|(refine gV ?_;first|refine vE ?_|refine vI ?_|(refine WkN.sl ?_ ?_;(focus (simp[AV.norm,AV.aj,hs,hsb];done))))|(refine gX ?_;first|refine xB ?_|(refine BxN.mk ?_ ?_;(focus (simp[AV.norm,AV.aj,hs,hsb];done))))|exact True.intro)<;>conv=>whnf
    |false=>
     have hs:=hs.2.2 ⟨rfl,rfl⟩;have hsb:=hsb.2.2 ⟨rfl,rfl⟩
     conv=>whnf
     repeat' (first|(refine gF ?_;refine ag.to (hcov (by first|rfl|(repeat' (first|rfl|refine ao (row_allI _ _ _) ?_|refine ao (aw _ _ _) ?_|refine bLtMp ?_|refine aB ?_|refine bLtCells rfl ?_))) rfl) ?_)|(refine gC ?_;first|refine cN ?_|refine .not ?_|refine gD (cI ?_))|refine gW (wI ?_)|refine gN (nS ?_)|refine gI (gM (iE ?_))|(refine gE ?_;refine eLb ?_))<;>conv=>whnf
     refine⟨trivial,?_⟩;refine aq.atC 3 ?_ rfl rfl rfl rfl (by first|rfl|(repeat' (first|rfl|refine ao (row_allI _ _ _) ?_|refine ao (aw _ _ _) ?_|refine bLtMp ?_|refine aB ?_|refine bLtCells rfl ?_)))
     conv=>whnf
     refine And.intro ?_ ?_<;>conv=>whnf
     all_goals repeat' (first|(refine gV ?_;first|refine vE ?_|refine vI ?_|(refine WkN.sl ?_ ?_;(focus (simp[AV.norm,AV.aj,hs,hsb];done))))|(refine gX ?_;first|refine xB ?_|(refine BxN.mk ?_ ?_;(focus (simp[AV.norm,AV.aj,hs,hsb];done))))|exact True.intro)<;>conv=>whnf
  conv=>whnf
  repeat' (first|(refine gC ?_;(refine gD ?_;first|refine cI ?_|refine cJ ?_))|refine gL (.map ?_)|refine gN (nS ?_)|refine ak.nrm ?_)<;>conv=>whnf
  exact HZ hpt
end Go.CK
namespace Go.CK
end Go.CK
namespace Go.CK
open Go.AM Go.Proofs
def dv(r:Rl)(o:Int)(order:List Int):Nat->List (List Int)
 |0=>[]
 |k+1=>dv r o order k++match order[k]? with
  |none=>[]
  |some h=>[bc r (o::order.take k) h]
theorem nP{r:Rl}{o:Int}{order:List Int}{k:Nat}{h:Int}(hk:order[k]? =some h):dv r o order (k+1)=dv r o order k++[bc r (o::order.take k) h]:=by simp[dv,hk]
theorem e8{r:Rl}{o:Int}{order:List Int}:∀{k:Nat},k<=order.length->(dv r o order k).length=k
 |0,_=>rfl
 |k+1,h=>by
  rw[nP (zA h),zC,e8 (by omega)];rfl
def El(r:Rl)(o:Oc)(order:List Int):Pl:=⟨o,order,dv r o.head order order.length,wB r (o.head::order)⟩
theorem wz:Plain lC 1:=⟨by decide,λ_=>rfl,λx c hc=>by
 obtain rfl:c=slA aK x:=by simpa[lC,slA,AV.cells] using hc
 rfl,λx c hc=>by
 obtain rfl:c=slA aK x:=by simpa[lC,slA,AV.cells] using hc
 rfl⟩
theorem aOs{e:List (Nat×AV)}{bs:List Box}{lo:Nat}{b m k:Nat}{l:List (List Int)}{x:List Int}{o:Cap}{K:AV->St->Prop}(h:∀k',(l++[x]).length<=k'->K (.bsl bs.length (l++[x]).length k') ⟨e,bs.set b .dead++[bh lC 1 k' (l++[x])],lo⟩)(hb:bs[b]? =some (bh lC 1 k l):=by first|rfl|assumption)(hm:m=l.length:=by first|rfl|assumption)(hk:m<=k:=by omega)(hlim:m+1<=4294967296:=by first|omega|assumption):uC 1 ⟨e,bs,lo⟩ (.bsl b m k) (.sl o [.sl .no (x.map aK)]) K:=uC.one (x:=x) wz hb hm hk hlim h
set_option maxHeartbeats 1000000 in
theorem A7{r:Rl}{o:Oc}{order:List Int}(hr:r.ok2)(hg:r.okG)(hd:order.length<=90)(hh:∀h∈order,0<=h/\h<r.ah.length):Fun Tryz.prog 129 [r.wh,o.av,slA aK order] (El r o order).av:=by
 have hpo:=hr.ok;refine Fun.of (l6 (by simp) ?_) rfl rfl
 conv=>whnf
 repeat' refine gL (.map ?_)<;>conv=>whnf
 refine az.by (fb:=true) (λst_ (q:Nat×Nat)=>⟨(st_.bD [(8,.sl (.own 1) ((o.head::order.take q.1).map aK)),(19,.int .i64 q.1)]).env,[.cells [.str r.name,.sl .no (r.aE.map At.av),.sl .no (r.remove.map At.av),.sl .no (r.guard.map Gl.av),.sl .no (r.body.map Gl.av),.int .i64 r.vars,.sl .no (r.ah.map At.av)],.cells [.int .i64 o.rule,.int .i64 o.head,.bool o.kept],.cells [.int .i64 0,.int .i64 0,.bool false,.sl .full [],.sl .full [],.sl .full []],.cells [.int .i64 o.rule,.int .i64 o.head,.bool o.kept,.sl .no (order.map aK),.bsl 4 (dv r o.head order q.1).length q.2,.sl .full []],bh lC 1 q.2 (dv r o.head order q.1)],0⟩) (λq=>q.1<=order.length/\(dv r o.head order q.1).length<=q.2) (λq=>order.length-q.1) (0,0) ⟨zJ _,zG _⟩ ?_ ?_
 .refine aq.qV (.bx 3 4) rfl rfl ?_;refine aq.at_ ?_ rfl
  conv=>whnf
  refine And.intro ?_ ?_<;>conv=>whnf
  all_goals repeat' (first|(refine gV ?_;first|refine vE ?_|refine vI ?_|((refine gK ?_;refine vD ?_ ?_);(focus (simp[AV.norm,AV.aj,dv,cellsOf];done))))|(refine gX ?_;first|refine xB ?_|(refine BxN.mk ?_ ?_;(focus (simp[AV.norm,AV.aj,dv,cellsOf];done))))|exact True.intro)<;>conv=>whnf
 rintro⟨k,kc⟩ ⟨hk0,hkc⟩;dsimp only at hk0 hkc|-;have hkl:=e8 (r:=r) (o:=o.head) hk0
 by_cases hk:k<order.length
 .obtain ⟨h,hkh⟩:∃h,order[k]? =some h:=⟨_,zA hk⟩;have hho:=hh h (zE hkh)
  have htk:order.take (k+1)=order.take k++[h]:=by
   rw[List.take_succ_eq_append_getElem hk,(zB.1 hkh).2]
  have hka:=nP (r:=r) (o:=o.head) hkh;have hkc':=e8 (r:=r) (o:=o.head) (k:=k+1) hk
  conv=>whnf
  repeat' (first|(refine gG ?_;refine a6.fn (yi (r:=r) (done:=o.head::order.take k) (head:=h) hpo (by simp;omega) hho.1 hho.2) ?_)|refine gC (gD (cI ?_))|refine gI (gM (iE ?_)))<;>conv=>whnf
  refine aOs λk' hk'=>?_
  conv=>whnf
  repeat' (first|refine gW (wI ?_)|refine gN (nS ?_))<;>conv=>whnf
  refine⟨(k+1,k'),⟨⟨hk,by rw[hka];exact hk'⟩,by simp;omega⟩,?_⟩
  dsimp only;rw[hka,htk];refine aq.gcB wz [.cells [.str r.name,.sl .no (r.aE.map At.av),.sl .no (r.remove.map At.av),.sl .no (r.guard.map Gl.av),.sl .no (r.body.map Gl.av),.int .i64 r.vars,.sl .no (r.ah.map At.av)],.cells [.int .i64 o.rule,.int .i64 o.head,.bool o.kept],.cells [.int .i64 0,.int .i64 0,.bool false,.sl .full [],.sl .full [],.sl .full []],.cells [.int .i64 o.rule,.int .i64 o.head,.bool o.kept,.sl .no (order.map aK),.top,.sl .full []]] [.dead] 3 4 _ rfl rfl rfl rfl rfl rfl ?_;refine aq.at_ ?_ rfl
  conv=>whnf
  refine And.intro ?_ ?_<;>conv=>whnf
  all_goals repeat' (first|(refine gV ?_;first|refine vE ?_|refine vI ?_|(refine WkN.sl ?_ ?_;(focus (simp[AV.norm,AV.aj,];done))))|(refine gX ?_;first|refine xB ?_|(refine BxN.mk ?_ ?_;(focus (simp[AV.norm,AV.aj,];done))))|exact True.intro)<;>conv=>whnf
 .obtain rfl:k=order.length:=by omega
  rw[zz]
  conv=>whnf
  repeat' (first|(refine gF ?_;refine ag.fn (Eo (r:=r) (order:=o.head::order) hr hg (by simp;omega)) ?_)|refine gC (gD (cJ ?_)))<;>conv=>whnf
  refine ak.wV wz 2 4 rfl rfl rfl (zG _) ?_
  conv=>whnf
  repeat' refine ak.nrm ?_<;>conv=>whnf
  rw[zz];rfl
end Go.CK
namespace Go.CK
open Go.AM Go.Proofs
theorem Gy{a b:Bool}(h:a=b):AV.bool a=AV.bool b:=by rw[h]
def upI(n:Nat):List Int:=(List.range n).map λj:Nat=>(j:Int)
theorem n9(n:Nat):(upI n).length=n:=by simp[upI]
theorem DU{n j:Nat}(h:j<n):(upI n)[j]? =some (j:Int):=by simp[upI,h]
theorem Cb{n:Nat}{x:Int}(h:x∈upI n):0<=x/\x<n:=by
 obtain⟨j,hj,rfl⟩:=zk.1 h;have:=zd.1 hj;omega
theorem x6{i:Nat}{x:Rl}{y:Oc×At}:∀{j:Nat},j<=x.ah.length->y∈lI i x j->y.1.rule=i/\0<=y.1.head/\y.1.head<x.ah.length/\y.1.kept=decide (y.1.head<x.aE.length)
 |0,_,h=>by cases h
 |j+1,hj,h=>by
  rcases zY.1 h with h|h
  .exact x6 (by omega) h
  .rw [zp] at h;subst h;exact⟨rfl,by simp only;omega,by simp only;omega,rfl⟩
theorem As{l:List Rl}{y:Oc×At}:∀{j:Nat},y∈fV l j->∃(i:Nat) (x:Rl),l[i]? =some x/\y.1.rule=i/\0<=y.1.head/\y.1.head<x.ah.length/\y.1.kept=decide (y.1.head<x.aE.length)
 |0,h=>by cases h
 |j+1,h=>by
  rcases zY.1 h with h|h
  .exact As h
  .split at h
   .cases h
   .rename_i x hx;exact⟨j,x,hx,x6 (zG _) h⟩
theorem x5{p:Pg}{o:Oc}(h:o∈p.occs):∃r,p.rules[o.rule.toNat]? =some r/\0<=o.rule/\0<=o.head/\o.head<r.ah.length/\o.kept=decide (o.head<r.aE.length):=by
 obtain⟨y,hy,rfl⟩:=zk.1 h;obtain⟨i,x,h1,h2,h3⟩:=As hy;refine⟨x,?_,by omega,h3⟩
 rw[h2,Zk,h1]
structure Pg.fit(p:Pg):Prop where
 ok:p.ok
 ok2:∀r∈p.rules,r.ok2
 okG:∀r∈p.rules,r.okG
 few:p.rules.length<=10000
end Go.CK
namespace Go.CK
open Go.AM Go.Proofs
theorem CU(n:Nat):(upI n).Nodup:=by
 unfold upI List.Nodup;rw[List.pairwise_map];exact List.Pairwise.imp (λh=>by omega) (List.nodup_range (n:=n))
theorem FG{n:Nat}{x:Int}(h0:0<=x)(h1:x<n):x∈upI n:=by
 unfold upI;exact zk.2 ⟨x.toNat,zd.2 (by omega),by omega⟩
theorem lZ{α:Type}[BEq α][LawfulBEq α]:∀{l m:List α},l.Nodup->(∀x∈l,x∈m)->m.length<=l.length->l.Perm m
 |[],m,_,_,hl=>by
  have:m=[]:=zL (by simpa using hl)
  subst this;exact .nil
 |x::l,m,hn,hs,hl=>by
  have hx:x∈m:=hs x (by simp)
  have hn':=Zb.1 hn;have h1:=List.perm_cons_erase hx
  have h2:l.Perm (m.erase x):=lZ hn'.2 (λy hy=>(List.mem_erase_of_ne (λe=>hn'.1 (by rw[<-e];exact hy))).2 (hs y (by simp[hy]))) (by
   rw[List.length_erase_of_mem hx];simp at hl;omega)
  exact(h2.cons x).trans h1.symm
end Go.CK
namespace Go.CK
open Go.AM Go.Proofs
def er(r:Rl)(keys:List Ky)(done:List Int):Nat->Int×Int
 |0=>(-1,-1)
 |j+1=>if (j:Int)∈done then er r keys done j else match r.ah[j]? with
  |none=>er r keys done j
  |some h=>if (er r keys done j).2<cM r keys done j h then ((j:Int),cM r keys done j h) else er r keys done j
def ck(r:Rl)(keys:List Ky)(o:Int):Nat->List Int
 |0=>[o]
 |k+1=>ck r keys o k++[(er r keys (ck r keys o k) r.ah.length).1]
theorem kx(r:Rl)(keys:List Ky)(o:Int):∀k,(ck r keys o k).length=k+1
 |0=>rfl
 |k+1=>by simp[ck,kx r keys o k]
theorem Ai{r:Rl}{keys:List Ky}{done:List Int}{j:Nat}(h:(j:Int)∈done):er r keys done (j+1)=er r keys done j:=by rw[er,if_pos h]
theorem pY{r:Rl}{keys:List Ky}{done:List Int}{j:Nat}{h:At}(hn:¬(j:Int)∈done)(hh:r.ah[j]? =some h):er r keys done (j+1)=if (er r keys done j).2<cM r keys done j h then ((j:Int),cM r keys done j h) else er r keys done j:=by rw[er,if_neg hn,hh]
theorem AY(r:Rl)(keys:List Ky)(done:List Int)(head:Int)(h:At):0<=cM r keys done head h:=by
 unfold cM;split<;>split<;>omega
theorem tG{r:Rl}{keys:List Ky}{done:List Int}:∀{j:Nat},j<=r.ah.length->
  ((er r keys done j=(-1,-1)/\∀i,i<j->(i:Int)∈done)\/∃(b:Nat) (h:At),b<j/\r.ah[b]? =some h/\¬(b:Int)∈done/\er r keys done j=((b:Int),cM r keys done b h)/\
   ∀i g,i<j->r.ah[i]? =some g->¬(i:Int)∈done->cM r keys done i g<=cM r keys done b h/\(cM r keys done i g=cM r keys done b h->b<=i))
 |0,_=>.inl ⟨rfl,λi hi=>by omega⟩
 |j+1,hj=>by
  obtain⟨h,hh⟩:∃h,r.ah[j]? =some h:=⟨_,zA hj⟩
  by_cases hd:(j:Int)∈done
  .rw [Ai hd];rcases tG (r:=r) (keys:=keys) (done:=done) (j:=j) (by omega) with ⟨h1,h2⟩|⟨b,g,h1,h2,h3,h4,h5⟩
   .exact .inl ⟨h1,λi hi=>by
     rcases Nat.lt_or_eq_of_le (Nat.le_of_lt_succ hi) with q|q
     .exact h2 i q
     .rw [q];exact hd⟩
   .refine .inr ⟨b,g,by omega,h2,h3,h4,λi g' hi hg hn=>?_⟩
    rcases Nat.lt_or_eq_of_le (Nat.le_of_lt_succ hi) with q|q
    .exact h5 i g' q hg hn
    .rw [q] at hn;exact absurd hd hn
  .rw [pY hd hh];rcases tG (r:=r) (keys:=keys) (done:=done) (j:=j) (by omega) with ⟨h1,h2⟩|⟨b,g,h1,h2,h3,h4,h5⟩
   .have:=AY r keys done j h;rw[h1,if_pos (by simp only;omega)]
    refine .inr ⟨j,h,by omega,hh,hd,rfl,λi g' hi hg hn=>?_⟩
    rcases Nat.lt_or_eq_of_le (Nat.le_of_lt_succ hi) with q|q
    .exact absurd (h2 i q) hn
    .subst q;rw[hh] at hg;cases hg;exact⟨Int.le_refl _,λ_=>zG _⟩
   .rw [h4];dsimp only;split
    .rename_i hlt;refine .inr ⟨j,h,by omega,hh,hd,rfl,λi g' hi hg hn=>?_⟩
     rcases Nat.lt_or_eq_of_le (Nat.le_of_lt_succ hi) with q|q
     .have:=h5 i g' q hg hn;exact⟨by omega,λe=>by omega⟩
     .subst q;rw[hh] at hg;cases hg;exact⟨Int.le_refl _,λ_=>zG _⟩
    .rename_i hlt;refine .inr ⟨b,g,by omega,h2,h3,rfl,λi g' hi hg hn=>?_⟩
     rcases Nat.lt_or_eq_of_le (Nat.le_of_lt_succ hi) with q|q
     .exact h5 i g' q hg hn
     .subst q;rw[hh] at hg;cases hg;exact⟨by omega,λ_=>by omega⟩
theorem DI{r:Rl}{keys:List Ky}{done:List Int}(hl:done.length<r.ah.length):∃(b:Nat) (h:At),b<r.ah.length/\r.ah[b]? =some h/\¬(b:Int)∈done/\er r keys done r.ah.length=((b:Int),cM r keys done b h)/\
   ∀i g,i<r.ah.length->r.ah[i]? =some g->¬(i:Int)∈done->cM r keys done i g<=cM r keys done b h/\(cM r keys done i g=cM r keys done b h->b<=i):=by
 rcases tG (r:=r) (keys:=keys) (done:=done) (zG _) with ⟨_,h2⟩|h
 .exfalso
  have hs:∀x∈upI r.ah.length,x∈done:=λx hx=>by
   obtain⟨j,hj,rfl⟩:=zk.1 hx;exact h2 j (zd.1 hj)
  have:=(lZ (CU r.ah.length) hs (by rw[n9];omega)).length_eq
  rw[n9] at this;omega
 .exact h
theorem yR{r:Rl}{keys:List Ky}{o:Int}(h0:0<=o)(h1:o<r.ah.length):∀{k:Nat},k+1<=r.ah.length->(ck r keys o k).Nodup/\∀x∈ck r keys o k,0<=x/\x<r.ah.length
 |0,_=>⟨by simp[ck],λx hx=>by simp[ck] at hx;subst hx;exact⟨h0,h1⟩⟩
 |k+1,hk=>by
  obtain⟨q1,q2⟩:=yR (r:=r) (keys:=keys) h0 h1 (k:=k) (by omega)
  obtain⟨b,h,h2,h3,h4,h5,_⟩:=DI (r:=r) (keys:=keys) (done:=ck r keys o k) (by rw[kx];omega)
  rw[ck,h5];refine⟨List.nodup_append.2 ⟨q1,by simp,λx hx y hy e=>?_⟩,λx hx=>?_⟩
  .simp at hy;subst hy;exact h4 (e▸hx)
  .rcases zY.1 hx with hx|hx
   .exact q2 x hx
   .simp at hx;subst hx;omega
def jt(r:Rl)(keys:List Ky)(o:Int):List Int:=(ck r keys o (r.ah.length-1)).drop 1
theorem tl(r:Rl)(keys:List Ky)(o:Int):∀k,ck r keys o k=o::(ck r keys o k).drop 1
 |0=>rfl
 |k+1=>by
  have:=tl r keys o k
  conv=>lhs;rw[ck,this]
  conv=>rhs;rw[ck,this]
  simp
theorem qk{r:Rl}{keys:List Ky}{o:Int}(h0:0<=o)(h1:o<r.ah.length):(o::jt r keys o).Perm (upI r.ah.length):=by
 rw[jt,<-tl];obtain⟨q1,q2⟩:=yR (r:=r) (keys:=keys) h0 h1 (k:=r.ah.length-1) (by omega)
 exact lZ q1 (λx hx=>FG (q2 x hx).1 (q2 x hx).2) (by rw[n9,kx];omega)
def Pl.zero:Pl:=⟨⟨0,0,false⟩,[],[],[]⟩
def ofI(p:Pg)(keys:List Ky)(o:Oc):Pl:=if o∈p.occs then match p.rules[o.rule.toNat]? with
 |none=>Pl.zero
 |some r=>El r o (jt r keys o.head) else Pl.zero
set_option maxHeartbeats 1000000 in
theorem FZ{p:Pg}{keys:List Ky}{o:Oc}(hp:p.fit)(hk:keys.length<=100000):Fun Tryz.prog 67 [p.av,slA Ky.av keys,o.av] (ofI p keys o).av:=by
 by_cases hocc:o∈p.occs
 .obtain ⟨r,hr,h1,h2,h3,h4⟩:=x5 hocc;have hrm:=zE hr;have hr2:=hp.ok2 r hrm;have hrg:=hp.okG r hrm;have hhl:r.ah.length<=8:=by rw[Rl.bK];exact hr2.1
  have hcon:Fun Tryz.prog 125 [slA Oc.av p.occs,o.av] (.bool true):=by
   have:=nw (l:=p.occs) (o:=o)
   rwa [decide_eq_true hocc] at this
  rw[ofI,if_pos hocc,hr];dsimp only;refine Fun.of (so (by simp) ?_) rfl rfl
  conv=>whnf
  repeat' (first|refine gF (ag.fn (Hl h1 hr hr2) ?_)|(refine gG ?_;first|refine a6.fn (BS hp.ok hp.few) ?_|refine a6.fn (hcon) ?_)|(refine gC ?_;first|refine cY ?_|refine .not ?_))<;>conv=>whnf
  refine az.count (fb:=true) (r.ah.length-1) (λst_ k=>st_.bD [(9,.sl (.own 1) ((ck r keys o.head k).map aK))]) (λ_=>True) trivial ?_ (λk hk _=>?_) (λ_=>?_)
  .refine aq.at_ ?_ rfl
   conv=>whnf
   refine And.intro ?_ ?_<;>conv=>whnf
   all_goals repeat' (first|(refine gV ?_;first|refine vE ?_|((refine gK ?_;refine vD ?_ ?_);(focus (simp[AV.norm,AV.aj,ck];done))))|refine gX (xB ?_)|exact True.intro)<;>conv=>whnf
  .have hdl:=kx r keys o.head k
   conv=>whnf
   repeat' (first|refine gC (gD (cI ?_))|refine gL (.map ?_))<;>conv=>whnf
   refine az.count (fb:=true) r.ah.length (λst_ j=>st_.bD [(10,.int .i64 (er r keys (ck r keys o.head k) j).1),(11,.int .i64 (er r keys (ck r keys o.head k) j).2),(39,.int .i64 j)]) (λ_=>True) trivial ?_ (λj hj _=>?_) (λ_=>?_)
   .refine aq.at_ ?_ rfl
    conv=>whnf
    refine And.intro ?_ ?_<;>conv=>whnf
    all_goals repeat' (first|(refine gV ?_;first|refine vE ?_|refine vI ?_|(refine WkN.norm ?_ ?_;(focus (simp[AV.norm,AV.aj,er];done))))|refine gX (xB ?_)|exact True.intro)<;>conv=>whnf
   .obtain ⟨h,hh⟩:∃h,r.ah[j]? =some h:=⟨_,zA hj⟩
    conv=>whnf
    repeat' (first|(refine gF ?_;first|refine ag.fn (qw (l:=ck r keys o.head k) (n:=j)) ?_|refine ag.fn (D8 (r:=r) (keys:=keys) (done:=ck r keys o.head k) (head:=j) (h:=h) hr2 (by omega) (by omega) (by omega) (by omega) (by simpa using hh)) ?_)|(refine gC ?_;first|refine gD (cI ?_)|refine ae.lt (λhc=>?_) (λhc=>?_)|refine ae.dec (λhc=>?_) (λhc=>?_))|refine gW (wI ?_))<;>conv=>whnf
    .have hb:=Ai (r:=r) (keys:=keys) (by assumption:(j:Int)∈ck r keys o.head k)
     refine⟨trivial,?_⟩;refine aq.at_ ?_ rfl
     conv=>whnf
     refine And.intro ?_ ?_<;>conv=>whnf
     all_goals repeat' (first|(refine gV ?_;first|refine vE ?_|refine vI ?_|(refine WkN.norm ?_ ?_;(focus (simp[AV.norm,AV.aj,hb];done))))|refine gX (xB ?_)|exact True.intro)<;>conv=>whnf
    .have hb:=pY (keys:=keys) (by assumption:¬(j:Int)∈ck r keys o.head k) hh
     rw[if_pos (by assumption)] at hb
     refine⟨trivial,?_⟩;refine aq.at_ ?_ rfl
     conv=>whnf
     refine And.intro ?_ ?_<;>conv=>whnf
     all_goals repeat' (first|(refine gV ?_;first|refine vE ?_|refine vI ?_|(refine WkN.norm ?_ ?_;(focus (simp[AV.norm,AV.aj,hb];done))))|refine gX (xB ?_)|exact True.intro)<;>conv=>whnf
    .have hb:=pY (keys:=keys) (by assumption:¬(j:Int)∈ck r keys o.head k) hh
     rw[if_neg (by omega)] at hb
     refine⟨trivial,?_⟩;refine aq.at_ ?_ rfl
     conv=>whnf
     refine And.intro ?_ ?_<;>conv=>whnf
     all_goals repeat' (first|(refine gV ?_;first|refine vE ?_|refine vI ?_|(refine WkN.norm ?_ ?_;(focus (simp[AV.norm,AV.aj,hb];done))))|refine gX (xB ?_)|exact True.intro)<;>conv=>whnf
   .conv=>whnf
    repeat' (first|refine gC (gD (cJ ?_))|refine gN (nS ?_))<;>conv=>whnf
    refine⟨trivial,?_⟩;refine aq.at_ ?_ rfl
    conv=>whnf
    refine And.intro ?_ ?_<;>conv=>whnf
    all_goals repeat' (first|(refine gV ?_;first|refine vE ?_|(refine WkN.sl ?_ ?_;(focus (simp[AV.norm,AV.aj,ck];done))))|refine gX (xB ?_)|exact True.intro)<;>conv=>whnf
  .have hdl:=kx r keys o.head (r.ah.length-1);have hpm:=qk (r:=r) (keys:=keys) h2 h3;have hh:∀h∈jt r keys o.head,0<=h/\h<r.ah.length:=λh hm=>Cb (hpm.mem_iff.1 (zR _ hm))
   have hol:(jt r keys o.head).length<=90:=by
    rw[jt,Zc,hdl];omega
   have hor:=A7 (o:=o) (order:=jt r keys o.head) hr2 hrg hol hh;rw[jt] at hor|-;generalize ck r keys o.head (r.ah.length-1)=dn at*
   have hdr:AV.sl .no (List.drop (Int.toNat 1) (List.take (((dn.map aK).length:Int)).toNat (dn.map aK)))=slA aK (dn.drop 1):=by
    rw[Zk,zz];simp[slA,List.map_drop]
   rw[<-hdr] at hor
   conv=>whnf
   repeat' (first|refine gG (a6.fn (hor) ?_)|refine gC (gD (cJ ?_))|refine gL (.map ?_)|refine gN (nS ?_)|refine ak.nrm ?_)<;>conv=>whnf
   rfl
 .rw [ofI,if_neg hocc]
  have hcon:Fun Tryz.prog 125 [slA Oc.av p.occs,o.av] (.bool false):=by
   have:=nw (l:=p.occs) (o:=o)
   rwa [decide_eq_false hocc] at this
  refine Fun.of (so (by simp) ?_) rfl rfl
  conv=>whnf
  repeat' (first|(refine gG ?_;first|refine a6.fn (BS hp.ok hp.few) ?_|refine a6.fn (hcon) ?_)|(refine gC ?_;first|refine cN ?_|refine .not ?_)|refine ak.nrm ?_)<;>conv=>whnf
  rfl
end Go.CK
