/-
  Texts of this aZ joined (wip/gen/bundle.py),those declarations only that are needed:GdI GdJ GdK GdL GdM GdN GdO GdP GdQ FunC. By an AI agent.
-/
import Derived.Test.YtpihbplamelcnaaGreatBbm
set_option linter.unusedSimpArgs false
set_option linter.unusedVariables false
set_option maxRecDepth 100000
namespace Go.CK
open Go.AM Go.Proofs
theorem CI{hs:List At}{done:List Int}{i:Nat}{x:Int}(h:x∈kvs hs (done.take i)):x∈kvs hs done:=by
 have:=px hs (done.take i) (done.drop i);rw[List.take_append_drop] at this;rw[this];exact ZB _ h
theorem O4{o:Cap}{l m:List AV}(h:l=m):AV.sl o l=AV.sl o m:=by rw[h]
def dJ(r:Rl)(order:List Int):Nat->List Bool
 |0=>List.replicate r.guard.length false
 |k+1=>r.guard.map (bS (kvs r.bV (order.take k)))
def bh(r:Rl)(order:List Int)(k i:Nat):List Bool:=(dJ r order (k+1)).take i++(dJ r order k).drop i
theorem cP(r:Rl)(order:List Int):∀k,(dJ r order k).length=r.guard.length
 |0=>by simp[dJ]
 |k+1=>by simp[dJ]
theorem IW{α:Type}{A B:List α}{j:Nat}{a:α}(h:A[j]? =some a)(hl:A.length=B.length):A.take (j+1)++B.drop (j+1)=(A.take j++B.drop j).set j a:=by
 obtain⟨hj,rfl⟩:=zB.1 h;rw[yd _ _ (by rw[zn];omega),zn,yU (by omega),ya,zH (show j<B.length by omega),List.set_cons_zero,List.take_succ_eq_append_getElem hj,zg]
 rfl
theorem Mo{α:Type}{A B:List α}{j:Nat}{b:α}(h:B[j]? =some b)(hl:A.length=B.length):(A.take j++B.drop j)[j]? =some b:=by
 have hj:j<B.length:=(zB.1 h).1;rw[zZ (by rw[zn];omega),zn,yU (by omega),ya,List.getElem?_drop,Zk,h]
def rU(r:Rl)(order:List Int):Nat->Gl->Bool
 |0,_=>false
 |k+1,g=>bS (kvs r.bV (order.take k)) g
theorem tu(r:Rl)(order:List Int)(k:Nat)(g:Gl):mW r order k g=(bS (kvs r.bV (order.take k)) g&&!rU r order k g):=by
 cases k with
 |zero=>simp[mW,rU]
 |succ k=>rfl
theorem v8{r:Rl}{order:List Int}{j:Nat}{g:Gl}(h:r.guard[j]? =some g):∀k,(dJ r order k)[j]? =some (rU r order k g)
 |0=>by
  have:=(zB.1 h).1
  simp[dJ,rU,this]
 |k+1=>by simp[dJ,rU,h]
theorem wa{r:Rl}{order:List Int}{j:Nat}{g:Gl}(k:Nat)(h:r.guard[j]? =some g):(bh r order k j)[j]? =some (rU r order k g):=
 Mo (v8 h k) (by rw[cP,cP])
theorem rV{r:Rl}{order:List Int}{j:Nat}{g:Gl}(k:Nat)(h:r.guard[j]? =some g):bh r order k (j+1)=(bh r order k j).set j (bS (kvs r.bV (order.take k)) g):=
 IW (v8 h (k+1)) (by rw[cP,cP])
theorem Fa{xs ys:List Int}{g:Gl}(h:∀x∈xs,x∈ys)(hc:bS xs g=true):bS ys g=true:=by
 rw[bS,zS] at hc|-;exact λx hx=>decide_eq_true (h x (of_decide_eq_true (hc x hx)))
theorem ue{r:Rl}{order:List Int}{g:Gl}:∀{k:Nat},rU r order k g=true->bS (kvs r.bV (order.take k)) g=true
 |0,h=>by cases h
 |k+1,h=>Fa (λx hx=>by
  have:=CI (hs:=r.bV) (done:=order.take (k+1)) (i:=k) (x:=x);rw[List.take_take,yU (Nat.le_succ k)] at this;exact this hx) h
theorem uf(r:Rl)(order:List Int)(k j:Nat):(bh r order k j).length=r.guard.length:=by
 simp only[bh,zC,zn,Zh,cP];omega
theorem rW{r:Rl}{order:List Int}{j:Nat}{g:Gl}(k:Nat)(h:r.guard[j]? =some g)(e:bS (kvs r.bV (order.take k)) g=rU r order k g):bh r order k (j+1)=bh r order k j:=by
 rw[rV k h,e,vn (wa k h)]
theorem ug{r:Rl}{order:List Int}{j:Nat}{g:Gl}(k:Nat)(h:r.guard[j]? =some g)(hgg:(Tm.vss g.args).length<=100000):∃pv cv:Bool,(bh r order k j)[j]? =some pv/\
  ((pv=true->eD (mW r order k) r.guard (j+1)=eD (mW r order k) r.guard j)/\(pv=false/\cv=true->eD (mW r order k) r.guard (j+1)=eD (mW r order k) r.guard j++[(j:Int)])/\(pv=false/\cv=false->eD (mW r order k) r.guard (j+1)=eD (mW r order k) r.guard j))/\
  ((pv=true->bh r order k (j+1)=bh r order k j)/\(pv=false/\cv=true->bh r order k (j+1)=(bh r order k j).set j true)/\(pv=false/\cv=false->bh r order k (j+1)=bh r order k j))/\
  ∀{bs:List Box} {b:Nat},ai bs.length bs=true->bs[b]? =some (.mp (i7 (.bool true) (kvs r.bV (order.take k))))->AM.Sem Tryz.prog 42 [.mpt b,g.av] bs λr bs'=>r=.bool cv/\bs'=bs:=by
 refine⟨rU r order k g,bS (kvs r.bV (order.take k)) g,wa k h,⟨λh1=>CM h ?_,λ⟨h1,h2⟩=>EJ h ?_,λ⟨h1,h2⟩=>CM h ?_⟩,⟨λh1=>rW k h ?_,λ⟨h1,h2⟩=>?_,λ⟨h1,h2⟩=>rW k h ?_⟩,λhb h1=>Bw hgg hb h1⟩
 .rw [tu,h1,ue h1];rfl
 .rw [tu,h1,h2];rfl
 .rw [tu,h1,h2];rfl
 .rw [h1,ue h1]
 .rw [rV k h,h2]
 .rw [h1,h2]
set_option maxHeartbeats 4000000 in
theorem KO{r:Rl}{order:List Int}(hr:r.ok3)(hg:r.okG)(hd:order.length<=100):Fun Tryz.prog 19 [r.av,slA c6 order] (slA A9 (Cn r order)):=by
 have hgl:=hg.1;obtain⟨rc,hrc⟩:∃rc,rc=[AV.str r.name,.sl .no (r.keep.map At.av),.sl .no (r.remove.map At.av),.sl .no (r.guard.map Gl.av),.sl .no (r.body.map Gl.av),.int .i64 r.vars]:=⟨_,rfl⟩;refine Fun.of (wq (by simp) ?_) rfl rfl
 conv=>whnf
 repeat' (first|(refine gF ?_;refine aa.fn (EK (x:=r) (by have:=hr.1;omega)) ?_)|refine gW (wI ?_)|refine gL (.map ?_)|refine gN (nS ?_)|refine gMk (mBb ?_))<;>conv=>whnf
 refine aD.count (fb:=true) order.length (λst_ k=>⟨[(1,.sl .no (order.map c6)),(2,.ptr 0 0),(5,.sl .no (r.bV.map At.av)),(6,.mpt 1),(7,.bsl 2 r.guard.length r.guard.length),(8,.sl (.own 1) ((fH r order k).map A9)),(9,.int .i64 k)],[.cells [.str r.name,.sl .no (r.keep.map At.av),.sl .no (r.remove.map At.av),.sl .no (r.guard.map Gl.av),.sl .no (r.body.map Gl.av),.int .i64 r.vars],.mp (i7 (.bool true) (kvs r.bV (order.take k))),aS AV.bool 1 r.guard.length (dJ r order k)],0⟩) (λ_=>True) trivial ?_ (λk hk _=>?_) (λ_=>?_)
 .refine ah.at_ ?_ rfl
  conv=>whnf
  refine And.intro ?_ ?_<;>conv=>whnf
  all_goals repeat' (first|(refine gV ?_;first|refine vE ?_|refine vI ?_|(refine WkN.sl ?_ ?_;(focus (simp[AV.norm,AV.ax,fH,i7,kvs,dJ];done)))|(refine WkN.norm ?_ ?_;(focus (simp[AV.norm,AV.ax,fH,i7,kvs,dJ];done))))|(refine gX ?_;first|refine xB ?_|(refine BxN.mk ?_ ?_;(focus (simp[AV.norm,AV.ax,fH,i7,kvs,dJ];done))))|exact True.intro)<;>conv=>whnf
 .obtain ⟨x,hx⟩:∃x,order[k]? =some x:=⟨_,zA hk⟩
  have htk:order.take (k+1)=order.take k++[x]:=by
   rw[List.take_succ_eq_append_getElem hk,(zB.1 hx).2]
  have hkv:kvs r.bV (order.take (k+1))=kvs r.bV (order.take k)++kvs r.bV [x]:=by rw[htk,px]
  have hpn:bh r order k r.guard.length=dJ r order (k+1):=by
   rw[bh,<-cP r order (k+1),zz,cP,<-cP r order k,zj,zy]
  have hpt:(fH r order k).map A9++[AV.sl Cap.no ((eD (mW r order k) r.guard r.guard.length).map c6)]=(fH r order (k+1)).map A9:=by
   simp only[fH,zu,zP,Zf];rfl
  have hpl:=qq r order k
  conv=>whnf
  repeat' refine gL (.map ?_)<;>conv=>whnf
  refine aD.count (fb:=true) r.guard.length (λst_ j=>⟨(st_.nI [(10,.sl (.own 1) ((eD (mW r order k) r.guard j).map c6)),(29,.int .i64 j)]).env,[.cells [.str r.name,.sl .no (r.keep.map At.av),.sl .no (r.remove.map At.av),.sl .no (r.guard.map Gl.av),.sl .no (r.body.map Gl.av),.int .i64 r.vars],.mp (i7 (.bool true) (kvs r.bV (order.take k))),aS AV.bool 1 r.guard.length (bh r order k j)],0⟩) (λ_=>True) trivial ?_ (λj hj _=>?_) (λ_=>?_)
  .refine ah.at_ ?_ rfl
   conv=>whnf
   refine And.intro ?_ ?_<;>conv=>whnf
   all_goals repeat' (first|(refine gV ?_;first|refine vE ?_|refine vI ?_|((refine gK ?_;refine vD ?_ ?_);(focus (simp[AV.norm,AV.ax,eD,bh];done))))|(refine gX ?_;first|refine xB ?_|(refine BxN.mk ?_ ?_;(focus (simp[AV.norm,AV.ax,eD,bh];done))))|exact True.intro)<;>conv=>whnf
  .obtain ⟨g,hgj⟩:∃g,r.guard[j]? =some g:=⟨_,zA hj⟩;have hgg:=hg.2 g (zE hgj);have hl:=sC (mW r order k) r.guard j;have hplen:=uf r order k j;obtain⟨pv,cv,hat,hs,hsb,hcov⟩:=ug (order:=order) k hgj hgg;generalize bh r order k j=pj at*;generalize bh r order k (j+1)=pj' at*;generalize eD (mW r order k) r.guard (j+1)=ix' at*;generalize eD (mW r order k) r.guard j=ix at*
   cases pv with
   |true=>
    have hs:=hs.1 rfl;have hsb:=hsb.1 rfl;clear hcov
    conv=>whnf
    repeat' (first|(refine gC ?_;first|refine cY ?_|refine cN ?_|refine .not ?_|refine gD (cI ?_))|refine gW (wI ?_)|refine gN (nS ?_)|refine gI (gM (iE ?_))|(refine gE ?_;refine eLb ?_))<;>conv=>whnf
    refine⟨trivial,?_⟩;refine ah.atC 3 ?_ rfl rfl rfl rfl (by first|rfl|(repeat' (first|rfl|refine aJ (row_allI _ _ _) ?_|refine aJ (a8 _ _ _) ?_|refine bLtMp ?_|refine bw ?_|refine bLtCells rfl ?_)))
    conv=>whnf
    refine And.intro ?_ ?_<;>conv=>whnf
    all_goals repeat' (first|(refine gV ?_;first|refine vE ?_|refine vI ?_|(refine WkN.sl ?_ ?_;(focus (simp[AV.norm,AV.ax,hs,hsb];done))))|(refine gX ?_;first|refine xB ?_|(refine BxN.mk ?_ ?_;(focus (simp[AV.norm,AV.ax,hs,hsb];done))))|exact True.intro)<;>conv=>whnf
   |false=>
    cases cv with
    |true=>
     have hs:=hs.2.1 ⟨rfl,rfl⟩;have hsb:=hsb.2.1 ⟨rfl,rfl⟩
     conv=>whnf
     repeat' (first|(refine gF ?_;refine aa.to (hcov (by first|rfl|(repeat' (first|rfl|refine aJ (row_allI _ _ _) ?_|refine aJ (a8 _ _ _) ?_|refine bLtMp ?_|refine bw ?_|refine bLtCells rfl ?_))) rfl) ?_)|(refine gC ?_;first|refine cY ?_|refine cN ?_|refine .not ?_|refine gD (cI ?_))|refine gW (wI ?_)|refine gN (nS ?_)|refine gI (gM (iE ?_))|(refine gE ?_;refine eLb ?_)|refine gS (eSb ?_))<;>conv=>whnf
     refine⟨trivial,?_⟩;refine ah.atC 3 ?_ rfl rfl rfl rfl (by first|rfl|(repeat' (first|rfl|refine aJ (row_allI _ _ _) ?_|refine aJ (a8 _ _ _) ?_|refine bLtMp ?_|refine bw ?_|refine bLtCells rfl ?_)))
     conv=>whnf
     refine And.intro ?_ ?_<;>conv=>whnf
     all_goals repeat' (first|(refine gV ?_;first|refine vE ?_|refine vI ?_|(refine WkN.sl ?_ ?_;(focus (simp[AV.norm,AV.ax,hs,hsb];done))))|(refine gX ?_;first|refine xB ?_|(refine BxN.mk ?_ ?_;(focus (simp[AV.norm,AV.ax,hs,hsb];done))))|exact True.intro)<;>conv=>whnf
    |false=>
     have hs:=hs.2.2 ⟨rfl,rfl⟩;have hsb:=hsb.2.2 ⟨rfl,rfl⟩
     conv=>whnf
     repeat' (first|(refine gF ?_;refine aa.to (hcov (by first|rfl|(repeat' (first|rfl|refine aJ (row_allI _ _ _) ?_|refine aJ (a8 _ _ _) ?_|refine bLtMp ?_|refine bw ?_|refine bLtCells rfl ?_))) rfl) ?_)|(refine gC ?_;first|refine cN ?_|refine .not ?_|refine gD (cI ?_))|refine gW (wI ?_)|refine gN (nS ?_)|refine gI (gM (iE ?_))|(refine gE ?_;refine eLb ?_))<;>conv=>whnf
     refine⟨trivial,?_⟩;refine ah.atC 3 ?_ rfl rfl rfl rfl (by first|rfl|(repeat' (first|rfl|refine aJ (row_allI _ _ _) ?_|refine aJ (a8 _ _ _) ?_|refine bLtMp ?_|refine bw ?_|refine bLtCells rfl ?_)))
     conv=>whnf
     refine And.intro ?_ ?_<;>conv=>whnf
     all_goals repeat' (first|(refine gV ?_;first|refine vE ?_|refine vI ?_|(refine WkN.sl ?_ ?_;(focus (simp[AV.norm,AV.ax,hs,hsb];done))))|(refine gX ?_;first|refine xB ?_|(refine BxN.mk ?_ ?_;(focus (simp[AV.norm,AV.ax,hs,hsb];done))))|exact True.intro)<;>conv=>whnf
  conv=>whnf
  repeat' (first|(refine gF ?_;refine aa.to (E4 (λh hh=>by have:=(hr.2 h hh).2.1;omega) (by first|rfl|(repeat' (first|rfl|refine aJ (row_allI _ _ _) ?_|refine aJ (a8 _ _ _) ?_|refine bLtMp ?_|refine bw ?_|refine bLtCells rfl ?_))) rfl) ?_)|refine gC (gD (cJ ?_))|refine gW (wI ?_)|refine gL (.map ?_)|refine gN (nS ?_)|refine gI (gM (iE ?_)))<;>conv=>whnf
  refine⟨trivial,?_⟩;refine ah.at_ ?_ rfl
  conv=>whnf
  refine And.intro ?_ ?_<;>conv=>whnf
  all_goals repeat' (first|(refine gV ?_;first|refine vE ?_|refine vI ?_|(refine WkN.sl ?_ ?_;(focus (simp[AV.norm,AV.ax,hkv,hpn,hpt];done))))|(refine gX ?_;first|refine xB ?_|(refine BxN.mk ?_ ?_;(focus (simp[AV.norm,AV.ax,hkv,hpn,hpt];done))))|exact True.intro)<;>conv=>whnf
 .obtain ⟨k,hk⟩:∃k,order.length=k:=⟨_,rfl⟩;rw[hk]
  have hpt:(fH r order k).map A9++[AV.sl Cap.no ((eD (mW r order k) r.guard r.guard.length).map c6)]=(Cn r order).map A9:=by
   rw[Cn,hk];simp only[fH,zu,zP,Zf];rfl
  have hpl:=qq r order k
  conv=>whnf
  repeat' refine gL (.map ?_)<;>conv=>whnf
  refine aD.count (fb:=true) r.guard.length (λst_ j=>⟨(st_.nI [(10,.sl (.own 1) ((eD (mW r order k) r.guard j).map c6)),(29,.int .i64 j)]).env,[.cells [.str r.name,.sl .no (r.keep.map At.av),.sl .no (r.remove.map At.av),.sl .no (r.guard.map Gl.av),.sl .no (r.body.map Gl.av),.int .i64 r.vars],.mp (i7 (.bool true) (kvs r.bV (order.take k))),aS AV.bool 1 r.guard.length (bh r order k j)],0⟩) (λ_=>True) trivial ?_ (λj hj _=>?_) (λ_=>?_)
  .refine ah.at_ ?_ rfl
   conv=>whnf
   refine And.intro ?_ ?_<;>conv=>whnf
   all_goals repeat' (first|(refine gV ?_;first|refine vE ?_|refine vI ?_|((refine gK ?_;refine vD ?_ ?_);(focus (simp[AV.norm,AV.ax,eD,bh];done))))|(refine gX ?_;first|refine xB ?_|(refine BxN.mk ?_ ?_;(focus (simp[AV.norm,AV.ax,eD,bh];done))))|exact True.intro)<;>conv=>whnf
  .obtain ⟨g,hgj⟩:∃g,r.guard[j]? =some g:=⟨_,zA hj⟩;have hgg:=hg.2 g (zE hgj);have hl:=sC (mW r order k) r.guard j;have hplen:=uf r order k j;obtain⟨pv,cv,hat,hs,hsb,hcov⟩:=ug (order:=order) k hgj hgg;generalize bh r order k j=pj at*;generalize bh r order k (j+1)=pj' at*;generalize eD (mW r order k) r.guard (j+1)=ix' at*;generalize eD (mW r order k) r.guard j=ix at*
   cases pv with
   |true=>
    have hs:=hs.1 rfl;have hsb:=hsb.1 rfl;clear hcov
    conv=>whnf
    repeat' (first|(refine gC ?_;first|refine cY ?_|refine cN ?_|refine .not ?_|refine gD (cI ?_))|refine gW (wI ?_)|refine gN (nS ?_)|refine gI (gM (iE ?_))|(refine gE ?_;refine eLb ?_))<;>conv=>whnf
    refine⟨trivial,?_⟩;refine ah.atC 3 ?_ rfl rfl rfl rfl (by first|rfl|(repeat' (first|rfl|refine aJ (row_allI _ _ _) ?_|refine aJ (a8 _ _ _) ?_|refine bLtMp ?_|refine bw ?_|refine bLtCells rfl ?_)))
    conv=>whnf
    refine And.intro ?_ ?_<;>conv=>whnf
    all_goals repeat' (first|(refine gV ?_;first|refine vE ?_|refine vI ?_|(refine WkN.sl ?_ ?_;(focus (simp[AV.norm,AV.ax,hs,hsb];done))))|(refine gX ?_;first|refine xB ?_|(refine BxN.mk ?_ ?_;(focus (simp[AV.norm,AV.ax,hs,hsb];done))))|exact True.intro)<;>conv=>whnf
   |false=>
    cases cv with
    |true=>
     have hs:=hs.2.1 ⟨rfl,rfl⟩;have hsb:=hsb.2.1 ⟨rfl,rfl⟩
     conv=>whnf
     repeat' (first|(refine gF ?_;refine aa.to (hcov (by first|rfl|(repeat' (first|rfl|refine aJ (row_allI _ _ _) ?_|refine aJ (a8 _ _ _) ?_|refine bLtMp ?_|refine bw ?_|refine bLtCells rfl ?_))) rfl) ?_)|(refine gC ?_;first|refine cY ?_|refine cN ?_|refine .not ?_|refine gD (cI ?_))|refine gW (wI ?_)|refine gN (nS ?_)|refine gI (gM (iE ?_))|(refine gE ?_;refine eLb ?_)|refine gS (eSb ?_))<;>conv=>whnf
     refine⟨trivial,?_⟩;refine ah.atC 3 ?_ rfl rfl rfl rfl (by first|rfl|(repeat' (first|rfl|refine aJ (row_allI _ _ _) ?_|refine aJ (a8 _ _ _) ?_|refine bLtMp ?_|refine bw ?_|refine bLtCells rfl ?_)))
     conv=>whnf
     refine And.intro ?_ ?_<;>conv=>whnf
     all_goals repeat' (first|(refine gV ?_;first|refine vE ?_|refine vI ?_|(refine WkN.sl ?_ ?_;(focus (simp[AV.norm,AV.ax,hs,hsb];done))))|(refine gX ?_;first|refine xB ?_|(refine BxN.mk ?_ ?_;(focus (simp[AV.norm,AV.ax,hs,hsb];done))))|exact True.intro)<;>conv=>whnf
    |false=>
     have hs:=hs.2.2 ⟨rfl,rfl⟩;have hsb:=hsb.2.2 ⟨rfl,rfl⟩
     conv=>whnf
     repeat' (first|(refine gF ?_;refine aa.to (hcov (by first|rfl|(repeat' (first|rfl|refine aJ (row_allI _ _ _) ?_|refine aJ (a8 _ _ _) ?_|refine bLtMp ?_|refine bw ?_|refine bLtCells rfl ?_))) rfl) ?_)|(refine gC ?_;first|refine cN ?_|refine .not ?_|refine gD (cI ?_))|refine gW (wI ?_)|refine gN (nS ?_)|refine gI (gM (iE ?_))|(refine gE ?_;refine eLb ?_))<;>conv=>whnf
     refine⟨trivial,?_⟩;refine ah.atC 3 ?_ rfl rfl rfl rfl (by first|rfl|(repeat' (first|rfl|refine aJ (row_allI _ _ _) ?_|refine aJ (a8 _ _ _) ?_|refine bLtMp ?_|refine bw ?_|refine bLtCells rfl ?_)))
     conv=>whnf
     refine And.intro ?_ ?_<;>conv=>whnf
     all_goals repeat' (first|(refine gV ?_;first|refine vE ?_|refine vI ?_|(refine WkN.sl ?_ ?_;(focus (simp[AV.norm,AV.ax,hs,hsb];done))))|(refine gX ?_;first|refine xB ?_|(refine BxN.mk ?_ ?_;(focus (simp[AV.norm,AV.ax,hs,hsb];done))))|exact True.intro)<;>conv=>whnf
  conv=>whnf
  repeat' (first|(refine gC ?_;(refine gD ?_;first|refine cI ?_|refine cJ ?_))|refine gL (.map ?_)|refine gN (nS ?_)|refine ae.nrm ?_)<;>conv=>whnf
  exact O4 hpt
end Go.CK
set_option maxRecDepth 100000
namespace Go.CK
open Go.AM Go.Proofs
theorem Ab{r:Rl}{done:List Int}(hr:r.ok3)(hg:r.okG)(hd:done.length<=100):Fun Tryz.prog 16 [r.av,slA c6 done] (slA c6 (Gm r done)):=by
 have hgl:=hg.1;refine Fun.of (wo (by simp) ?_) rfl rfl
 conv=>whnf
 repeat' (first|(refine gF ?_;refine aa.fn (EK (x:=r) (by have:=hr.1;omega)) ?_)|refine gL (.map ?_))<;>conv=>whnf
 refine aD.count (fb:=true) done.length (λst_ j=>⟨(st_.nI [(17,.int .i64 j)]).env,[.cells [.str r.name,.sl .no (r.keep.map At.av),.sl .no (r.remove.map At.av),.sl .no (r.guard.map Gl.av),.sl .no (r.body.map Gl.av),.int .i64 r.vars],.mp (i7 (.bool true) (kvs r.bV (done.take j)))],0⟩) (λ_=>True) trivial ?_ (λj hj _=>?_) (λ_=>?_)
 .refine ah.at_ ?_ rfl
  conv=>whnf
  refine And.intro ?_ ?_<;>conv=>whnf
  all_goals repeat' (first|(refine gV ?_;first|refine vE ?_|refine vI ?_)|(refine gX ?_;first|refine xB ?_|(refine BxN.mk ?_ ?_;(focus (simp[AV.norm,AV.ax,i7,kvs];done))))|exact True.intro)<;>conv=>whnf
 .obtain ⟨x,hx⟩:∃x,done[j]? =some x:=⟨_,zA hj⟩
  have htk:done.take (j+1)=done.take j++[x]:=by
   rw[List.take_succ_eq_append_getElem hj,(zB.1 hx).2]
  have hkv:kvs r.bV (done.take (j+1))=kvs r.bV (done.take j)++kvs r.bV [x]:=by rw[htk,px]
  conv=>whnf
  repeat' (first|(refine gF ?_;refine aa.to (E4 (λh hh=>by have:=(hr.2 h hh).2.1;omega) (by first|rfl|(repeat' (first|rfl|refine aJ (row_allI _ _ _) ?_|refine aJ (a8 _ _ _) ?_|refine bLtMp ?_|refine bw ?_|refine bLtCells rfl ?_))) rfl) ?_)|refine gC (gD (cI ?_))|refine gW (wI ?_)|refine gI (gM (iE ?_)))<;>conv=>whnf
  refine⟨trivial,?_⟩;refine ah.at_ ?_ rfl
  conv=>whnf
  refine And.intro ?_ ?_<;>conv=>whnf
  all_goals repeat' (first|(refine gV ?_;first|refine vE ?_|refine vI ?_)|(refine gX ?_;first|refine xB ?_|(refine BxN.mk ?_ ?_;(focus (simp[AV.norm,AV.ax,hkv];done))))|exact True.intro)<;>conv=>whnf
 .rw [zz]
  conv=>whnf
  repeat' (first|refine gC (gD (cJ ?_))|refine gL (.map ?_))<;>conv=>whnf
  unfold Gm;refine aD.count (fb:=true) (r.guard.length) (λst_ j=>st_.nI [(9,.sl (.own 1) ((eD (bS (kvs r.bV done)) r.guard j).map c6)),(29,.int .i64 j)]) (λ_=>True) trivial ?_ (λj hj _=>?_) (λ_=>?_)
  .refine ah.at_ ?_ rfl
   conv=>whnf
   refine And.intro ?_ ?_<;>conv=>whnf
   all_goals repeat' (first|(refine gV ?_;first|refine vE ?_|refine vI ?_|((refine gK ?_;refine vD ?_ ?_);(focus (simp[AV.norm,AV.ax,eD];done))))|refine gX (xB ?_)|exact True.intro)<;>conv=>whnf
  .obtain ⟨g,hgj⟩:∃g,r.guard[j]? =some g:=⟨_,zA hj⟩;have hgg:=hg.2 g (zE hgj);have hl:=sC (bS (kvs r.bV done)) r.guard j;have hcov:=λ{bs:List Box} {b:Nat} h1 h2=>Bw (bs:=bs) (b:=b) (xs:=kvs r.bV done) hgg h1 h2
   cases hc:bS (kvs r.bV done) g with
   |true=>
    have hs:=EJ hgj hc;rw[hc] at hcov
    conv=>whnf
    repeat' (first|(refine gF ?_;refine aa.to (hcov (by first|rfl|(repeat' (first|rfl|refine aJ (row_allI _ _ _) ?_|refine aJ (a8 _ _ _) ?_|refine bLtMp ?_|refine bw ?_|refine bLtCells rfl ?_))) rfl) ?_)|(refine gC ?_;first|refine cY ?_|refine gD (cI ?_))|refine gW (wI ?_)|refine gN (nS ?_)|refine gI (gM (iE ?_)))<;>conv=>whnf
    refine⟨trivial,?_⟩;refine ah.atC 2 ?_ rfl rfl rfl rfl (by first|rfl|(repeat' (first|rfl|refine aJ (row_allI _ _ _) ?_|refine aJ (a8 _ _ _) ?_|refine bLtMp ?_|refine bw ?_|refine bLtCells rfl ?_)))
    conv=>whnf
    refine And.intro ?_ ?_<;>conv=>whnf
    all_goals repeat' (first|(refine gV ?_;first|refine vE ?_|refine vI ?_|(refine WkN.sl ?_ ?_;(focus (simp[AV.norm,AV.ax,hs];done))))|refine gX (xB ?_)|exact True.intro)<;>conv=>whnf
   |false=>
    have hs:=CM hgj hc;rw[hc] at hcov
    conv=>whnf
    repeat' (first|(refine gF ?_;refine aa.to (hcov (by first|rfl|(repeat' (first|rfl|refine aJ (row_allI _ _ _) ?_|refine aJ (a8 _ _ _) ?_|refine bLtMp ?_|refine bw ?_|refine bLtCells rfl ?_))) rfl) ?_)|(refine gC ?_;first|refine cN ?_|refine gD (cI ?_))|refine gW (wI ?_)|refine gI (gM (iE ?_)))<;>conv=>whnf
    refine⟨trivial,?_⟩;refine ah.atC 2 ?_ rfl rfl rfl rfl (by first|rfl|(repeat' (first|rfl|refine aJ (row_allI _ _ _) ?_|refine aJ (a8 _ _ _) ?_|refine bLtMp ?_|refine bw ?_|refine bLtCells rfl ?_)))
    conv=>whnf
    refine And.intro ?_ ?_<;>conv=>whnf
    all_goals repeat' (first|(refine gV ?_;first|refine vE ?_|refine vI ?_|(refine WkN.sl ?_ ?_;(focus (simp[AV.norm,AV.ax,hs];done))))|refine gX (xB ?_)|exact True.intro)<;>conv=>whnf
  .conv=>whnf
   repeat' (first|refine gC (gD (cJ ?_))|refine ae.nrm ?_)<;>conv=>whnf
theorem rI(l:List Gl):Fun Tryz.prog 12 [slA Gl.av l,slA Gl.av l] (.bool true):=by
 refine Fun.assume rfl λhg0=>?_;have hg:=(cE (hg0 (slA Gl.av l) (by simp))).1
 refine Fun.of (il (by simp) ?_) rfl rfl
 conv=>whnf
 repeat' (first|(refine gC ?_;first|refine .not ?_|refine gD (cI ?_))|refine gL (.map ?_))<;>conv=>whnf
 refine aD.count (fb:=true) (l.length) (λst_ j=>st_.nI [(5,.int .i64 j)]) (λ_=>True) trivial ?_ (λj hj _=>?_) (λ_=>?_)
 .exact aH
 .obtain ⟨x,hx⟩:∃x,l[j]? =some x:=⟨_,zA hj⟩;have hs:=tZ (a:=x) (b:=x);rw[Gl.Ax] at hs
  conv=>whnf
  repeat' (first|refine gG (aX.fn (hs) ?_)|(refine gC ?_;first|refine cY ?_|refine .not ?_|refine gD (cI ?_))|refine gW (wI ?_)|refine gL (.map ?_)|refine gI (gM (iE ?_)))<;>conv=>whnf
  refine⟨trivial,?_⟩;exact aH
 .conv=>whnf
  repeat' (first|(refine gC ?_;first|refine cN ?_|refine gD (cJ ?_))|refine gL (.map ?_)|refine ae.nrm ?_)<;>conv=>whnf
end Go.CK
set_option maxRecDepth 100000
namespace Go.CK
open Go.AM Go.Proofs
theorem I4{bs:List Box}{c:Nat}{g x:Gl}(hbb:ai bs.length bs=true)(hp:ab bs c=some [.int .i64 g.op,.str g.name,.sl .no (g.args.map Tm.av)]):AM.Sem Tryz.prog 31 [x.av,.ptr c 0] bs λr bs'=>r=.bool (x.same g)/\bs'=bs:=by
 refine ov (by simp) ?_
 conv=>whnf
 try dsimp only
 repeat' refine gB (.last ?_)<;>(conv=>whnf;try dsimp only)
 refine uW.of (cs:=[.int .i64 g.op,.str g.name,.sl .no (g.args.map Tm.av)]) (by rw[aT,if_neg (by have:=aC hp;omega)];exact hp) ?_
 conv=>whnf
 try dsimp only
 repeat' refine gF (aa.fn (nB x g) ?_)<;>(conv=>whnf;try dsimp only)
 refine ae.uR rfl (zG _) rfl hbb ?_;exact ae.slot ⟨rfl,rfl⟩
theorem GO{bs:List Box}{c:Nat}{g:Gl}{l:List Gl}(hl:l.length<=100000)(hbb:ai bs.length bs=true)(hp:ab bs c=some [.int .i64 g.op,.str g.name,.sl .no (g.args.map Tm.av)]):AM.Sem Tryz.prog 61 [slA Gl.av l,.fn (.func 31) [] [.ptr c 0]] bs λr bs'=>r=.int .i64 (xg (λx=>x.same g) l)/\bs'=bs:=by
 refine dx (by simp) ?_
 conv=>whnf
 repeat' refine gL (.map ?_)<;>conv=>whnf
 refine aD.count (fb:=false) l.length (λst_ j=>⟨[(0,slA Gl.av l),(1,.fn (.func 31) [] [.ptr c 0]),(7,.int .i64 l.length),(8,.int .i64 j)],bs,bs.length⟩) (λj=>∀i x,i<j->l[i]? =some x->x.same g=false) Cz ?_ (λj hj hij=>?_) (λhij=>?_)
 .refine ah.atS ?_ rfl rfl
  conv=>whnf
  repeat' (first|(refine gV ?_;first|refine vE ?_|refine vI ?_)|exact True.intro)<;>conv=>whnf
 .obtain ⟨y,hy⟩:∃y,l[j]? =some y:=⟨_,zA hj⟩
  conv=>whnf
  repeat' (first|refine gC (gD (cI ?_))|refine gI (gM (iE ?_))|refine gH (hB ?_))<;>conv=>whnf
  refine aa.raw (I4 (x:=y) hbb hp) ?_;rintro r bs' ⟨rfl,rfl⟩
  cases hc:y.same g with
  |true=>
   conv=>whnf
   repeat' refine gC (cY ?_)<;>conv=>whnf
   refine ae.slot ⟨?_,rfl⟩
   rw[Lu hij hy hc];rfl
  |false=>
   conv=>whnf
   repeat' (first|refine gC (cN ?_)|refine gW (wI ?_))<;>conv=>whnf
   refine⟨CA hij hy hc,?_⟩;refine ah.atS ?_ rfl rfl
   conv=>whnf
   repeat' (first|(refine gV ?_;first|refine vE ?_|refine vI ?_)|exact True.intro)<;>conv=>whnf
 .conv=>whnf
  repeat' refine gC (gD (cJ ?_))<;>conv=>whnf
  refine ae.slot ⟨?_,rfl⟩;rw[Lt hij];rfl
theorem Ag{bs:List Box}{c:Nat}{g:Gl}{l:List Gl}(hl:l.length<=100000)(hbb:ai bs.length bs=true)(hp:ab bs c=some [.int .i64 g.op,.str g.name,.sl .no (g.args.map Tm.av)]):AM.Sem Tryz.prog 30 [slA Gl.av l,.fn (.func 31) [] [.ptr c 0]] bs λr bs'=>r=.bool (l.any λx=>x.same g)/\bs'=bs:=by
 rw[<-Jw];refine cX (by simp) ?_
 conv=>whnf
 skip;refine aa.raw (GO hl hbb hp) ?_;rintro r bs' ⟨rfl,rfl⟩
 conv=>whnf
 skip;exact ae.slot ⟨rfl,rfl⟩
theorem DT{l:List Gl}{g:Gl}(hn:l.length<=100000):Fun Tryz.prog 34 [slA Gl.av l,g.av] (.bool (l.any λx=>x.same g)):=by
 refine Fun.of (iU (by simp) ?_) rfl rfl
 conv=>whnf
 skip;refine aD.count (fb:=true) (l.length) (λst_ j=>st_.nI [(5,.int .i64 j)]) (λj=>∀i x,i<j->l[i]? =some x->x.same g=false) ?_ ?_ (λj hj hij=>?_) (λhij=>?_)
 .exact Cz
 .exact aH
 .obtain ⟨y,hy⟩:∃y,l[j]? =some y:=⟨_,zA hj⟩;have hs:=tZ (a:=y) (b:=g)
  cases hc:y.same g with
  |true=>
   rw[hc] at hs
   conv=>whnf
   repeat' (first|refine gG (aX.fn (hs) ?_)|(refine gC ?_;first|refine cY ?_|refine gD (cI ?_))|refine gL (.map ?_)|refine gI (gM (iE ?_))|refine ae.nrm ?_)<;>conv=>whnf
   rw[LU hy hc]
  |false=>
   rw[hc] at hs
   conv=>whnf
   repeat' (first|refine gG (aX.fn (hs) ?_)|(refine gC ?_;first|refine cN ?_|refine gD (cI ?_))|refine gW (wI ?_)|refine gL (.map ?_)|refine gI (gM (iE ?_)))<;>conv=>whnf
   refine⟨CA hij hy hc,?_⟩;exact aH
 .conv=>whnf
  repeat' (first|refine gC (gD (cJ ?_))|refine gL (.map ?_)|refine ae.nrm ?_)<;>conv=>whnf
  rw[LR hij]
theorem DD{l:List Gl}(h:eQ [] l=none):lz l=([],2):=by unfold lz;rw[h]
theorem DE{l:List Gl}(h:eQ [] l=some []):lz l=([],1):=by unfold lz;rw[h]
theorem sU{l m:List Gl}(h:eQ [] l=some m)(hm:0<m.length):lz l=(m,0):=by
 unfold lz;rw[h]
 cases m with
 |nil=>simp at hm
 |cons x r=>rfl
theorem tY{l:List Gl}(hl:∀g∈l,Tm.aj g.args<=90000/\g.args.length<=4000000000)(hn:l.length<=100000):Fun Tryz.prog 10 [slA Gl.av l] (.tup [slA Gl.av (lz l).1,.int .i64 (lz l).2]):=by
 refine Fun.of (r6 (by simp) ?_) rfl rfl
 conv=>whnf
 repeat' refine gL (.map ?_)<;>conv=>whnf
 refine aD.by (fb:=true) (λs (q:Nat×List Gl)=>s.nI [(4,.sl (.own 3) (q.2.map Gl.av)),(9,.int .i64 q.1)]) (λq=>q.1<=l.length/\q.2.length<=q.1/\eQ q.2 (l.drop q.1)=eQ [] l) (λq=>l.length-q.1) (0,[]) ⟨zJ _,zG _,rfl⟩ ?_ ?_
 .refine ah.at_ ?_ rfl
  conv=>whnf
  refine And.intro ?_ ?_<;>conv=>whnf
  all_goals repeat' (first|(refine gV ?_;first|refine vE ?_|refine vI ?_|((refine gK ?_;refine vD ?_ ?_);(focus (simp[AV.norm,AV.ax,];done))))|exact True.intro)<;>conv=>whnf
 .rintro ⟨j,out⟩ ⟨hj,hlen,he⟩;dsimp only at hj hlen he|-
  by_cases hlt:j<l.length
  .obtain ⟨g,hx⟩:∃g,l[j]? =some g:=⟨_,zA hlt⟩;have hT:=Nq g (hl g (zE hx)).1 (hl g (zE hx)).2;rw[zH hlt,(zB.1 hx).2,eQ] at he;have hcn:=λ{bs:List Box} {c:Nat} h1 h2=>Ag (bs:=bs) (c:=c) (g:=g) (l:=out) (by omega) h1 h2
   rcases Hs g with h|h|h
   .rw [h] at hT he;rw[if_neg (by decide)] at he
    cases hs:out.any λx=>x.same g with
    |true=>
     rw[hs] at hcn he;rw[if_neg (by simp)] at he
     conv=>whnf
     repeat' (first|(refine gF ?_;first|refine aa.fn (hT) ?_|refine aa.to (hcn (by first|rfl|(repeat' (first|rfl|refine aJ (row_allI _ _ _) ?_|refine aJ (a8 _ _ _) ?_|refine bLtMp ?_|refine bw ?_|refine bLtCells rfl ?_))) rfl) ?_)|(refine gC ?_;first|refine cY ?_|refine .not ?_|(refine gD ?_;first|refine cI ?_|refine cJ ?_))|refine gW (wI ?_)|refine gI (gM (iE ?_)))<;>conv=>whnf
     refine⟨(j+1,out),⟨⟨hlt,by simp only;omega,he⟩,by simp only;omega⟩,?_⟩
     refine ah.atC 0 ?_ rfl rfl rfl rfl (by first|rfl|(repeat' (first|rfl|refine aJ (row_allI _ _ _) ?_|refine aJ (a8 _ _ _) ?_|refine bLtMp ?_|refine bw ?_|refine bLtCells rfl ?_)))
     conv=>whnf
     refine And.intro ?_ ?_<;>conv=>whnf
     all_goals repeat' (first|(refine gV ?_;first|refine vE ?_|refine vI ?_)|exact True.intro)<;>conv=>whnf
    |false=>
     rw[hs] at hcn he;rw[if_pos (by simp)] at he
     conv=>whnf
     repeat' (first|(refine gF ?_;first|refine aa.fn (hT) ?_|refine aa.to (hcn (by first|rfl|(repeat' (first|rfl|refine aJ (row_allI _ _ _) ?_|refine aJ (a8 _ _ _) ?_|refine bLtMp ?_|refine bw ?_|refine bLtCells rfl ?_))) rfl) ?_)|(refine gC ?_;first|refine cN ?_|refine .not ?_|(refine gD ?_;first|refine cI ?_|refine cJ ?_))|refine gW (wI ?_)|refine gN (nS ?_)|refine gI (gM (iE ?_)))<;>conv=>whnf
     refine⟨(j+1,out++[g]),⟨⟨hlt,by simp;omega,he⟩,by simp only;omega⟩,?_⟩
     refine ah.atC 0 ?_ rfl rfl rfl rfl (by first|rfl|(repeat' (first|rfl|refine aJ (row_allI _ _ _) ?_|refine aJ (a8 _ _ _) ?_|refine bLtMp ?_|refine bw ?_|refine bLtCells rfl ?_)))
     conv=>whnf
     refine And.intro ?_ ?_<;>conv=>whnf
     all_goals repeat' (first|(refine gV ?_;first|refine vE ?_|refine vI ?_|(refine WkN.sl ?_ ?_;(focus (simp[AV.norm,AV.ax,Gl.av];done))))|exact True.intro)<;>conv=>whnf
   .rw [h] at hT he;rw[if_neg (by decide),if_neg (by simp)] at he
    conv=>whnf
    repeat' (first|refine gF (aa.fn (hT) ?_)|(refine gC ?_;(refine gD ?_;first|refine cI ?_|refine cJ ?_))|refine gW (wI ?_)|refine gI (gM (iE ?_)))<;>conv=>whnf
    refine⟨(j+1,out),⟨⟨hlt,by simp only;omega,he⟩,by simp only;omega⟩,?_⟩
    refine ah.atC 0 ?_ rfl rfl rfl rfl (by first|rfl|(repeat' (first|rfl|refine aJ (row_allI _ _ _) ?_|refine aJ (a8 _ _ _) ?_|refine bLtMp ?_|refine bw ?_|refine bLtCells rfl ?_)))
    conv=>whnf
    refine And.intro ?_ ?_<;>conv=>whnf
    all_goals repeat' (first|(refine gV ?_;first|refine vE ?_|refine vI ?_)|exact True.intro)<;>conv=>whnf
   .rw [h] at hT he;rw[if_pos rfl] at he;rw[DD he.symm]
    conv=>whnf
    repeat' (first|refine gF (aa.fn (hT) ?_)|refine gC (gD (cI ?_))|refine gI (gM (iE ?_))|refine ae.nrm ?_)<;>conv=>whnf
    all_goals rfl
  .have hje:j=l.length:=by omega
   subst hje;rw[zj,eQ] at he
   by_cases h0:0<out.length
   .rw [sU he.symm h0]
    conv=>whnf
    repeat' (first|refine gC (gD (cJ ?_))|refine gL (.map ?_)|refine ae.nrm ?_)<;>conv=>whnf
    all_goals rfl
   .have:out=[]:=ZY.1 (by omega)
    subst this;rw[DE he.symm]
    conv=>whnf
    repeat' (first|(refine gC ?_;(refine gD ?_;first|refine cI ?_|refine cJ ?_))|refine gL (.map ?_)|refine ae.nrm ?_)<;>conv=>whnf
    all_goals rfl
theorem vM{l:List Gl}(hl:∀g∈l,Tm.aj g.args<=90000/\g.args.length<=4000000000)(hn:l.length<=100000):Fun Tryz.prog 11 [slA Gl.av l] (.tup [slA Gl.av (lz l).1,.int .i64 (lz l).2]):=by
 refine Fun.of (iV (by simp) ?_) rfl rfl
 conv=>whnf
 skip;refine aD.by (fb:=true) (λs (q:Nat×List Gl)=>s.nI [(4,.sl (.own 3) (q.2.map Gl.av)),(5,.int .i64 q.1)]) (λq=>q.1<=l.length/\q.2.length<=q.1/\eQ q.2 (l.drop q.1)=eQ [] l) (λq=>l.length-q.1) (0,[]) ⟨zJ _,zG _,rfl⟩ ?_ ?_
 .refine ah.at_ ?_ rfl
  conv=>whnf
  refine And.intro ?_ ?_<;>conv=>whnf
  all_goals repeat' (first|(refine gV ?_;first|refine vE ?_|refine vI ?_|((refine gK ?_;refine vD ?_ ?_);(focus (simp[AV.norm,AV.ax,];done))))|exact True.intro)<;>conv=>whnf
 .rintro ⟨j,out⟩ ⟨hj,hlen,he⟩;dsimp only at hj hlen he|-
  by_cases hlt:j<l.length
  .obtain ⟨g,hx⟩:∃g,l[j]? =some g:=⟨_,zA hlt⟩;have hT:=Gk g (hl g (zE hx)).1 (hl g (zE hx)).2;rw[zH hlt,(zB.1 hx).2,eQ] at he;have hcn:=DT (g:=g) (l:=out) (by omega)
   rcases Hs g with h|h|h
   .rw [h] at hT he;rw[if_neg (by decide)] at he
    cases hs:out.any λx=>x.same g with
    |true=>
     rw[hs] at hcn he;rw[if_neg (by simp)] at he
     conv=>whnf
     repeat' (first|(refine gF ?_;first|refine aa.fn (hT) ?_|refine aa.fn (hcn) ?_)|(refine gC ?_;first|refine cY ?_|refine .not ?_|(refine gD ?_;first|refine cI ?_|refine cJ ?_))|refine gW (wI ?_)|refine gL (.map ?_)|refine gI (gM (iE ?_)))<;>conv=>whnf
     refine⟨(j+1,out),⟨⟨hlt,by simp only;omega,he⟩,by simp only;omega⟩,?_⟩
     exact aH
    |false=>
     rw[hs] at hcn he;rw[if_pos (by simp)] at he
     conv=>whnf
     repeat' (first|(refine gF ?_;first|refine aa.fn (hT) ?_|refine aa.fn (hcn) ?_)|(refine gC ?_;first|refine cN ?_|refine .not ?_|(refine gD ?_;first|refine cI ?_|refine cJ ?_))|refine gW (wI ?_)|refine gL (.map ?_)|refine gN (nS ?_)|refine gI (gM (iE ?_)))<;>conv=>whnf
     refine⟨(j+1,out++[g]),⟨⟨hlt,by simp;omega,he⟩,by simp only;omega⟩,?_⟩
     refine ah.at_ ?_ rfl
     conv=>whnf
     refine And.intro ?_ ?_<;>conv=>whnf
     all_goals repeat' (first|(refine gV ?_;first|refine vE ?_|refine vI ?_|(refine WkN.sl ?_ ?_;(focus (simp[AV.norm,AV.ax,Gl.av];done))))|exact True.intro)<;>conv=>whnf
   .rw [h] at hT he;rw[if_neg (by decide),if_neg (by simp)] at he
    conv=>whnf
    repeat' (first|refine gF (aa.fn (hT) ?_)|(refine gC ?_;first|refine cN ?_|(refine gD ?_;first|refine cI ?_|refine cJ ?_))|refine gW (wI ?_)|refine gL (.map ?_)|refine gI (gM (iE ?_)))<;>conv=>whnf
    refine⟨(j+1,out),⟨⟨hlt,by simp only;omega,he⟩,by simp only;omega⟩,?_⟩
    exact aH
   .rw [h] at hT he;rw[if_pos rfl] at he;rw[DD he.symm]
    conv=>whnf
    repeat' (first|refine gF (aa.fn (hT) ?_)|refine gC (gD (cI ?_))|refine gL (.map ?_)|refine gI (gM (iE ?_))|refine ae.nrm ?_)<;>conv=>whnf
    all_goals rfl
  .have hje:j=l.length:=by omega
   subst hje;rw[zj,eQ] at he
   by_cases h0:0<out.length
   .rw [sU he.symm h0]
    conv=>whnf
    repeat' (first|refine gC (gD (cJ ?_))|refine gL (.map ?_)|refine ae.nrm ?_)<;>conv=>whnf
    all_goals rfl
   .have:out=[]:=ZY.1 (by omega)
    subst this;rw[DE he.symm]
    conv=>whnf
    repeat' (first|(refine gC ?_;(refine gD ?_;first|refine cI ?_|refine cJ ?_))|refine gL (.map ?_)|refine ae.nrm ?_)<;>conv=>whnf
    all_goals rfl
end Go.CK
set_option maxRecDepth 100000
namespace Go.CK
open Go.AM Go.Proofs
def AR(l:List Gl)(k:Int):Bool:=if 0<=k/\k<l.length then AS l k.toNat else false
theorem MJ{l:List Gl}{k:Int}(h:k<0\/(l.length:Int)<=k):AR l k=false:=by
 unfold AR;rw[if_neg (by omega)]
theorem MK{l:List Gl}{k:Nat}(h:k<l.length):AR l (k:Int)=AS l k:=by
 unfold AR;rw[if_pos (by omega)];rfl
theorem MG{l:List Gl}{j k:Nat}{x y:Gl}(hx:l[j]? =some x)(hy:l[k]? =some y):Eg l j k=(decide (j≠k)&&(CQ x y&&(decide (j<k)||!CQ y x))):=by
 unfold Eg;rw[hx,hy]
theorem Je{l:List Gl}{k:Nat}(h:∀j,j<l.length->Eg l j k=false):AS l k=true:=by
 unfold AS;rw[zb,List.any_eq_false];intro j hj;rw[h j (zd.1 hj)];exact Za
theorem Ei{l:List Gl}{j k:Nat}(hj:j<l.length)(h:Eg l j k=true):AS l k=false:=by
 unfold AS;rw[Bool.not_eq_false',List.any_eq_true];exact⟨j,zd.2 hj,h⟩
theorem Pp(x y:Gl)(_:Tm.aj x.args<=90000)(_:Tm.aj y.args<=90000)(h1:x.args.length<=4000000000)(h2:y.args.length<=4000000000):Fun Tryz.prog 44 [x.av,y.av] (.bool (CQ x y)):=Ho x y h1 h2
theorem Jd{l:List Gl}{k:Int}(hl:∀g∈l,Tm.aj g.args<=90000/\g.args.length<=4000000000)(hn:l.length<=100000):Fun Tryz.prog 21 [slA Gl.av l,.int .i64 k] (.bool (AR l k)):=by
 by_cases hk:0<=k/\k<l.length
 rotate_left
 .rw [MJ (by omega)]
  refine Fun.of (nG (by simp) ?_) rfl rfl
  conv=>whnf
  repeat' (first|(refine gC ?_;first|refine cY ?_|(refine gD ?_;first|refine cI ?_|refine cJ ?_)|refine al.lt (λhc=>?_) (λhc=>?_))|refine gL (.map ?_)|refine ae.nrm ?_)<;>conv=>whnf
  all_goals rfl
 obtain⟨n,rfl⟩:∃n:Nat,k=n:=⟨k.toNat,by omega⟩
 have hnl:n<l.length:=by omega
 obtain⟨y,hy⟩:∃y,l[n]? =some y:=⟨_,zA hnl⟩;rw[MK hnl];refine Fun.of (nG (by simp) ?_) rfl rfl
 conv=>whnf
 repeat' (first|refine gC (gD (cJ ?_))|refine gL (.map ?_))<;>conv=>whnf
 refine aD.count (fb:=true) (l.length) (λst_ j=>st_.nI [(17,.int .i64 j)]) (λj=>∀i,i<j->Eg l i n=false) ?_ ?_ (λj hj hij=>?_) (λhij=>?_)
 .intro i hi;omega
 .exact aH
 .obtain ⟨x,hx⟩:∃x,l[j]? =some x:=⟨_,zA hj⟩;have hn:=MG hx hy;have f1:=Pp x y (hl x (zE hx)).1 (hl y (zE hy)).1 (hl x (zE hx)).2 (hl y (zE hy)).2;have f2:=Pp y x (hl y (zE hy)).1 (hl x (zE hx)).1 (hl y (zE hy)).2 (hl x (zE hx)).2
  have key:Eg l j n=false->∀i,i<j+1->Eg l i n=false:=λh i hi=>by
   by_cases e:i=j
   .rw [e];exact h
   .exact hij i (by omega)
  by_cases hjn:j=n
  .have hk:=key (by rw[hn,decide_eq_false (λh=>h hjn),zw])
   conv=>whnf
   repeat' (first|(refine gC ?_;first|refine cN ?_|refine .not ?_|refine gD (cI ?_))|refine gW (wI ?_)|refine gI (gM (iE ?_)))<;>conv=>whnf
   refine⟨hk,?_⟩;refine ah.atC 0 ?_ rfl rfl rfl rfl (by first|rfl|(repeat' (first|rfl|refine aJ (row_allI _ _ _) ?_|refine aJ (a8 _ _ _) ?_|refine bLtMp ?_|refine bw ?_|refine bLtCells rfl ?_)))
   conv=>whnf
   refine And.intro ?_ ?_<;>conv=>whnf
   all_goals repeat' (first|(refine gV ?_;first|refine vE ?_|refine vI ?_)|exact True.intro)<;>conv=>whnf
  .rw [decide_eq_true (show j≠n from hjn),za] at hn
   cases h1:CQ x y with
   |false=>
    rw[h1] at f1 hn;have hk:=key (by rw[hn];rfl)
    conv=>whnf
    repeat' (first|refine gG (aX.fn (f1) ?_)|(refine gC ?_;first|refine cN ?_|refine .not ?_|(refine gD ?_;first|refine cI ?_|refine cJ ?_))|refine gW (wI ?_)|refine gI (gM (iE ?_)))<;>conv=>whnf
    refine⟨hk,?_⟩;refine ah.atC 0 ?_ rfl rfl rfl rfl (by first|rfl|(repeat' (first|rfl|refine aJ (row_allI _ _ _) ?_|refine aJ (a8 _ _ _) ?_|refine bLtMp ?_|refine bw ?_|refine bLtCells rfl ?_)))
    conv=>whnf
    refine And.intro ?_ ?_<;>conv=>whnf
    all_goals repeat' (first|(refine gV ?_;first|refine vE ?_|refine vI ?_)|exact True.intro)<;>conv=>whnf
   |true=>
    rw[h1] at f1 hn;rw[za] at hn
    by_cases hlt:j<n
    .rw [decide_eq_true hlt,Bool.true_or] at hn;rw[Ei hj hn]
     conv=>whnf
     repeat' (first|refine gG (aX.fn (f1) ?_)|(refine gC ?_;first|refine cY ?_|refine .not ?_|(refine gD ?_;first|refine cI ?_|refine cJ ?_))|refine gI (gM (iE ?_))|refine ae.nrm ?_)<;>conv=>whnf
     all_goals rfl
    .rw [decide_eq_false hlt,Bool.false_or] at hn
     cases h2:CQ y x with
     |true=>
      rw[h2] at f2 hn;have hk:=key (by rw[hn];rfl)
      conv=>whnf
      repeat' (first|(refine gG ?_;first|refine aX.fn (f1) ?_|refine aX.fn (f2) ?_)|(refine gC ?_;first|refine cY ?_|refine .not ?_|(refine gD ?_;first|refine cI ?_|refine cJ ?_))|refine gW (wI ?_)|refine gI (gM (iE ?_)))<;>conv=>whnf
      refine⟨hk,?_⟩;refine ah.atC 0 ?_ rfl rfl rfl rfl (by first|rfl|(repeat' (first|rfl|refine aJ (row_allI _ _ _) ?_|refine aJ (a8 _ _ _) ?_|refine bLtMp ?_|refine bw ?_|refine bLtCells rfl ?_)))
      conv=>whnf
      refine And.intro ?_ ?_<;>conv=>whnf
      all_goals repeat' (first|(refine gV ?_;first|refine vE ?_|refine vI ?_)|exact True.intro)<;>conv=>whnf
     |false=>
      rw[h2] at f2 hn;rw[Ei hj (by rw[hn];rfl)]
      conv=>whnf
      repeat' (first|(refine gG ?_;first|refine aX.fn (f1) ?_|refine aX.fn (f2) ?_)|(refine gC ?_;first|refine cY ?_|refine cN ?_|refine .not ?_|(refine gD ?_;first|refine cI ?_|refine cJ ?_))|refine gI (gM (iE ?_))|refine ae.nrm ?_)<;>conv=>whnf
      all_goals rfl
 .rw [Je hij]
  conv=>whnf
  repeat' (first|refine gC (gD (cJ ?_))|refine ae.nrm ?_)<;>conv=>whnf
end Go.CK
set_option maxRecDepth 100000
namespace Go.CK
open Go.AM Go.Proofs
theorem sj(op:Int)(x y:Tm):Fun Tryz.prog 36 [.int .i64 op,x.avw,y.avw] (g2 op x y).av:=by
 refine Fun.of (lY (by simp) ?_) rfl rfl
 conv=>whnf
 repeat' refine ae.nrm ?_<;>conv=>whnf
 all_goals (simp[g2,Gl.av,Tm.xL,Tm.avw])
def um:Gl:=g2 7 (bc 0) (bc 1)
def Ny:Gl:=⟨1,⟨⟨[]⟩⟩,[]⟩
def CS:Rl:=⟨⟨⟨[]⟩⟩,[⟨⟨⟨[112]⟩⟩,[bc 0]⟩,⟨⟨⟨[113]⟩⟩,[bc 1]⟩],[],[g2 7 (bc 0) (CJ 3),um],[],2⟩
def Lw:List Gl:=[Ny,g2 7 (CJ 1) (CJ 2),um,um]
theorem Pr:jr Ny=1:=by
 unfold jr;generalize uni _ _=u;cases u<;>kernel_rfl
theorem Pq:jr (g2 7 (CJ 1) (CJ 2))=1:=by
 unfold jr;generalize uni _ _=u;cases u<;>kernel_rfl
theorem NK:jr um=0:=by
 unfold jr;generalize uni _ _=u;cases u<;>kernel_rfl
theorem exmS:lz Lw=([um],0):=by
 refine sU ?_ (by simp)
 unfold Lw;rw[eQ,Pr,if_neg (by decide),if_neg (by simp),eQ,Pq,if_neg (by decide),if_neg (by simp),eQ,NK,if_neg (by decide),if_pos ⟨rfl,rfl⟩,eQ,NK,if_neg (by decide),if_neg (by simp[Gl.Ax]),eQ]
 rfl
theorem exmN:AR [um,g2 8 (bc 0) (bc 1)] 1=false:=by kernel_rfl
theorem Ps:Gm CS [0]=[0]:=by kernel_rfl
theorem Pt:∃x y z,Cn CS [1,0]=[x,y,z]:=⟨[],[],[0,1],by kernel_rfl⟩
theorem Ik:CS.ok3:=⟨by decide,λh hh=>by
 simp only[CS,Rl.bV,zy,zI,yh,or_false] at hh;rcases hh with rfl|rfl
 .exact ⟨by decide,by decide,λt ht=>by simp only[zp] at ht;subst ht;decide⟩
 .exact ⟨by decide,by decide,λt ht=>by simp only[zp] at ht;subst ht;decide⟩⟩
theorem Ij:CS.okG:=⟨by decide,λg hg=>by
 simp only[CS,zI,yh,or_false] at hg;rcases hg with rfl|rfl<;>decide⟩
set_option maxHeartbeats 4000000 in
theorem Jm:Fun Tryz.prog 13 [] (.bool true):=by
 have v0:=IK 0;have v1:=IK 1;have i1:=Dp 1;have i2:=Dp 2;have i3:=Dp 3;have k1:=sj 7 (bc 0) (bc 1);have k2:=sj 7 (CJ 1) (CJ 2);have k3:=sj 7 (bc 0) (CJ 3);have k4:=sj 8 (bc 0) (bc 1)
 have s1:=tY (l:=Lw) (λg hg=>by
  simp only[Lw,zI,yh,or_false] at hg;rcases hg with rfl|rfl|rfl|rfl<;>exact⟨by decide,by decide⟩) (by decide)
 rw[exmS] at s1;have s2:=rI [um];have s3:=DL (a:=[0]) (b:=[0]);have r1:=Ab (r:=CS) (done:=[0]) Ik Ij (by decide)
 rw[Ps] at r1;have p1:=KO (r:=CS) (order:=[1,0]) Ik Ij (by decide)
 obtain⟨x,y,z,hp⟩:=Pt;rw[hp] at p1
 have n1:=Jd (l:=[um,g2 8 (bc 0) (bc 1)]) (k:=1) (λg hg=>by
  simp only[zI,yh,or_false] at hg;rcases hg with rfl|rfl<;>exact⟨by decide,by decide⟩) (by decide)
 rw[exmN] at n1;simp only[Lw,CS,slA,zP,Zf,Rl.av] at s1 s2 s3 r1 p1 n1;refine Fun.of (lX (by simp) ?_) rfl rfl
 conv=>whnf
 repeat' (first|(refine gF ?_;first|refine aa.fn (v0) ?_|refine aa.fn (v1) ?_|refine aa.fn (k1) ?_)|(refine gG ?_;first|refine aX.fn (v0) ?_|refine aX.fn (v1) ?_|refine aX.fn (i1) ?_|refine aX.fn (i2) ?_|refine aX.fn (i3) ?_|refine aX.fn (k2) ?_|refine aX.fn (k3) ?_|refine aX.fn (k4) ?_|refine aX.fn (s1) ?_|refine aX.fn (s2) ?_|refine aX.fn (s3) ?_|refine aX.fn (r1) ?_|refine aX.fn (p1) ?_|refine aX.fn (n1) ?_)|(refine gC ?_;first|refine cY ?_|(refine gD ?_;first|refine cI ?_|refine cJ ?_|refine cId ?_)|refine al.dec (λhc=>?_) (λhc=>?_))|refine gL (.any ?_)|refine ae.nrm ?_)<;>conv=>whnf
 all_goals first|rfl|exact(hc rfl).elim
end Go.CK
set_option maxRecDepth 100000
namespace Go.CK
open Go.AM Go.Proofs
theorem w7:∀{l:List (List Tm×ByteArray)} {most:Int},0<=most->dn l most=false->(l.length:Int)<=most
 |[],_,h0,_=>by simpa using h0
 |a::l,most,h0,h=>by
  rw[dn,if_neg (by omega)] at h
  have h8:=vi a.2.size;rcases Int.lt_or_le (bQ a.1 (most-1-(a.2.size:Int).tdiv 8) 64) 0 with h1|h1
  .rw [qH _ h1] at h;cases h
  .have h2:=(tU h1).2.2;have:=w7 h1 h;rw[zX];omega
theorem Jy{l:List Gl}{most:Int}(h0:0<=most)(hm:most<=1000)(h:dn (l.map gl2) most=false):(∀g∈l,Tm.aj g.args<=90000/\g.args.length<=4000000000)/\l.length<=1000:=by
 refine⟨λg hg=>by have:=EM h g hg;omega,?_⟩
 have:=w7 h0 h;rw[zF] at this;omega
theorem Lh(l:List Gl):Fun Tryz.prog 3 [slA Gl.av l] (.bool true):=by
 have hgr:=Ad (l:=l) (most:=300) (by decide) (by decide)
 cases hg:dn (l.map gl2) 300 with
 |true=>
  rw[hg] at hgr;refine Fun.of (bZ (by simp) ?_) rfl rfl
  conv=>whnf
  repeat' (first|refine gF (aa.fn (hgr) ?_)|refine gC (cY ?_)|refine ae.nrm ?_)<;>conv=>whnf
 |false=>
  rw[hg] at hgr;obtain⟨hl,hn⟩:=Jy (by decide) (by decide) hg
  have s1:=tY hl (by omega)
  have s2:=vM hl (by omega)
  have s3:=rI (lz l).1;have lv:=Jm;generalize lz l=q at s1 s2 s3;obtain⟨m,x⟩:=q;dsimp only at s1 s2 s3;refine Fun.of (bZ (by simp) ?_) rfl rfl
  conv=>whnf
  repeat' (first|(refine gF ?_;first|refine aa.fn (hgr) ?_|refine aa.fn (s1) ?_|refine aa.fn (s2) ?_|refine aa.fn (s3) ?_|refine aa.fn (lv) ?_)|(refine gC ?_;first|refine cY ?_|refine cN ?_|refine gD (cI ?_))|refine ae.nrm ?_)<;>conv=>whnf
  all_goals rfl
end Go.CK
set_option maxRecDepth 100000
namespace Go.CK
open Go.AM Go.Proofs
end Go.CK
set_option maxRecDepth 100000
namespace Go.CK
open Go.AM Go.Proofs
end Go.CK
namespace Go.CK
open Go.AM Go.Proofs
theorem pU{l:List Gl}:Fun Tryz.prog 3 [slA Gl.av l] (.bool true):=Lh l
end Go.CK
namespace Go.CK
open Go.RowKit Go.AM
def uD(M:Hp):List AV->List Value->Prop
 |[],[]=>True
 |x::xs,v::vs=>FV M x v/\uD M xs vs
 |_,_=>False
theorem uD.len{M:Hp}:∀{xs:List AV} {vs:List Value},uD M xs vs->vs.length=xs.length
 |[],[],_=>rfl
 |_::xs,_::vs,h=>by simp[uD.len h.2]
 |[],_::_,h=>h.elim
 |_::_,[],h=>h.elim
theorem uD.get{M:Hp}:∀{xs:List AV} {vs:List Value},uD M xs vs->∀j (h:j<xs.length) v,vs[j]? =some v->FV M xs[j] v
 |[],[],_,j,h,_,_=>by cases h
 |_::xs,_::vs,h,0,_,v,hv=>by
  simp only[Zs,zN] at hv
  subst hv;exact h.1
 |_::xs,_::vs,h,j+1,hj,v,hv=>uD.get h.2 j (by simpa using hj) v (by simpa using hv)
 |[],_::_,h,_,_,_,_=>h.elim
 |_::_,[],h,_,_,_,_=>h.elim
theorem Fun.calls{P:Program}{f:FuncId}{vals:List AV}{b:Bool}(h:Fun P f vals (.bool b)){w:World}{args:List Value}(ha:uD (Hp.of w) vals args):
  Calls P f args.toArray w λe w'=>e=.returned (.bool b)/\Ext w w':=by
 refine(((h []).mono (Q':=λr _=>r=.bool b) λr bs hq=>hq.1).calls (Hp.le_refl _) ha.len ha.get).mono ?_;rintro e w' ⟨v,r,bs',M',σ,n,rfl,rfl,hv,hx,_⟩;exact⟨by rw[hv.cZ],hx⟩
end Go.CK
