/-
  Texts of this aX joined (wip/gen/bundle.py),those declarations only that are needed:GdH GdI GdJ GdK. By an AI agent.
-/
import Derived.Test.YtpihbplamelcnaaGreatBbk
set_option linter.unusedSimpArgs false
set_option linter.unusedVariables false
set_option maxRecDepth 100000
namespace Go.CK
open Go.AM Go.Proofs
def dx{α:Type}(p:α->Bool)(l:List α):Nat->List Int
 |0=>[]
 |j+1=>dx p l j++match l[j]? with
  |none=>[]
  |some x=>if p x then [(j:Int)] else []
theorem tt{α:Type}{p:α->Bool}{l:List α}{j:Nat}{t:α}(h:l[j]? =some t)(hp:p t=true):dx p l (j+1)=dx p l j++[(j:Int)]:=by simp[dx,h,hp]
theorem qh{α:Type}{p:α->Bool}{l:List α}{j:Nat}{t:α}(h:l[j]? =some t)(hp:p t=false):dx p l (j+1)=dx p l j:=by simp[dx,h,hp]
theorem iD{α:Type}(p:α->Bool)(l:List α):∀j,(dx p l j).length<=j
 |0=>zG _
 |j+1=>by
  have:=iD p l j;simp only[dx,zC];split
  .simp;omega
  .split<;>simp<;>omega
def eW(r:Rl)(done:List Int):List Int:=dx (bf (kvs r.aR done)) r.guard r.guard.length
def Rl.okG(r:Rl):Prop:=r.guard.length<=100000/\∀g∈r.guard,(Tm.vss g.args).length<=100000
def fp(r:Rl)(order:List Int):Nat->Gl->Bool
 |0=>bf (kvs r.aR [])
 |k+1=>λg=>bf (kvs r.aR (order.take (k+1))) g&&!bf (kvs r.aR (order.take k)) g
def x9(r:Rl)(order:List Int)(k:Nat):List Int:=dx (fp r order k) r.guard r.guard.length
def cX(r:Rl)(order:List Int):Nat->List (List Int)
 |0=>[]
 |k+1=>cX r order k++[x9 r order k]
def iV(r:Rl)(order:List Int):List (List Int):=cX r order (order.length+1)
theorem dQ(r:Rl)(order:List Int):∀k,(cX r order k).length=k
 |0=>rfl
 |k+1=>by simp[cX,dQ r order k]
def kS(l:List Int):AV:=slA bM l
theorem vi{r:Rl}{done:List Int}(hr:r.ok3)(hg:r.okG)(hd:done.length<=100):Fun Tryz.prog 17 [r.av,slA bM done] (slA bM (eW r done)):=by
 refine Fun.of (lH (by simp) ?_) rfl rfl
 conv=>whnf
 skip;refine ax.count (fb:=true) (r.guard.length) (λst_ j=>st_.dO [(5,.sl (.own 1) ((dx (bf (kvs r.aR done)) r.guard j).map bM)),(6,.int .i64 j)]) (λ_=>True) trivial ?_ (λj hj _=>?_) (λ_=>?_)
 .refine ah.at_ ?_ rfl
  conv=>whnf
  refine And.intro ?_ ?_<;>conv=>whnf
  all_goals repeat' (first|(refine gV ?_;first|refine vE ?_|refine vI ?_|((refine gK ?_;refine vD ?_ ?_);(focus (simp[AV.norm,AV.ao,dx];done))))|refine gX (xB ?_)|exact True.intro)<;>conv=>whnf
 .obtain ⟨g,hgj⟩:∃g,r.guard[j]? =some g:=⟨_,zA hj⟩;have hgg:=hg.2 g (zE hgj);have hl:=iD (bf (kvs r.aR done)) r.guard j;have hgl:=hg.1
  cases hc:bf (kvs r.aR done) g with
  |true=>
   have hs:=tt hgj hc
   conv=>whnf
   repeat' (first|(refine gG ?_;refine al.fn (xt (g:=g) hr hd hgg) ?_)|(refine gC ?_;first|refine gD (cI ?_)|refine cYa ?_)|refine gW (wI ?_)|refine gL (.map ?_)|refine gN (nS ?_)|refine gI (gM (iE ?_)))<;>conv=>whnf
   refine⟨trivial,?_⟩;refine ah.at_ ?_ rfl
   conv=>whnf
   refine And.intro ?_ ?_<;>conv=>whnf
   all_goals repeat' (first|(refine gV ?_;first|refine vE ?_|refine vI ?_|(refine WkN.sl ?_ ?_;(focus (simp[AV.norm,AV.ao,hs];done))))|refine gX (xB ?_)|exact True.intro)<;>conv=>whnf
  |false=>
   have hs:=qh hgj hc
   conv=>whnf
   repeat' (first|(refine gG ?_;refine al.fn (xt (g:=g) hr hd hgg) ?_)|(refine gC ?_;first|refine gD (cI ?_)|refine cNa ?_)|refine gW (wI ?_)|refine gL (.map ?_)|refine gI (gM (iE ?_)))<;>conv=>whnf
   refine⟨trivial,?_⟩;refine ah.at_ ?_ rfl
   conv=>whnf
   refine And.intro ?_ ?_<;>conv=>whnf
   all_goals repeat' (first|(refine gV ?_;first|refine vE ?_|refine vI ?_|(refine WkN.sl ?_ ?_;(focus (simp[AV.norm,AV.ao,hs];done))))|refine gX (xB ?_)|exact True.intro)<;>conv=>whnf
 .conv=>whnf
  repeat' (first|refine gC (gD (cJ ?_))|refine gL (.map ?_)|refine ae.nrm ?_)<;>conv=>whnf
  rfl
theorem Dt{r:Rl}(hr:r.ok3)(hg:r.okG):Fun Tryz.prog 17 [r.av,.sl .no []] (slA bM (x9 r [] 0)):=vi (done:=[]) hr hg (by simp)
theorem EN{l:List Int}{n:Int}{m:Nat}(h:n.toNat=m):AV.sl .no (List.drop (Int.toNat 0) (List.take n.toNat (l.map bM)))=slA bM (l.take m):=by
 subst h;simp only[Int.toNat_zero,yZ,slA,List.map_take]
theorem jX{r:Rl}{order:List Int}{g:Gl}{n:Int}(m:Nat)(hr:r.ok3)(hd:order.length<=100)(hg:(Tm.vss g.args).length<=100000)(hn:n.toNat=m):Fun Tryz.prog 43 [r.av,.sl .no (List.drop (Int.toNat 0) (List.take n.toNat (order.map bM))),g.av] (.bool (bf (kvs r.aR (order.take m)) g)):=by
 rw[EN hn];exact xt hr (by rw[zn];omega) hg
theorem E6{r:Rl}{order:List Int}(hr:r.ok3)(hg:r.okG)(hd:order.length<=100):Fun Tryz.prog 20 [r.av,slA bM order] (slA kS (iV r order)):=by
 refine Fun.of (lI (by simp) ?_) rfl rfl
 conv=>whnf
 repeat' refine gF (aa.fn (Dt hr hg) ?_)<;>conv=>whnf
 refine ax.count (fb:=true) (order.length) (λst_ k=>st_.dO [(5,.sl (.own 1) ((cX r order (k+1)).map kS)),(6,.int .i64 (k+1))]) (λ_=>True) trivial ?_ (λk hk _=>?_) (λ_=>?_)
 .have e0:[AV.sl Cap.no ((x9 r [] 0).map bM)]=(cX r order (0+1)).map kS:=rfl;refine ah.at_ ?_ rfl
  conv=>whnf
  refine And.intro ?_ ?_<;>conv=>whnf
  all_goals repeat' (first|(refine gV ?_;first|refine vE ?_|refine vI ?_|((refine gK ?_;refine vD ?_ ?_);(focus (simp[AV.norm,AV.ao,e0];done))))|refine gX (xB ?_)|exact True.intro)<;>conv=>whnf
 .have hpl:=dQ r order (k+1);have hgl:=hg.1
  conv=>whnf
  repeat' (first|refine gC (gD (cI ?_))|refine gL (.map ?_))<;>conv=>whnf
  refine ax.count (fb:=true) (r.guard.length) (λst_ j=>st_.dO [(7,.sl (.own 1) ((dx (fp r order (k+1)) r.guard j).map bM)),(8,.int .i64 j)]) (λ_=>True) trivial ?_ (λj hj _=>?_) (λ_=>?_)
  .refine ah.at_ ?_ rfl
   conv=>whnf
   refine And.intro ?_ ?_<;>conv=>whnf
   all_goals repeat' (first|(refine gV ?_;first|refine vE ?_|refine vI ?_|((refine gK ?_;refine vD ?_ ?_);(focus (simp[AV.norm,AV.ao,dx];done))))|refine gX (xB ?_)|exact True.intro)<;>conv=>whnf
  .obtain ⟨g,hgj⟩:∃g,r.guard[j]? =some g:=⟨_,zA hj⟩;have hgg:=hg.2 g (zE hgj);have hl:=iD (fp r order (k+1)) r.guard j
   cases h1:bf (kvs r.aR (order.take (k+1))) g with
   |true=>
    cases h2:bf (kvs r.aR (order.take k)) g with
    |true=>
     have hs:=qh hgj (show fp r order (k+1) g=false by simp only[fp,h1,h2];rfl)
     conv=>whnf
     repeat' (first|(refine gG ?_;first|refine al.fn (jX (g:=g) (k+1) hr hd hgg (by omega)) ?_|refine al.fn (jX (g:=g) k hr hd hgg (by omega)) ?_)|(refine gC ?_;first|refine .not ?_|refine gD (cI ?_)|refine cYa ?_)|refine gW (wI ?_)|refine gL (.map ?_)|refine gN (nS ?_)|refine gI (gM (iE ?_)))<;>conv=>whnf
     refine⟨trivial,?_⟩;refine ah.at_ ?_ rfl
     conv=>whnf
     refine And.intro ?_ ?_<;>conv=>whnf
     all_goals repeat' (first|(refine gV ?_;first|refine vE ?_|refine vI ?_|(refine WkN.sl ?_ ?_;(focus (simp[AV.norm,AV.ao,hs];done))))|refine gX (xB ?_)|exact True.intro)<;>conv=>whnf
    |false=>
     have hs:=tt hgj (show fp r order (k+1) g=true by simp only[fp,h1,h2];rfl)
     conv=>whnf
     repeat' (first|(refine gG ?_;first|refine al.fn (jX (g:=g) (k+1) hr hd hgg (by omega)) ?_|refine al.fn (jX (g:=g) k hr hd hgg (by omega)) ?_)|(refine gC ?_;first|refine .not ?_|refine gD (cI ?_)|refine cYa ?_|refine cNa ?_)|refine gW (wI ?_)|refine gL (.map ?_)|refine gN (nS ?_)|refine gI (gM (iE ?_)))<;>conv=>whnf
     refine⟨trivial,?_⟩;refine ah.at_ ?_ rfl
     conv=>whnf
     refine And.intro ?_ ?_<;>conv=>whnf
     all_goals repeat' (first|(refine gV ?_;first|refine vE ?_|refine vI ?_|(refine WkN.sl ?_ ?_;(focus (simp[AV.norm,AV.ao,hs];done))))|refine gX (xB ?_)|exact True.intro)<;>conv=>whnf
   |false=>
    have hs:=qh hgj (show fp r order (k+1) g=false by simp only[fp,h1];rfl)
    conv=>whnf
    repeat' (first|(refine gG ?_;refine al.fn (jX (g:=g) (k+1) hr hd hgg (by omega)) ?_)|(refine gC ?_;first|refine cN ?_|refine gD (cI ?_)|refine cNa ?_)|refine gW (wI ?_)|refine gL (.map ?_)|refine gN (nS ?_)|refine gI (gM (iE ?_)))<;>conv=>whnf
    refine⟨trivial,?_⟩;refine ah.at_ ?_ rfl
    conv=>whnf
    refine And.intro ?_ ?_<;>conv=>whnf
    all_goals repeat' (first|(refine gV ?_;first|refine vE ?_|refine vI ?_|(refine WkN.sl ?_ ?_;(focus (simp[AV.norm,AV.ao,hs];done))))|refine gX (xB ?_)|exact True.intro)<;>conv=>whnf
  .conv=>whnf
   repeat' (first|refine gC (gD (cJ ?_))|refine gW (wI ?_)|refine gL (.map ?_)|refine gN (nS ?_))<;>conv=>whnf
   refine⟨trivial,?_⟩
   have e1:(cX r order (k+1)).map kS++[AV.sl Cap.no ((dx (fp r order (k+1)) r.guard r.guard.length).map bM)]=(cX r order (k+1+1)).map kS:=by
    simp only[cX,zu,zP,Zf];rfl
   refine ah.at_ ?_ rfl
   conv=>whnf
   refine And.intro ?_ ?_<;>conv=>whnf
   all_goals repeat' (first|(refine gV ?_;first|refine vE ?_|refine vI ?_|(refine WkN.sl ?_ ?_;(focus (simp[AV.norm,AV.ao,e1];done))))|refine gX (xB ?_)|exact True.intro)<;>conv=>whnf
 .conv=>whnf
  repeat' (first|refine gC (gD (cJ ?_))|refine gL (.map ?_)|refine ae.nrm ?_)<;>conv=>whnf
  rfl
end Go.CK
namespace Go.CK
open Go.AM Go.Proofs
theorem D0{hs:List At}{done:List Int}{i:Nat}{x:Int}(h:x∈kvs hs (done.take i)):x∈kvs hs done:=by
 have:=qc hs (done.take i) (done.drop i);rw[List.take_append_drop] at this;rw[this];exact ZB _ h
theorem P3{o:Cap}{l m:List AV}(h:l=m):AV.sl o l=AV.sl o m:=by rw[h]
def ef(r:Rl)(order:List Int):Nat->List Bool
 |0=>List.replicate r.guard.length false
 |k+1=>r.guard.map (bf (kvs r.aR (order.take k)))
def bw(r:Rl)(order:List Int)(k i:Nat):List Bool:=(ef r order (k+1)).take i++(ef r order k).drop i
theorem dh(r:Rl)(order:List Int):∀k,(ef r order k).length=r.guard.length
 |0=>by simp[ef]
 |k+1=>by simp[ef]
theorem JM{α:Type}{A B:List α}{j:Nat}{a:α}(h:A[j]? =some a)(hl:A.length=B.length):A.take (j+1)++B.drop (j+1)=(A.take j++B.drop j).set j a:=by
 obtain⟨hj,rfl⟩:=zB.1 h;rw[ya _ _ (by rw[zn];omega),zn,yR (by omega),yW,zH (show j<B.length by omega),List.set_cons_zero,List.take_succ_eq_append_getElem hj,zg]
 rfl
theorem Nz{α:Type}{A B:List α}{j:Nat}{b:α}(h:B[j]? =some b)(hl:A.length=B.length):(A.take j++B.drop j)[j]? =some b:=by
 have hj:j<B.length:=(zB.1 h).1;rw[zZ (by rw[zn];omega),zn,yR (by omega),yW,List.getElem?_drop,Zk,h]
def sP(r:Rl)(order:List Int):Nat->Gl->Bool
 |0,_=>false
 |k+1,g=>bf (kvs r.aR (order.take k)) g
theorem uw(r:Rl)(order:List Int)(k:Nat)(g:Gl):fp r order k g=(bf (kvs r.aR (order.take k)) g&&!sP r order k g):=by
 cases k with
 |zero=>simp[fp,sP]
 |succ k=>rfl
theorem xJ{r:Rl}{order:List Int}{j:Nat}{g:Gl}(h:r.guard[j]? =some g):∀k,(ef r order k)[j]? =some (sP r order k g)
 |0=>by
  have:=(zB.1 h).1
  simp[ef,sP,this]
 |k+1=>by simp[ef,sP,h]
theorem xK{r:Rl}{order:List Int}{j:Nat}{g:Gl}(k:Nat)(h:r.guard[j]? =some g):(bw r order k j)[j]? =some (sP r order k g):=
 Nz (xJ h k) (by rw[dh,dh])
theorem sQ{r:Rl}{order:List Int}{j:Nat}{g:Gl}(k:Nat)(h:r.guard[j]? =some g):bw r order k (j+1)=(bw r order k j).set j (bf (kvs r.aR (order.take k)) g):=
 JM (xJ h (k+1)) (by rw[dh,dh])
theorem F9{xs ys:List Int}{g:Gl}(h:∀x∈xs,x∈ys)(hc:bf xs g=true):bf ys g=true:=by
 rw[bf,zS] at hc|-;exact λx hx=>decide_eq_true (h x (of_decide_eq_true (hc x hx)))
theorem o5{r:Rl}{order:List Int}{g:Gl}:∀{k:Nat},sP r order k g=true->bf (kvs r.aR (order.take k)) g=true
 |0,h=>by cases h
 |k+1,h=>F9 (λx hx=>by
  have:=D0 (hs:=r.aR) (done:=order.take (k+1)) (i:=k) (x:=x);rw[List.take_take,yR (Nat.le_succ k)] at this;exact this hx) h
theorem vk(r:Rl)(order:List Int)(k j:Nat):(bw r order k j).length=r.guard.length:=by
 simp only[bw,zC,zn,Zh,dh];omega
theorem sR{r:Rl}{order:List Int}{j:Nat}{g:Gl}(k:Nat)(h:r.guard[j]? =some g)(e:bf (kvs r.aR (order.take k)) g=sP r order k g):bw r order k (j+1)=bw r order k j:=by
 rw[sQ k h,e,w8 (xK k h)]
theorem vl{r:Rl}{order:List Int}{j:Nat}{g:Gl}(k:Nat)(h:r.guard[j]? =some g)(hgg:(Tm.vss g.args).length<=100000):∃pv cv:Bool,(bw r order k j)[j]? =some pv/\
  ((pv=true->dx (fp r order k) r.guard (j+1)=dx (fp r order k) r.guard j)/\(pv=false/\cv=true->dx (fp r order k) r.guard (j+1)=dx (fp r order k) r.guard j++[(j:Int)])/\(pv=false/\cv=false->dx (fp r order k) r.guard (j+1)=dx (fp r order k) r.guard j))/\
  ((pv=true->bw r order k (j+1)=bw r order k j)/\(pv=false/\cv=true->bw r order k (j+1)=(bw r order k j).set j true)/\(pv=false/\cv=false->bw r order k (j+1)=bw r order k j))/\
  ∀{bs:List Box} {b:Nat},ai bs.length bs=true->bs[b]? =some (.mp (jA (.bool true) (kvs r.aR (order.take k))))->AM.Sem Tryz.prog 42 [.mpt b,g.av] bs λr bs'=>r=.bool cv/\bs'=bs:=by
 refine⟨sP r order k g,bf (kvs r.aR (order.take k)) g,xK k h,⟨λh1=>qh h ?_,λ⟨h1,h2⟩=>tt h ?_,λ⟨h1,h2⟩=>qh h ?_⟩,⟨λh1=>sR k h ?_,λ⟨h1,h2⟩=>?_,λ⟨h1,h2⟩=>sR k h ?_⟩,λhb h1=>CU hgg hb h1⟩
 .rw [uw,h1,o5 h1];rfl
 .rw [uw,h1,h2];rfl
 .rw [uw,h1,h2];rfl
 .rw [h1,o5 h1]
 .rw [sQ k h,h2]
 .rw [h1,h2]
set_option maxHeartbeats 4000000 in
theorem xL{r:Rl}{order:List Int}(hr:r.ok3)(hg:r.okG)(hd:order.length<=100):Fun Tryz.prog 19 [r.av,slA bM order] (slA kS (iV r order)):=by
 have hgl:=hg.1;obtain⟨rc,hrc⟩:∃rc,rc=[AV.str r.name,.sl .no (r.keep.map At.av),.sl .no (r.remove.map At.av),.sl .no (r.guard.map Gl.av),.sl .no (r.body.map Gl.av),.int .i64 r.vars]:=⟨_,rfl⟩;refine Fun.of (xV (by simp) ?_) rfl rfl
 conv=>whnf
 repeat' (first|(refine gF ?_;refine aa.fn (FQ (x:=r) (by have:=hr.1;omega)) ?_)|refine gW (wI ?_)|refine gL (.map ?_)|refine gN (nS ?_)|refine gMk (mBb ?_))<;>conv=>whnf
 refine ax.count (fb:=true) order.length (λst_ k=>⟨[(1,.sl .no (order.map bM)),(2,.ptr 0 0),(5,.sl .no (r.aR.map At.av)),(6,.mpt 1),(7,.bsl 2 r.guard.length r.guard.length),(8,.sl (.own 1) ((cX r order k).map kS)),(9,.int .i64 k)],[.cells [.str r.name,.sl .no (r.keep.map At.av),.sl .no (r.remove.map At.av),.sl .no (r.guard.map Gl.av),.sl .no (r.body.map Gl.av),.int .i64 r.vars],.mp (jA (.bool true) (kvs r.aR (order.take k))),aZ AV.bool 1 r.guard.length (ef r order k)],0⟩) (λ_=>True) trivial ?_ (λk hk _=>?_) (λ_=>?_)
 .refine ah.at_ ?_ rfl
  conv=>whnf
  refine And.intro ?_ ?_<;>conv=>whnf
  all_goals repeat' (first|(refine gV ?_;first|refine vE ?_|refine vI ?_|(refine WkN.sl ?_ ?_;(focus (simp[AV.norm,AV.ao,cX,jA,kvs,ef];done)))|(refine WkN.norm ?_ ?_;(focus (simp[AV.norm,AV.ao,cX,jA,kvs,ef];done))))|(refine gX ?_;first|refine xB ?_|(refine BxN.mk ?_ ?_;(focus (simp[AV.norm,AV.ao,cX,jA,kvs,ef];done))))|exact True.intro)<;>conv=>whnf
 .obtain ⟨x,hx⟩:∃x,order[k]? =some x:=⟨_,zA hk⟩
  have htk:order.take (k+1)=order.take k++[x]:=by
   rw[List.take_succ_eq_append_getElem hk,(zB.1 hx).2]
  have hkv:kvs r.aR (order.take (k+1))=kvs r.aR (order.take k)++kvs r.aR [x]:=by rw[htk,qc]
  have hpn:bw r order k r.guard.length=ef r order (k+1):=by
   rw[bw,<-dh r order (k+1),zz,dh,<-dh r order k,zj,zy]
  have hpt:(cX r order k).map kS++[AV.sl Cap.no ((dx (fp r order k) r.guard r.guard.length).map bM)]=(cX r order (k+1)).map kS:=by
   simp only[cX,zu,zP,Zf];rfl
  have hpl:=dQ r order k
  conv=>whnf
  repeat' refine gL (.map ?_)<;>conv=>whnf
  refine ax.count (fb:=true) r.guard.length (λst_ j=>⟨(st_.dO [(10,.sl (.own 1) ((dx (fp r order k) r.guard j).map bM)),(29,.int .i64 j)]).env,[.cells [.str r.name,.sl .no (r.keep.map At.av),.sl .no (r.remove.map At.av),.sl .no (r.guard.map Gl.av),.sl .no (r.body.map Gl.av),.int .i64 r.vars],.mp (jA (.bool true) (kvs r.aR (order.take k))),aZ AV.bool 1 r.guard.length (bw r order k j)],0⟩) (λ_=>True) trivial ?_ (λj hj _=>?_) (λ_=>?_)
  .refine ah.at_ ?_ rfl
   conv=>whnf
   refine And.intro ?_ ?_<;>conv=>whnf
   all_goals repeat' (first|(refine gV ?_;first|refine vE ?_|refine vI ?_|((refine gK ?_;refine vD ?_ ?_);(focus (simp[AV.norm,AV.ao,dx,bw];done))))|(refine gX ?_;first|refine xB ?_|(refine BxN.mk ?_ ?_;(focus (simp[AV.norm,AV.ao,dx,bw];done))))|exact True.intro)<;>conv=>whnf
  .obtain ⟨g,hgj⟩:∃g,r.guard[j]? =some g:=⟨_,zA hj⟩;have hgg:=hg.2 g (zE hgj);have hl:=iD (fp r order k) r.guard j;have hplen:=vk r order k j;obtain⟨pv,cv,hat,hs,hsb,hcov⟩:=vl (order:=order) k hgj hgg;generalize bw r order k j=pj at*;generalize bw r order k (j+1)=pj' at*;generalize dx (fp r order k) r.guard (j+1)=ix' at*;generalize dx (fp r order k) r.guard j=ix at*
   cases pv with
   |true=>
    have hs:=hs.1 rfl;have hsb:=hsb.1 rfl;clear hcov
    conv=>whnf
    repeat' (first|(refine gC ?_;first|refine cY ?_|refine cN ?_|refine .not ?_|refine gD (cI ?_))|refine gW (wI ?_)|refine gN (nS ?_)|refine gI (gM (iE ?_))|(refine gE ?_;refine eLb ?_))<;>conv=>whnf
    refine⟨trivial,?_⟩;refine ah.atC 3 ?_ rfl rfl rfl rfl (by first|rfl|(repeat' (first|rfl|refine ay (row_allI _ _ _) ?_|refine ay (aI _ _ _) ?_|refine bLtMp ?_|refine aY ?_|refine bLtCells rfl ?_)))
    conv=>whnf
    refine And.intro ?_ ?_<;>conv=>whnf
    all_goals repeat' (first|(refine gV ?_;first|refine vE ?_|refine vI ?_|(refine WkN.sl ?_ ?_;(focus (simp[AV.norm,AV.ao,hs,hsb];done))))|(refine gX ?_;first|refine xB ?_|(refine BxN.mk ?_ ?_;(focus (simp[AV.norm,AV.ao,hs,hsb];done))))|exact True.intro)<;>conv=>whnf
   |false=>
    cases cv with
    |true=>
     have hs:=hs.2.1 ⟨rfl,rfl⟩;have hsb:=hsb.2.1 ⟨rfl,rfl⟩
     conv=>whnf
     repeat' (first|(refine gF ?_;refine aa.to (hcov (by first|rfl|(repeat' (first|rfl|refine ay (row_allI _ _ _) ?_|refine ay (aI _ _ _) ?_|refine bLtMp ?_|refine aY ?_|refine bLtCells rfl ?_))) rfl) ?_)|(refine gC ?_;first|refine cY ?_|refine cN ?_|refine .not ?_|refine gD (cI ?_))|refine gW (wI ?_)|refine gN (nS ?_)|refine gI (gM (iE ?_))|(refine gE ?_;refine eLb ?_)|refine gS (eSb ?_))<;>conv=>whnf
     refine⟨trivial,?_⟩;refine ah.atC 3 ?_ rfl rfl rfl rfl (by first|rfl|(repeat' (first|rfl|refine ay (row_allI _ _ _) ?_|refine ay (aI _ _ _) ?_|refine bLtMp ?_|refine aY ?_|refine bLtCells rfl ?_)))
     conv=>whnf
     refine And.intro ?_ ?_<;>conv=>whnf
     all_goals repeat' (first|(refine gV ?_;first|refine vE ?_|refine vI ?_|(refine WkN.sl ?_ ?_;(focus (simp[AV.norm,AV.ao,hs,hsb];done))))|(refine gX ?_;first|refine xB ?_|(refine BxN.mk ?_ ?_;(focus (simp[AV.norm,AV.ao,hs,hsb];done))))|exact True.intro)<;>conv=>whnf
    |false=>
     have hs:=hs.2.2 ⟨rfl,rfl⟩;have hsb:=hsb.2.2 ⟨rfl,rfl⟩
     conv=>whnf
     repeat' (first|(refine gF ?_;refine aa.to (hcov (by first|rfl|(repeat' (first|rfl|refine ay (row_allI _ _ _) ?_|refine ay (aI _ _ _) ?_|refine bLtMp ?_|refine aY ?_|refine bLtCells rfl ?_))) rfl) ?_)|(refine gC ?_;first|refine cN ?_|refine .not ?_|refine gD (cI ?_))|refine gW (wI ?_)|refine gN (nS ?_)|refine gI (gM (iE ?_))|(refine gE ?_;refine eLb ?_))<;>conv=>whnf
     refine⟨trivial,?_⟩;refine ah.atC 3 ?_ rfl rfl rfl rfl (by first|rfl|(repeat' (first|rfl|refine ay (row_allI _ _ _) ?_|refine ay (aI _ _ _) ?_|refine bLtMp ?_|refine aY ?_|refine bLtCells rfl ?_)))
     conv=>whnf
     refine And.intro ?_ ?_<;>conv=>whnf
     all_goals repeat' (first|(refine gV ?_;first|refine vE ?_|refine vI ?_|(refine WkN.sl ?_ ?_;(focus (simp[AV.norm,AV.ao,hs,hsb];done))))|(refine gX ?_;first|refine xB ?_|(refine BxN.mk ?_ ?_;(focus (simp[AV.norm,AV.ao,hs,hsb];done))))|exact True.intro)<;>conv=>whnf
  conv=>whnf
  repeat' (first|(refine gF ?_;refine aa.to (F6 (λh hh=>by have:=(hr.2 h hh).2.1;omega) (by first|rfl|(repeat' (first|rfl|refine ay (row_allI _ _ _) ?_|refine ay (aI _ _ _) ?_|refine bLtMp ?_|refine aY ?_|refine bLtCells rfl ?_))) rfl) ?_)|refine gC (gD (cJ ?_))|refine gW (wI ?_)|refine gL (.map ?_)|refine gN (nS ?_)|refine gI (gM (iE ?_)))<;>conv=>whnf
  refine⟨trivial,?_⟩;refine ah.at_ ?_ rfl
  conv=>whnf
  refine And.intro ?_ ?_<;>conv=>whnf
  all_goals repeat' (first|(refine gV ?_;first|refine vE ?_|refine vI ?_|(refine WkN.sl ?_ ?_;(focus (simp[AV.norm,AV.ao,hkv,hpn,hpt];done))))|(refine gX ?_;first|refine xB ?_|(refine BxN.mk ?_ ?_;(focus (simp[AV.norm,AV.ao,hkv,hpn,hpt];done))))|exact True.intro)<;>conv=>whnf
 .obtain ⟨k,hk⟩:∃k,order.length=k:=⟨_,rfl⟩;rw[hk]
  have hpt:(cX r order k).map kS++[AV.sl Cap.no ((dx (fp r order k) r.guard r.guard.length).map bM)]=(iV r order).map kS:=by
   rw[iV,hk];simp only[cX,zu,zP,Zf];rfl
  have hpl:=dQ r order k
  conv=>whnf
  repeat' refine gL (.map ?_)<;>conv=>whnf
  refine ax.count (fb:=true) r.guard.length (λst_ j=>⟨(st_.dO [(10,.sl (.own 1) ((dx (fp r order k) r.guard j).map bM)),(29,.int .i64 j)]).env,[.cells [.str r.name,.sl .no (r.keep.map At.av),.sl .no (r.remove.map At.av),.sl .no (r.guard.map Gl.av),.sl .no (r.body.map Gl.av),.int .i64 r.vars],.mp (jA (.bool true) (kvs r.aR (order.take k))),aZ AV.bool 1 r.guard.length (bw r order k j)],0⟩) (λ_=>True) trivial ?_ (λj hj _=>?_) (λ_=>?_)
  .refine ah.at_ ?_ rfl
   conv=>whnf
   refine And.intro ?_ ?_<;>conv=>whnf
   all_goals repeat' (first|(refine gV ?_;first|refine vE ?_|refine vI ?_|((refine gK ?_;refine vD ?_ ?_);(focus (simp[AV.norm,AV.ao,dx,bw];done))))|(refine gX ?_;first|refine xB ?_|(refine BxN.mk ?_ ?_;(focus (simp[AV.norm,AV.ao,dx,bw];done))))|exact True.intro)<;>conv=>whnf
  .obtain ⟨g,hgj⟩:∃g,r.guard[j]? =some g:=⟨_,zA hj⟩;have hgg:=hg.2 g (zE hgj);have hl:=iD (fp r order k) r.guard j;have hplen:=vk r order k j;obtain⟨pv,cv,hat,hs,hsb,hcov⟩:=vl (order:=order) k hgj hgg;generalize bw r order k j=pj at*;generalize bw r order k (j+1)=pj' at*;generalize dx (fp r order k) r.guard (j+1)=ix' at*;generalize dx (fp r order k) r.guard j=ix at*
   cases pv with
   |true=>
    have hs:=hs.1 rfl;have hsb:=hsb.1 rfl;clear hcov
    conv=>whnf
    repeat' (first|(refine gC ?_;first|refine cY ?_|refine cN ?_|refine .not ?_|refine gD (cI ?_))|refine gW (wI ?_)|refine gN (nS ?_)|refine gI (gM (iE ?_))|(refine gE ?_;refine eLb ?_))<;>conv=>whnf
    refine⟨trivial,?_⟩;refine ah.atC 3 ?_ rfl rfl rfl rfl (by first|rfl|(repeat' (first|rfl|refine ay (row_allI _ _ _) ?_|refine ay (aI _ _ _) ?_|refine bLtMp ?_|refine aY ?_|refine bLtCells rfl ?_)))
    conv=>whnf
    refine And.intro ?_ ?_<;>conv=>whnf
    all_goals repeat' (first|(refine gV ?_;first|refine vE ?_|refine vI ?_|(refine WkN.sl ?_ ?_;(focus (simp[AV.norm,AV.ao,hs,hsb];done))))|(refine gX ?_;first|refine xB ?_|(refine BxN.mk ?_ ?_;(focus (simp[AV.norm,AV.ao,hs,hsb];done))))|exact True.intro)<;>conv=>whnf
   |false=>
    cases cv with
    |true=>
     have hs:=hs.2.1 ⟨rfl,rfl⟩;have hsb:=hsb.2.1 ⟨rfl,rfl⟩
     conv=>whnf
     repeat' (first|(refine gF ?_;refine aa.to (hcov (by first|rfl|(repeat' (first|rfl|refine ay (row_allI _ _ _) ?_|refine ay (aI _ _ _) ?_|refine bLtMp ?_|refine aY ?_|refine bLtCells rfl ?_))) rfl) ?_)|(refine gC ?_;first|refine cY ?_|refine cN ?_|refine .not ?_|refine gD (cI ?_))|refine gW (wI ?_)|refine gN (nS ?_)|refine gI (gM (iE ?_))|(refine gE ?_;refine eLb ?_)|refine gS (eSb ?_))<;>conv=>whnf
     refine⟨trivial,?_⟩;refine ah.atC 3 ?_ rfl rfl rfl rfl (by first|rfl|(repeat' (first|rfl|refine ay (row_allI _ _ _) ?_|refine ay (aI _ _ _) ?_|refine bLtMp ?_|refine aY ?_|refine bLtCells rfl ?_)))
     conv=>whnf
     refine And.intro ?_ ?_<;>conv=>whnf
     all_goals repeat' (first|(refine gV ?_;first|refine vE ?_|refine vI ?_|(refine WkN.sl ?_ ?_;(focus (simp[AV.norm,AV.ao,hs,hsb];done))))|(refine gX ?_;first|refine xB ?_|(refine BxN.mk ?_ ?_;(focus (simp[AV.norm,AV.ao,hs,hsb];done))))|exact True.intro)<;>conv=>whnf
    |false=>
     have hs:=hs.2.2 ⟨rfl,rfl⟩;have hsb:=hsb.2.2 ⟨rfl,rfl⟩
     conv=>whnf
     repeat' (first|(refine gF ?_;refine aa.to (hcov (by first|rfl|(repeat' (first|rfl|refine ay (row_allI _ _ _) ?_|refine ay (aI _ _ _) ?_|refine bLtMp ?_|refine aY ?_|refine bLtCells rfl ?_))) rfl) ?_)|(refine gC ?_;first|refine cN ?_|refine .not ?_|refine gD (cI ?_))|refine gW (wI ?_)|refine gN (nS ?_)|refine gI (gM (iE ?_))|(refine gE ?_;refine eLb ?_))<;>conv=>whnf
     refine⟨trivial,?_⟩;refine ah.atC 3 ?_ rfl rfl rfl rfl (by first|rfl|(repeat' (first|rfl|refine ay (row_allI _ _ _) ?_|refine ay (aI _ _ _) ?_|refine bLtMp ?_|refine aY ?_|refine bLtCells rfl ?_)))
     conv=>whnf
     refine And.intro ?_ ?_<;>conv=>whnf
     all_goals repeat' (first|(refine gV ?_;first|refine vE ?_|refine vI ?_|(refine WkN.sl ?_ ?_;(focus (simp[AV.norm,AV.ao,hs,hsb];done))))|(refine gX ?_;first|refine xB ?_|(refine BxN.mk ?_ ?_;(focus (simp[AV.norm,AV.ao,hs,hsb];done))))|exact True.intro)<;>conv=>whnf
  conv=>whnf
  repeat' (first|(refine gC ?_;(refine gD ?_;first|refine cI ?_|refine cJ ?_))|refine gL (.map ?_)|refine gN (nS ?_)|refine ae.nrm ?_)<;>conv=>whnf
  exact P3 hpt
end Go.CK
set_option maxRecDepth 100000
namespace Go.CK
open Go.AM Go.Proofs
theorem lY{r:Rl}{done:List Int}(hr:r.ok3)(hg:r.okG)(hd:done.length<=100):Fun Tryz.prog 16 [r.av,slA bM done] (slA bM (eW r done)):=by
 have hgl:=hg.1;refine Fun.of (xU (by simp) ?_) rfl rfl
 conv=>whnf
 repeat' (first|(refine gF ?_;refine aa.fn (FQ (x:=r) (by have:=hr.1;omega)) ?_)|refine gL (.map ?_))<;>conv=>whnf
 refine ax.count (fb:=true) done.length (λst_ j=>⟨(st_.dO [(17,.int .i64 j)]).env,[.cells [.str r.name,.sl .no (r.keep.map At.av),.sl .no (r.remove.map At.av),.sl .no (r.guard.map Gl.av),.sl .no (r.body.map Gl.av),.int .i64 r.vars],.mp (jA (.bool true) (kvs r.aR (done.take j)))],0⟩) (λ_=>True) trivial ?_ (λj hj _=>?_) (λ_=>?_)
 .refine ah.at_ ?_ rfl
  conv=>whnf
  refine And.intro ?_ ?_<;>conv=>whnf
  all_goals repeat' (first|(refine gV ?_;first|refine vE ?_|refine vI ?_)|(refine gX ?_;first|refine xB ?_|(refine BxN.mk ?_ ?_;(focus (simp[AV.norm,AV.ao,jA,kvs];done))))|exact True.intro)<;>conv=>whnf
 .obtain ⟨x,hx⟩:∃x,done[j]? =some x:=⟨_,zA hj⟩
  have htk:done.take (j+1)=done.take j++[x]:=by
   rw[List.take_succ_eq_append_getElem hj,(zB.1 hx).2]
  have hkv:kvs r.aR (done.take (j+1))=kvs r.aR (done.take j)++kvs r.aR [x]:=by rw[htk,qc]
  conv=>whnf
  repeat' (first|(refine gF ?_;refine aa.to (F6 (λh hh=>by have:=(hr.2 h hh).2.1;omega) (by first|rfl|(repeat' (first|rfl|refine ay (row_allI _ _ _) ?_|refine ay (aI _ _ _) ?_|refine bLtMp ?_|refine aY ?_|refine bLtCells rfl ?_))) rfl) ?_)|refine gC (gD (cI ?_))|refine gW (wI ?_)|refine gI (gM (iE ?_)))<;>conv=>whnf
  refine⟨trivial,?_⟩;refine ah.at_ ?_ rfl
  conv=>whnf
  refine And.intro ?_ ?_<;>conv=>whnf
  all_goals repeat' (first|(refine gV ?_;first|refine vE ?_|refine vI ?_)|(refine gX ?_;first|refine xB ?_|(refine BxN.mk ?_ ?_;(focus (simp[AV.norm,AV.ao,hkv];done))))|exact True.intro)<;>conv=>whnf
 .rw [zz]
  conv=>whnf
  repeat' (first|refine gC (gD (cJ ?_))|refine gL (.map ?_))<;>conv=>whnf
  unfold eW;refine ax.count (fb:=true) (r.guard.length) (λst_ j=>st_.dO [(9,.sl (.own 1) ((dx (bf (kvs r.aR done)) r.guard j).map bM)),(29,.int .i64 j)]) (λ_=>True) trivial ?_ (λj hj _=>?_) (λ_=>?_)
  .refine ah.at_ ?_ rfl
   conv=>whnf
   refine And.intro ?_ ?_<;>conv=>whnf
   all_goals repeat' (first|(refine gV ?_;first|refine vE ?_|refine vI ?_|((refine gK ?_;refine vD ?_ ?_);(focus (simp[AV.norm,AV.ao,dx];done))))|refine gX (xB ?_)|exact True.intro)<;>conv=>whnf
  .obtain ⟨g,hgj⟩:∃g,r.guard[j]? =some g:=⟨_,zA hj⟩;have hgg:=hg.2 g (zE hgj);have hl:=iD (bf (kvs r.aR done)) r.guard j;have hcov:=λ{bs:List Box} {b:Nat} h1 h2=>CU (bs:=bs) (b:=b) (xs:=kvs r.aR done) hgg h1 h2
   cases hc:bf (kvs r.aR done) g with
   |true=>
    have hs:=tt hgj hc;rw[hc] at hcov
    conv=>whnf
    repeat' (first|(refine gF ?_;refine aa.to (hcov (by first|rfl|(repeat' (first|rfl|refine ay (row_allI _ _ _) ?_|refine ay (aI _ _ _) ?_|refine bLtMp ?_|refine aY ?_|refine bLtCells rfl ?_))) rfl) ?_)|(refine gC ?_;first|refine cY ?_|refine gD (cI ?_))|refine gW (wI ?_)|refine gN (nS ?_)|refine gI (gM (iE ?_)))<;>conv=>whnf
    refine⟨trivial,?_⟩;refine ah.atC 2 ?_ rfl rfl rfl rfl (by first|rfl|(repeat' (first|rfl|refine ay (row_allI _ _ _) ?_|refine ay (aI _ _ _) ?_|refine bLtMp ?_|refine aY ?_|refine bLtCells rfl ?_)))
    conv=>whnf
    refine And.intro ?_ ?_<;>conv=>whnf
    all_goals repeat' (first|(refine gV ?_;first|refine vE ?_|refine vI ?_|(refine WkN.sl ?_ ?_;(focus (simp[AV.norm,AV.ao,hs];done))))|refine gX (xB ?_)|exact True.intro)<;>conv=>whnf
   |false=>
    have hs:=qh hgj hc;rw[hc] at hcov
    conv=>whnf
    repeat' (first|(refine gF ?_;refine aa.to (hcov (by first|rfl|(repeat' (first|rfl|refine ay (row_allI _ _ _) ?_|refine ay (aI _ _ _) ?_|refine bLtMp ?_|refine aY ?_|refine bLtCells rfl ?_))) rfl) ?_)|(refine gC ?_;first|refine cN ?_|refine gD (cI ?_))|refine gW (wI ?_)|refine gI (gM (iE ?_)))<;>conv=>whnf
    refine⟨trivial,?_⟩;refine ah.atC 2 ?_ rfl rfl rfl rfl (by first|rfl|(repeat' (first|rfl|refine ay (row_allI _ _ _) ?_|refine ay (aI _ _ _) ?_|refine bLtMp ?_|refine aY ?_|refine bLtCells rfl ?_)))
    conv=>whnf
    refine And.intro ?_ ?_<;>conv=>whnf
    all_goals repeat' (first|(refine gV ?_;first|refine vE ?_|refine vI ?_|(refine WkN.sl ?_ ?_;(focus (simp[AV.norm,AV.ao,hs];done))))|refine gX (xB ?_)|exact True.intro)<;>conv=>whnf
  .conv=>whnf
   repeat' (first|refine gC (gD (cJ ?_))|refine ae.nrm ?_)<;>conv=>whnf
theorem Dn{a b:List (List Int)}:Fun Tryz.prog 18 [slA kS a,slA kS b] (.bool (decide (a=b))):=by
 refine Fun.assume rfl λhg0=>?_;have hg:=(aJ (hg0 (slA kS a) (by simp))).1
 refine Fun.of (iW (by simp) ?_) rfl rfl
 conv=>whnf
 repeat' (first|(refine gC ?_;first|refine .not ?_|refine ak.dec (λhc=>?_) (λhc=>?_))|refine gL (.map ?_)|refine ae.nrm ?_)<;>conv=>whnf
 .refine ax.count (fb:=true) (a.length) (λst_ j=>st_.dO [(5,.int .i64 j)]) (λj=>wS a b j) ?_ ?_ (λj hj hij=>?_) (λhij=>?_)
  .exact wS.zero
  .exact aH
  .obtain ⟨x,hx⟩:∃x,a[j]? =some x:=⟨_,zA hj⟩;obtain⟨y,hy⟩:∃y,b[j]? =some y:=⟨_,zA (by omega)⟩
   conv=>whnf
   repeat' (first|(refine gG ?_;refine al.fn (oT (a:=x) (b:=y)) ?_)|(refine gC ?_;first|refine .not ?_|refine gD (cI ?_)|refine ak.dec (λhc=>?_) (λhc=>?_))|refine gW (wI ?_)|refine gL (.map ?_)|refine gI (gM (iE ?_))|refine ae.nrm ?_)<;>conv=>whnf
   .refine ⟨hij.succ hx hy (by assumption),?_⟩
    exact aH
   .exact wH (OP hx hy (by assumption))
  .conv=>whnf
   repeat' (first|(refine gC ?_;first|refine cN ?_|refine gD (cJ ?_))|refine gL (.map ?_)|refine ae.nrm ?_)<;>conv=>whnf
   exact Gu (hij.all (by omega))
 .exact wH (L9 (by omega))
theorem sC(l:List Gl):Fun Tryz.prog 12 [slA Gl.av l,slA Gl.av l] (.bool true):=by
 refine Fun.assume rfl λhg0=>?_;have hg:=(aJ (hg0 (slA Gl.av l) (by simp))).1
 refine Fun.of (i6 (by simp) ?_) rfl rfl
 conv=>whnf
 repeat' (first|(refine gC ?_;first|refine .not ?_|refine gD (cI ?_))|refine gL (.map ?_))<;>conv=>whnf
 refine ax.count (fb:=true) (l.length) (λst_ j=>st_.dO [(5,.int .i64 j)]) (λ_=>True) trivial ?_ (λj hj _=>?_) (λ_=>?_)
 .exact aH
 .obtain ⟨x,hx⟩:∃x,l[j]? =some x:=⟨_,zA hj⟩;have hs:=bu (a:=x) (b:=x);rw[Gl.tQ] at hs
  conv=>whnf
  repeat' (first|refine gG (al.fn (hs) ?_)|(refine gC ?_;first|refine cY ?_|refine .not ?_|refine gD (cI ?_))|refine gW (wI ?_)|refine gL (.map ?_)|refine gI (gM (iE ?_)))<;>conv=>whnf
  refine⟨trivial,?_⟩;exact aH
 .conv=>whnf
  repeat' (first|(refine gC ?_;first|refine cN ?_|refine gD (cJ ?_))|refine gL (.map ?_)|refine ae.nrm ?_)<;>conv=>whnf
end Go.CK
set_option maxRecDepth 100000
namespace Go.CK
open Go.AM Go.Proofs
theorem JT{bs:List Box}{c:Nat}{g x:Gl}(hbb:ai bs.length bs=true)(hp:ab bs c=some [.int .i64 g.op,.str g.name,.sl .no (g.args.map Tm.av)]):AM.Sem Tryz.prog 31 [x.av,.ptr c 0] bs λr bs'=>r=.bool (x.same g)/\bs'=bs:=by
 refine o9 (by simp) ?_
 conv=>whnf
 try dsimp only
 repeat' refine gB (.last ?_)<;>(conv=>whnf;try dsimp only)
 refine wm.of (cs:=[.int .i64 g.op,.str g.name,.sl .no (g.args.map Tm.av)]) (by rw[aV,if_neg (by have:=aD hp;omega)];exact hp) ?_
 conv=>whnf
 try dsimp only
 repeat' refine gF (aa.fn (iK x g) ?_)<;>(conv=>whnf;try dsimp only)
 refine ae.wg rfl (zG _) rfl hbb ?_;exact ae.slot ⟨rfl,rfl⟩
theorem HP{bs:List Box}{c:Nat}{g:Gl}{l:List Gl}(hl:l.length<=100000)(hbb:ai bs.length bs=true)(hp:ab bs c=some [.int .i64 g.op,.str g.name,.sl .no (g.args.map Tm.av)]):AM.Sem Tryz.prog 61 [slA Gl.av l,.fn (.func 31) [] [.ptr c 0]] bs λr bs'=>r=.int .i64 (Al (λx=>x.same g) l)/\bs'=bs:=by
 refine dS (by simp) ?_
 conv=>whnf
 repeat' refine gL (.map ?_)<;>conv=>whnf
 refine ax.count (fb:=false) l.length (λst_ j=>⟨[(0,slA Gl.av l),(1,.fn (.func 31) [] [.ptr c 0]),(7,.int .i64 l.length),(8,.int .i64 j)],bs,bs.length⟩) (λj=>∀i x,i<j->l[i]? =some x->x.same g=false) DP ?_ (λj hj hij=>?_) (λhij=>?_)
 .refine ah.atS ?_ rfl rfl
  conv=>whnf
  repeat' (first|(refine gV ?_;first|refine vE ?_|refine vI ?_)|exact True.intro)<;>conv=>whnf
 .obtain ⟨y,hy⟩:∃y,l[j]? =some y:=⟨_,zA hj⟩
  conv=>whnf
  repeat' (first|refine gC (gD (cI ?_))|refine gI (gM (iE ?_))|refine gH (hB ?_))<;>conv=>whnf
  refine aa.raw (JT (x:=y) hbb hp) ?_;rintro r bs' ⟨rfl,rfl⟩
  cases hc:y.same g with
  |true=>
   conv=>whnf
   repeat' refine gC (cY ?_)<;>conv=>whnf
   refine ae.slot ⟨?_,rfl⟩
   rw[MF hij hy hc];rfl
  |false=>
   conv=>whnf
   repeat' (first|refine gC (cN ?_)|refine gW (wI ?_))<;>conv=>whnf
   refine⟨DQ hij hy hc,?_⟩;refine ah.atS ?_ rfl rfl
   conv=>whnf
   repeat' (first|(refine gV ?_;first|refine vE ?_|refine vI ?_)|exact True.intro)<;>conv=>whnf
 .conv=>whnf
  repeat' refine gC (gD (cJ ?_))<;>conv=>whnf
  refine ae.slot ⟨?_,rfl⟩;rw[ME hij];rfl
theorem BJ{bs:List Box}{c:Nat}{g:Gl}{l:List Gl}(hl:l.length<=100000)(hbb:ai bs.length bs=true)(hp:ab bs c=some [.int .i64 g.op,.str g.name,.sl .no (g.args.map Tm.av)]):AM.Sem Tryz.prog 30 [slA Gl.av l,.fn (.func 31) [] [.ptr c 0]] bs λr bs'=>r=.bool (l.any λx=>x.same g)/\bs'=bs:=by
 rw[<-Kw];refine dv (by simp) ?_
 conv=>whnf
 skip;refine aa.raw (HP hl hbb hp) ?_;rintro r bs' ⟨rfl,rfl⟩
 conv=>whnf
 skip;exact ae.slot ⟨rfl,rfl⟩
theorem su{l:List Gl}(h:cW [] l=none):b9 l=([],2):=by unfold b9;rw[h]
theorem sw{l:List Gl}(h:cW [] l=some []):b9 l=([],1):=by unfold b9;rw[h]
theorem mc{l m:List Gl}(h:cW [] l=some m)(hm:0<m.length):b9 l=(m,0):=by
 unfold b9;rw[h]
 cases m with
 |nil=>simp at hm
 |cons x r=>rfl
theorem oR{l:List Gl}(hl:∀g∈l,Tm.aj g.args<=90000/\g.args.length<=4000000000)(hn:l.length<=100000):Fun Tryz.prog 10 [slA Gl.av l] (.tup [slA Gl.av (b9 l).1,.int .i64 (b9 l).2]):=by
 refine Fun.of (sW (by simp) ?_) rfl rfl
 conv=>whnf
 repeat' refine gL (.map ?_)<;>conv=>whnf
 refine ax.by (fb:=true) (λs (q:Nat×List Gl)=>s.dO [(4,.sl (.own 3) (q.2.map Gl.av)),(9,.int .i64 q.1)]) (λq=>q.1<=l.length/\q.2.length<=q.1/\cW q.2 (l.drop q.1)=cW [] l) (λq=>l.length-q.1) (0,[]) ⟨zJ _,zG _,rfl⟩ ?_ ?_
 .refine ah.at_ ?_ rfl
  conv=>whnf
  refine And.intro ?_ ?_<;>conv=>whnf
  all_goals repeat' (first|(refine gV ?_;first|refine vE ?_|refine vI ?_|((refine gK ?_;refine vD ?_ ?_);(focus (simp[AV.norm,AV.ao,];done))))|exact True.intro)<;>conv=>whnf
 .rintro ⟨j,out⟩ ⟨hj,hlen,he⟩;dsimp only at hj hlen he|-
  by_cases hlt:j<l.length
  .obtain ⟨g,hx⟩:∃g,l[j]? =some g:=⟨_,zA hlt⟩;have hT:=Ew g (hl g (zE hx)).1 (hl g (zE hx)).2;rw[zH hlt,(zB.1 hx).2,cW] at he;have hcn:=λ{bs:List Box} {c:Nat} h1 h2=>BJ (bs:=bs) (c:=c) (g:=g) (l:=out) (by omega) h1 h2
   rcases ni g with h|h|h
   .rw [h] at hT he;rw[if_neg (by decide)] at he
    cases hs:out.any λx=>x.same g with
    |true=>
     rw[hs] at hcn he;rw[if_neg (by simp)] at he
     conv=>whnf
     repeat' (first|(refine gF ?_;first|refine aa.fn (hT) ?_|refine aa.to (hcn (by first|rfl|(repeat' (first|rfl|refine ay (row_allI _ _ _) ?_|refine ay (aI _ _ _) ?_|refine bLtMp ?_|refine aY ?_|refine bLtCells rfl ?_))) rfl) ?_)|(refine gC ?_;first|refine cY ?_|refine .not ?_|(refine gD ?_;first|refine cI ?_|refine cJ ?_))|refine gW (wI ?_)|refine gI (gM (iE ?_)))<;>conv=>whnf
     refine⟨(j+1,out),⟨⟨hlt,by simp only;omega,he⟩,by simp only;omega⟩,?_⟩
     refine ah.atC 0 ?_ rfl rfl rfl rfl (by first|rfl|(repeat' (first|rfl|refine ay (row_allI _ _ _) ?_|refine ay (aI _ _ _) ?_|refine bLtMp ?_|refine aY ?_|refine bLtCells rfl ?_)))
     conv=>whnf
     refine And.intro ?_ ?_<;>conv=>whnf
     all_goals repeat' (first|(refine gV ?_;first|refine vE ?_|refine vI ?_)|exact True.intro)<;>conv=>whnf
    |false=>
     rw[hs] at hcn he;rw[if_pos (by simp)] at he
     conv=>whnf
     repeat' (first|(refine gF ?_;first|refine aa.fn (hT) ?_|refine aa.to (hcn (by first|rfl|(repeat' (first|rfl|refine ay (row_allI _ _ _) ?_|refine ay (aI _ _ _) ?_|refine bLtMp ?_|refine aY ?_|refine bLtCells rfl ?_))) rfl) ?_)|(refine gC ?_;first|refine cN ?_|refine .not ?_|(refine gD ?_;first|refine cI ?_|refine cJ ?_))|refine gW (wI ?_)|refine gN (nS ?_)|refine gI (gM (iE ?_)))<;>conv=>whnf
     refine⟨(j+1,out++[g]),⟨⟨hlt,by simp;omega,he⟩,by simp only;omega⟩,?_⟩
     refine ah.atC 0 ?_ rfl rfl rfl rfl (by first|rfl|(repeat' (first|rfl|refine ay (row_allI _ _ _) ?_|refine ay (aI _ _ _) ?_|refine bLtMp ?_|refine aY ?_|refine bLtCells rfl ?_)))
     conv=>whnf
     refine And.intro ?_ ?_<;>conv=>whnf
     all_goals repeat' (first|(refine gV ?_;first|refine vE ?_|refine vI ?_|(refine WkN.sl ?_ ?_;(focus (simp[AV.norm,AV.ao,Gl.av];done))))|exact True.intro)<;>conv=>whnf
   .rw [h] at hT he;rw[if_neg (by decide),if_neg (by simp)] at he
    conv=>whnf
    repeat' (first|refine gF (aa.fn (hT) ?_)|(refine gC ?_;(refine gD ?_;first|refine cI ?_|refine cJ ?_))|refine gW (wI ?_)|refine gI (gM (iE ?_)))<;>conv=>whnf
    refine⟨(j+1,out),⟨⟨hlt,by simp only;omega,he⟩,by simp only;omega⟩,?_⟩
    refine ah.atC 0 ?_ rfl rfl rfl rfl (by first|rfl|(repeat' (first|rfl|refine ay (row_allI _ _ _) ?_|refine ay (aI _ _ _) ?_|refine bLtMp ?_|refine aY ?_|refine bLtCells rfl ?_)))
    conv=>whnf
    refine And.intro ?_ ?_<;>conv=>whnf
    all_goals repeat' (first|(refine gV ?_;first|refine vE ?_|refine vI ?_)|exact True.intro)<;>conv=>whnf
   .rw [h] at hT he;rw[if_pos rfl] at he;rw[su he.symm]
    conv=>whnf
    repeat' (first|refine gF (aa.fn (hT) ?_)|refine gC (gD (cI ?_))|refine gI (gM (iE ?_))|refine ae.nrm ?_)<;>conv=>whnf
    all_goals rfl
  .have hje:j=l.length:=by omega
   subst hje;rw[zj,cW] at he
   by_cases h0:0<out.length
   .rw [mc he.symm h0]
    conv=>whnf
    repeat' (first|refine gC (gD (cJ ?_))|refine gL (.map ?_)|refine ae.nrm ?_)<;>conv=>whnf
    all_goals rfl
   .have:out=[]:=ZY.1 (by omega)
    subst this;rw[sw he.symm]
    conv=>whnf
    repeat' (first|(refine gC ?_;(refine gD ?_;first|refine cI ?_|refine cJ ?_))|refine gL (.map ?_)|refine ae.nrm ?_)<;>conv=>whnf
    all_goals rfl
end Go.CK
