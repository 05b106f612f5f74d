/-
  Texts of this aX joined (wip/gen/bundle.py),those declarations only that are needed:GdL GdM. By an AI agent.
-/
import Derived.Test.YtpihbplamelcnaaGreatBbl
set_option linter.unusedSimpArgs false
set_option linter.unusedVariables false
set_option maxRecDepth 100000
namespace Go.CK
open Go.AM Go.Proofs
def s7(l:List Gl)(k:Int):Bool:=if 0<=k/\k<l.length then j8 l k.toNat else false
theorem I1{l:List Gl}{k:Int}(h:k<0\/(l.length:Int)<=k):s7 l k=false:=by
 unfold s7;rw[if_neg (by omega)]
theorem DR{l:List Gl}{k:Nat}(h:k<l.length):s7 l (k:Int)=j8 l k:=by
 unfold s7;rw[if_pos (by omega)];rfl
theorem I0{l:List Gl}{j k:Nat}{x y:Gl}(hx:l[j]? =some x)(hy:l[k]? =some y):j7 l j k=(decide (j≠k)&&(oF x y&&(decide (j<k)||!oF y x))):=by
 unfold j7;rw[hx,hy]
theorem Ci{l:List Gl}{k:Nat}(h:∀j,j<l.length->j7 l j k=false):j8 l k=true:=by
 unfold j8;rw[zb,List.any_eq_false];intro j hj;rw[h j (zd.1 hj)];exact Za
theorem s8{l:List Gl}{j k:Nat}(hj:j<l.length)(h:j7 l j k=true):j8 l k=false:=by
 unfold j8;rw[Bool.not_eq_false',List.any_eq_true];exact⟨j,zd.2 hj,h⟩
theorem Qj(x y:Gl)(_:Tm.aj x.args<=90000)(_:Tm.aj y.args<=90000)(h1:x.args.length<=4000000000)(h2:y.args.length<=4000000000):Fun Tryz.prog 44 [x.av,y.av] (.bool (oF x y)):=Iu x y h1 h2
theorem IP(x y:Gl)(n1:Tm.aj x.args<=90000)(n2:Tm.aj y.args<=90000)(h1:x.args.length<=4000000000)(h2:y.args.length<=4000000000):Fun Tryz.prog 45 [x.av,y.av] (.bool (oF x y)):=by
 rw[Kt];exact Bk x y n1 n2 h1 h2
theorem ux{l:List Gl}{k:Int}(hl:∀g∈l,Tm.aj g.args<=90000/\g.args.length<=4000000000)(hn:l.length<=100000):Fun Tryz.prog 21 [slA Gl.av l,.int .i64 k] (.bool (s7 l k)):=by
 by_cases hk:0<=k/\k<l.length
 rotate_left
 .rw [I1 (by omega)]
  refine Fun.of (oo (by simp) ?_) rfl rfl
  conv=>whnf
  repeat' (first|(refine gC ?_;first|refine cY ?_|(refine gD ?_;first|refine cI ?_|refine cJ ?_)|refine ak.lt (λhc=>?_) (λhc=>?_))|refine gL (.map ?_)|refine ae.nrm ?_)<;>conv=>whnf
  all_goals rfl
 obtain⟨n,rfl⟩:∃n:Nat,k=n:=⟨k.toNat,by omega⟩
 have hnl:n<l.length:=by omega
 obtain⟨y,hy⟩:∃y,l[n]? =some y:=⟨_,zA hnl⟩;rw[DR hnl];refine Fun.of (oo (by simp) ?_) rfl rfl
 conv=>whnf
 repeat' (first|refine gC (gD (cJ ?_))|refine gL (.map ?_))<;>conv=>whnf
 refine ax.count (fb:=true) (l.length) (λst_ j=>st_.dO [(17,.int .i64 j)]) (λj=>∀i,i<j->j7 l i n=false) ?_ ?_ (λj hj hij=>?_) (λhij=>?_)
 .intro i hi;omega
 .exact aH
 .obtain ⟨x,hx⟩:∃x,l[j]? =some x:=⟨_,zA hj⟩;have hn:=I0 hx hy;have f1:=Qj x y (hl x (zE hx)).1 (hl y (zE hy)).1 (hl x (zE hx)).2 (hl y (zE hy)).2;have f2:=Qj y x (hl y (zE hy)).1 (hl x (zE hx)).1 (hl y (zE hy)).2 (hl x (zE hx)).2
  have key:j7 l j n=false->∀i,i<j+1->j7 l i n=false:=λh i hi=>by
   by_cases e:i=j
   .rw [e];exact h
   .exact hij i (by omega)
  by_cases hjn:j=n
  .have hk:=key (by rw[hn,decide_eq_false (λh=>h hjn),zw])
   conv=>whnf
   repeat' (first|(refine gC ?_;first|refine cN ?_|refine .not ?_|refine gD (cI ?_))|refine gW (wI ?_)|refine gI (gM (iE ?_)))<;>conv=>whnf
   refine⟨hk,?_⟩;refine ah.atC 0 ?_ rfl rfl rfl rfl (by first|rfl|(repeat' (first|rfl|refine ay (row_allI _ _ _) ?_|refine ay (aI _ _ _) ?_|refine bLtMp ?_|refine aY ?_|refine bLtCells rfl ?_)))
   conv=>whnf
   refine And.intro ?_ ?_<;>conv=>whnf
   all_goals repeat' (first|(refine gV ?_;first|refine vE ?_|refine vI ?_)|exact True.intro)<;>conv=>whnf
  .rw [decide_eq_true (show j≠n from hjn),za] at hn
   cases h1:oF x y with
   |false=>
    rw[h1] at f1 hn;have hk:=key (by rw[hn];rfl)
    conv=>whnf
    repeat' (first|refine gG (al.fn (f1) ?_)|(refine gC ?_;first|refine cN ?_|refine .not ?_|(refine gD ?_;first|refine cI ?_|refine cJ ?_))|refine gW (wI ?_)|refine gI (gM (iE ?_)))<;>conv=>whnf
    refine⟨hk,?_⟩;refine ah.atC 0 ?_ rfl rfl rfl rfl (by first|rfl|(repeat' (first|rfl|refine ay (row_allI _ _ _) ?_|refine ay (aI _ _ _) ?_|refine bLtMp ?_|refine aY ?_|refine bLtCells rfl ?_)))
    conv=>whnf
    refine And.intro ?_ ?_<;>conv=>whnf
    all_goals repeat' (first|(refine gV ?_;first|refine vE ?_|refine vI ?_)|exact True.intro)<;>conv=>whnf
   |true=>
    rw[h1] at f1 hn;rw[za] at hn
    by_cases hlt:j<n
    .rw [decide_eq_true hlt,Bool.true_or] at hn;rw[s8 hj hn]
     conv=>whnf
     repeat' (first|refine gG (al.fn (f1) ?_)|(refine gC ?_;first|refine cY ?_|refine .not ?_|(refine gD ?_;first|refine cI ?_|refine cJ ?_))|refine gI (gM (iE ?_))|refine ae.nrm ?_)<;>conv=>whnf
     all_goals rfl
    .rw [decide_eq_false hlt,Bool.false_or] at hn
     cases h2:oF y x with
     |true=>
      rw[h2] at f2 hn;have hk:=key (by rw[hn];rfl)
      conv=>whnf
      repeat' (first|(refine gG ?_;first|refine al.fn (f1) ?_|refine al.fn (f2) ?_)|(refine gC ?_;first|refine cY ?_|refine .not ?_|(refine gD ?_;first|refine cI ?_|refine cJ ?_))|refine gW (wI ?_)|refine gI (gM (iE ?_)))<;>conv=>whnf
      refine⟨hk,?_⟩;refine ah.atC 0 ?_ rfl rfl rfl rfl (by first|rfl|(repeat' (first|rfl|refine ay (row_allI _ _ _) ?_|refine ay (aI _ _ _) ?_|refine bLtMp ?_|refine aY ?_|refine bLtCells rfl ?_)))
      conv=>whnf
      refine And.intro ?_ ?_<;>conv=>whnf
      all_goals repeat' (first|(refine gV ?_;first|refine vE ?_|refine vI ?_)|exact True.intro)<;>conv=>whnf
     |false=>
      rw[h2] at f2 hn;rw[s8 hj (by rw[hn];rfl)]
      conv=>whnf
      repeat' (first|(refine gG ?_;first|refine al.fn (f1) ?_|refine al.fn (f2) ?_)|(refine gC ?_;first|refine cY ?_|refine cN ?_|refine .not ?_|(refine gD ?_;first|refine cI ?_|refine cJ ?_))|refine gI (gM (iE ?_))|refine ae.nrm ?_)<;>conv=>whnf
      all_goals rfl
 .rw [Ci hij]
  conv=>whnf
  repeat' (first|refine gC (gD (cJ ?_))|refine ae.nrm ?_)<;>conv=>whnf
theorem Du{l:List Gl}{k:Int}(hl:∀g∈l,Tm.aj g.args<=90000/\g.args.length<=4000000000)(hn:l.length<=100000):Fun Tryz.prog 22 [slA Gl.av l,.int .i64 k] (.bool (s7 l k)):=by
 by_cases hk:0<=k/\k<l.length
 rotate_left
 .rw [I1 (by omega)]
  refine Fun.of (ez (by simp) ?_) rfl rfl
  conv=>whnf
  repeat' (first|(refine gC ?_;first|refine cY ?_|(refine gD ?_;first|refine cI ?_|refine cJ ?_)|refine ak.lt (λhc=>?_) (λhc=>?_))|refine gL (.map ?_)|refine ae.nrm ?_)<;>conv=>whnf
  all_goals rfl
 obtain⟨n,rfl⟩:∃n:Nat,k=n:=⟨k.toNat,by omega⟩
 have hnl:n<l.length:=by omega
 obtain⟨y,hy⟩:∃y,l[n]? =some y:=⟨_,zA hnl⟩;rw[DR hnl];refine Fun.of (ez (by simp) ?_) rfl rfl
 conv=>whnf
 repeat' (first|refine gC (gD (cJ ?_))|refine gL (.map ?_))<;>conv=>whnf
 refine ax.count (fb:=true) (l.length) (λst_ j=>st_.dO [(5,.int .i64 j)]) (λj=>∀i,i<j->j7 l i n=false) ?_ ?_ (λj hj hij=>?_) (λhij=>?_)
 .intro i hi;omega
 .exact aH
 .obtain ⟨x,hx⟩:∃x,l[j]? =some x:=⟨_,zA hj⟩;have hn:=I0 hx hy;have f1:=IP x y (hl x (zE hx)).1 (hl y (zE hy)).1 (hl x (zE hx)).2 (hl y (zE hy)).2;have f2:=IP y x (hl y (zE hy)).1 (hl x (zE hx)).1 (hl y (zE hy)).2 (hl x (zE hx)).2
  have key:j7 l j n=false->∀i,i<j+1->j7 l i n=false:=λh i hi=>by
   by_cases e:i=j
   .rw [e];exact h
   .exact hij i (by omega)
  by_cases hjn:j=n
  .have hk:=key (by rw[hn,decide_eq_false (λh=>h hjn),zw])
   conv=>whnf
   repeat' (first|(refine gC ?_;first|refine cN ?_|refine .not ?_|refine gD (cI ?_))|refine gW (wI ?_)|refine gL (.map ?_))<;>conv=>whnf
   refine⟨hk,?_⟩;refine ah.atC 0 ?_ rfl rfl rfl rfl (by first|rfl|(repeat' (first|rfl|refine ay (row_allI _ _ _) ?_|refine ay (aI _ _ _) ?_|refine bLtMp ?_|refine aY ?_|refine bLtCells rfl ?_)))
   conv=>whnf
   refine And.intro ?_ ?_<;>conv=>whnf
   all_goals repeat' (first|(refine gV ?_;first|refine vE ?_|refine vI ?_)|exact True.intro)<;>conv=>whnf
  .rw [decide_eq_true (show j≠n from hjn),za] at hn
   cases h1:oF x y with
   |false=>
    rw[h1] at f1 hn;have hk:=key (by rw[hn];rfl)
    conv=>whnf
    repeat' (first|refine gG (al.fn (f1) ?_)|(refine gC ?_;first|refine cN ?_|refine .not ?_|(refine gD ?_;first|refine cI ?_|refine cJ ?_))|refine gW (wI ?_)|refine gL (.map ?_)|refine gI (gM (iE ?_)))<;>conv=>whnf
    refine⟨hk,?_⟩;refine ah.atC 0 ?_ rfl rfl rfl rfl (by first|rfl|(repeat' (first|rfl|refine ay (row_allI _ _ _) ?_|refine ay (aI _ _ _) ?_|refine bLtMp ?_|refine aY ?_|refine bLtCells rfl ?_)))
    conv=>whnf
    refine And.intro ?_ ?_<;>conv=>whnf
    all_goals repeat' (first|(refine gV ?_;first|refine vE ?_|refine vI ?_)|exact True.intro)<;>conv=>whnf
   |true=>
    rw[h1] at f1 hn;rw[za] at hn
    by_cases hlt:j<n
    .rw [decide_eq_true hlt,Bool.true_or] at hn;rw[s8 hj hn]
     conv=>whnf
     repeat' (first|refine gG (al.fn (f1) ?_)|(refine gC ?_;first|refine cY ?_|refine .not ?_|(refine gD ?_;first|refine cI ?_|refine cJ ?_))|refine gL (.map ?_)|refine gI (gM (iE ?_))|refine ae.nrm ?_)<;>conv=>whnf
     all_goals rfl
    .rw [decide_eq_false hlt,Bool.false_or] at hn
     cases h2:oF y x with
     |true=>
      rw[h2] at f2 hn;have hk:=key (by rw[hn];rfl)
      conv=>whnf
      repeat' (first|(refine gG ?_;first|refine al.fn (f1) ?_|refine al.fn (f2) ?_)|(refine gC ?_;first|refine cY ?_|refine .not ?_|(refine gD ?_;first|refine cI ?_|refine cJ ?_))|refine gW (wI ?_)|refine gL (.map ?_)|refine gI (gM (iE ?_)))<;>conv=>whnf
      refine⟨hk,?_⟩;refine ah.atC 0 ?_ rfl rfl rfl rfl (by first|rfl|(repeat' (first|rfl|refine ay (row_allI _ _ _) ?_|refine ay (aI _ _ _) ?_|refine bLtMp ?_|refine aY ?_|refine bLtCells rfl ?_)))
      conv=>whnf
      refine And.intro ?_ ?_<;>conv=>whnf
      all_goals repeat' (first|(refine gV ?_;first|refine vE ?_|refine vI ?_)|exact True.intro)<;>conv=>whnf
     |false=>
      rw[h2] at f2 hn;rw[s8 hj (by rw[hn];rfl)]
      conv=>whnf
      repeat' (first|(refine gG ?_;first|refine al.fn (f1) ?_|refine al.fn (f2) ?_)|(refine gC ?_;first|refine cY ?_|refine cN ?_|refine .not ?_|(refine gD ?_;first|refine cI ?_|refine cJ ?_))|refine gL (.map ?_)|refine gI (gM (iE ?_))|refine ae.nrm ?_)<;>conv=>whnf
      all_goals rfl
 .rw [Ci hij]
  conv=>whnf
  repeat' (first|refine gC (gD (cJ ?_))|refine gL (.map ?_)|refine ae.nrm ?_)<;>conv=>whnf
def uI(b:List Bnd)(most:Int):Bool:=decide (most<b.length)||decide (bH (b.map Bnd.t) most 64<0)
theorem CC{b:List Bnd}{most:Int}(b1:0<=most)(b2:most<=100000):Fun Tryz.prog 23 [.sl .no (b.map Bnd.av),.int .i64 most] (.bool (uI b most)):=by
 have hg:=Mr (l:=b.map Bnd.t) (most:=most) (by omega) b2
 unfold uI
 by_cases hb:most<b.length
 .rw [decide_eq_true hb,Bool.true_or];refine Fun.of (eG (by simp) ?_) rfl rfl
  conv=>whnf
  repeat' (first|refine gC (gD (cI ?_))|refine gL (.map ?_)|refine ae.nrm ?_)<;>conv=>whnf
 rw[decide_eq_false hb,Bool.false_or];refine Fun.of (eG (by simp) ?_) rfl rfl
 conv=>whnf
 repeat' (first|refine gC (gD (cJ ?_))|refine gL (.map ?_))<;>conv=>whnf
 refine ax.count (fb:=true) (b.length) (λst_ j=>st_.dO [(5,.sl (.own 4) (((b.take j).map Bnd.t).map Tm.av)),(6,.int .i64 j)]) (λ_=>True) trivial ?_ (λj hj _=>?_) (λ_=>?_)
 .refine ah.at_ ?_ rfl
  conv=>whnf
  refine And.intro ?_ ?_<;>conv=>whnf
  all_goals repeat' (first|(refine gV ?_;first|refine vE ?_|refine vI ?_|((refine gK ?_;refine vD ?_ ?_);(focus (simp[AV.norm,AV.ao,];done))))|exact True.intro)<;>conv=>whnf
 .obtain ⟨x,hx⟩:∃x,b[j]? =some x:=⟨_,zA hj⟩
  have hs:b.take (j+1)=b.take j++[x]:=by
   rw[List.take_succ_eq_append_getElem hj,(zB.1 hx).2]
  have htl:=List.length_take_le j b;have hml:((b.take j).map Bnd.t).length<=j:=by rw[zF];omega
  conv=>whnf
  repeat' (first|refine gC (gD (cI ?_))|refine gW (wI ?_)|refine gL (.map ?_)|refine gN (nS ?_)|refine gI (gM (iE ?_)))<;>conv=>whnf
  refine⟨trivial,?_⟩;refine ah.at_ ?_ rfl
  conv=>whnf
  refine And.intro ?_ ?_<;>conv=>whnf
  all_goals repeat' (first|(refine gV ?_;first|refine vE ?_|refine vI ?_|(refine WkN.sl ?_ ?_;(focus (simp[AV.norm,AV.ao,hs,Tm.gz,Tm.avw];done))))|exact True.intro)<;>conv=>whnf
 .rw [zz]
  conv=>whnf
  repeat' (first|refine gF (aa.fn (hg) ?_)|refine gC (gD (cJ ?_))|refine gL (.map ?_)|refine ae.nrm ?_)<;>conv=>whnf
theorem CD{b:List Bnd}{most:Int}(h:uI b most=false):(b.length:Int)<=most/\∀x∈b,(x.t.nodes:Int)<=most:=by
 unfold uI at h;rw[Bool.or_eq_false_iff,decide_eq_false_iff_not,decide_eq_false_iff_not] at h;refine⟨by omega,λx hx=>?_⟩
 have:=dN (l:=b.map Bnd.t) (left:=most) (deep:=64) (by omega)
 have h2:=gh (ZX (f:=Bnd.t) hx);omega
end Go.CK
set_option maxRecDepth 100000
namespace Go.CK
open Go.AM Go.Proofs
theorem te(op:Int)(x y:Tm):Fun Tryz.prog 36 [.int .i64 op,x.avw,y.avw] (g2 op x y).av:=by
 refine Fun.of (mK (by simp) ?_) rfl rfl
 conv=>whnf
 repeat' refine ae.nrm ?_<;>conv=>whnf
 all_goals (simp[g2,Gl.av,Tm.gz,Tm.avw])
def vt:Gl:=g2 7 (bX 0) (bX 1)
def OJ:Gl:=⟨1,⟨⟨[]⟩⟩,[]⟩
def D2:Rl:=⟨⟨⟨[]⟩⟩,[⟨⟨⟨[112]⟩⟩,[bX 0]⟩,⟨⟨⟨[113]⟩⟩,[bX 1]⟩],[],[g2 7 (bX 0) (y7 3),vt],[],2⟩
def MH:List Gl:=[OJ,g2 7 (y7 1) (y7 2),vt,vt]
theorem Ql:aQ OJ=1:=by
 unfold aQ;generalize uni _ _=u;cases u<;>kernel_rfl
theorem Qk:aQ (g2 7 (y7 1) (y7 2))=1:=by
 unfold aQ;generalize uni _ _=u;cases u<;>kernel_rfl
theorem OT:aQ vt=0:=by
 unfold aQ;generalize uni _ _=u;cases u<;>kernel_rfl
theorem exmS:b9 MH=([vt],0):=by
 refine mc ?_ (by simp)
 unfold MH;rw[cW,Ql,if_neg (by decide),if_neg (by simp),cW,Qk,if_neg (by decide),if_neg (by simp),cW,OT,if_neg (by decide),if_pos ⟨rfl,rfl⟩,cW,OT,if_neg (by decide),if_neg (by simp[Gl.tQ]),cW]
 rfl
theorem exmN:s7 [vt,g2 8 (bX 0) (bX 1)] 1=false:=by kernel_rfl
theorem Qm:eW D2 [0]=[0]:=by kernel_rfl
theorem Qn:∃x y z,iV D2 [1,0]=[x,y,z]:=⟨[],[],[0,1],by kernel_rfl⟩
theorem Jf:D2.ok3:=⟨by decide,λh hh=>by
 simp only[D2,Rl.aR,zy,zI,ye,or_false] at hh;rcases hh with rfl|rfl
 .exact ⟨by decide,by decide,λt ht=>by simp only[zp] at ht;subst ht;decide⟩
 .exact ⟨by decide,by decide,λt ht=>by simp only[zp] at ht;subst ht;decide⟩⟩
theorem Je:D2.okG:=⟨by decide,λg hg=>by
 simp only[D2,zI,ye,or_false] at hg;rcases hg with rfl|rfl<;>decide⟩
set_option maxHeartbeats 4000000 in
theorem mN:Fun Tryz.prog 13 [] (.bool true):=by
 have v0:=JB 0;have v1:=JB 1;have i1:=EC 1;have i2:=EC 2;have i3:=EC 3;have k1:=te 7 (bX 0) (bX 1);have k2:=te 7 (y7 1) (y7 2);have k3:=te 7 (bX 0) (y7 3);have k4:=te 8 (bX 0) (bX 1)
 have s1:=oR (l:=MH) (λg hg=>by
  simp only[MH,zI,ye,or_false] at hg;rcases hg with rfl|rfl|rfl|rfl<;>exact⟨by decide,by decide⟩) (by decide)
 rw[exmS] at s1;have s2:=sC [vt];have s3:=oT (a:=[0]) (b:=[0]);have r1:=lY (r:=D2) (done:=[0]) Jf Je (by decide)
 rw[Qm] at r1;have p1:=xL (r:=D2) (order:=[1,0]) Jf Je (by decide)
 obtain⟨x,y,z,hp⟩:=Qn;rw[hp] at p1
 have n1:=ux (l:=[vt,g2 8 (bX 0) (bX 1)]) (k:=1) (λg hg=>by
  simp only[zI,ye,or_false] at hg;rcases hg with rfl|rfl<;>exact⟨by decide,by decide⟩) (by decide)
 rw[exmN] at n1;simp only[MH,D2,slA,zP,Zf,Rl.av] at s1 s2 s3 r1 p1 n1;refine Fun.of (mJ (by simp) ?_) rfl rfl
 conv=>whnf
 repeat' (first|(refine gF ?_;first|refine aa.fn (v0) ?_|refine aa.fn (v1) ?_|refine aa.fn (k1) ?_)|(refine gG ?_;first|refine al.fn (v0) ?_|refine al.fn (v1) ?_|refine al.fn (i1) ?_|refine al.fn (i2) ?_|refine al.fn (i3) ?_|refine al.fn (k2) ?_|refine al.fn (k3) ?_|refine al.fn (k4) ?_|refine al.fn (s1) ?_|refine al.fn (s2) ?_|refine al.fn (s3) ?_|refine al.fn (r1) ?_|refine al.fn (p1) ?_|refine al.fn (n1) ?_)|(refine gC ?_;first|refine cY ?_|(refine gD ?_;first|refine cI ?_|refine cJ ?_|refine cId ?_)|refine ak.dec (λhc=>?_) (λhc=>?_))|refine gL (.any ?_)|refine ae.nrm ?_)<;>conv=>whnf
 all_goals first|rfl|exact(hc rfl).elim
end Go.CK
