/-
  Texts of this aV joined (wip/gen/bundle.py),those declarations only that are needed:IxAd IxAe IxAf. By an AI agent.
-/
import Derived.Test.YtcjfkbdbcgmomaaGreatDoorSbg
set_option linter.unusedSimpArgs false
set_option linter.unusedVariables false
set_option maxRecDepth 100000
namespace Go.CK
open Go.AM Go.Proofs
theorem au.Ku(s:St)(q:AM.Pl)(x:AV)(h:s.at q=some x):au s (s.upd q x.norm):=λE G a w hs=>by
 have hv:=hs.val q x h;exact⟨G,hs.upd (q:=q) h (by rw[<-o8];exact hv.norm)⟩
theorem Gq{env:List (Nat×AV)}{bs:List Box}{lo q j:Nat}{cs:List AV}{x:AV}(hb:bs[q]? =some (.cells cs)):(⟨env,bs,lo⟩:St).upd (.bx q j) x=⟨env,bs.set q (.cells (cs.set j x)),lo⟩:=by
 have:aa bs q=some cs:=by simp[aa,hb,Box.cs?]
 simp only[St.upd,this,St.aF]
theorem Il{env:List (Nat×AV)}{bs:List Box}{lo q j:Nat}{cs:List AV}{x:AV}(hb:bs[q]? =some (.cells cs))(hj:cs[j]? =some x):(⟨env,bs,lo⟩:St).at (.bx q j)=some x:=by
 have:aa bs q=some cs:=by simp[aa,hb,Box.cs?]
 simp only[St.at,this,ZH,hj]
theorem ai.A0{env:List (Nat×AV)}{bs:List Box}{lo q:Nat}{cs:List AV}{x:AV}{rs:List e7}{Q:AV->List Box->Prop}(j:Nat)(hb:bs[q]? =some (.cells cs))(hj:cs[j]? =some x)(h:ai ⟨env,bs.set q (.cells (cs.set j x.norm)),lo⟩ rs Q):ai ⟨env,bs,lo⟩ rs Q:=
 ai.wk (by have:=au.Ku ⟨env,bs,lo⟩ (.bx q j) x (Il hb hj);rwa [Gq hb] at this) h
theorem vg{l:List It}(hl:l.length<=10000000)(ha:∀i∈l,i.atom.args.length<=10000000/\Tm.aD i.atom.args<=100000000):Fun Tryz.prog 26 [slA It.av l] (.bool (dz l)):=by
 unfold dz
 by_cases h5:l.length<=500
 .rw [decide_eq_true h5,zb];refine Fun.of (dK (by simp) ?_) rfl rfl
  conv=>whnf
  repeat' (first|refine gC (gD (cJ ?_))|refine gL (.map ?_))<;>conv=>whnf
  refine aJ.count (fb:=true) (l.length) (λst_ j=>st_.oK [(3,.int .i64 j)]) (λj=>stB 0 l=stB (lq l j) (l.drop j)/\0<=lq l j) ?_ ?_ (λj hj hij=>?_) (λhij=>?_)
  .exact ⟨rfl,Int.le_refl _⟩
  .exact bH
  .obtain ⟨y,hy⟩:∃y,l[j]? =some y:=⟨_,zA hj⟩;obtain⟨hij,hla0⟩:=hij;rw[zH hj,(zB.1 hy).2,stB] at hij;have hla:lq l (j+1)=y.id:=by simp[lq,hy]
   have hr:=mH y.atom (ha y (zE hy)).2 (by have:=(ha y (zE hy)).1;omega)
   by_cases h1:y.id<1
   .rw [decide_eq_false (by omega),zy] at hij
    rw[hij]
    conv=>whnf
    repeat' (first|(refine gC ?_;first|refine cY ?_|refine gD (cI ?_))|refine gL (.map ?_)|refine gI (gM (iE ?_))|refine ai.nrm ?_)<;>conv=>whnf
    all_goals rfl
   .cases j with
    |zero=>
     rw[show lq l 0=0 from rfl] at hij hla0;rw[decide_eq_true (by omega),zb] at hij
     cases hb:y.atom.right with
     |true=>
      rw[hb] at hr;rw[hb,zb] at hij
      conv=>whnf
      repeat' (first|refine gG (bO.fn (hr) ?_)|(refine gC ?_;first|refine cY ?_|refine cN ?_|refine .not ?_|(refine gD ?_;first|refine cI ?_|refine cJ ?_))|refine gW (wI ?_)|refine gL (.map ?_)|refine gI (gM (iE ?_)))<;>conv=>whnf
      refine⟨⟨by rw[hla];exact hij,by rw[hla];omega⟩,?_⟩
      exact bH
     |false=>
      rw[hb] at hr;rw[hb,zy] at hij;rw[hij]
      conv=>whnf
      repeat' (first|refine gG (bO.fn (hr) ?_)|(refine gC ?_;first|refine cN ?_|refine .not ?_|(refine gD ?_;first|refine cI ?_|refine cJ ?_))|refine gL (.map ?_)|refine gI (gM (iE ?_))|refine ai.nrm ?_)<;>conv=>whnf
      all_goals rfl
    |succ i=>
     obtain⟨z,hz⟩:∃z,l[i]? =some z:=⟨_,zA (by omega)⟩
     have hlz:lq l (i+1)=z.id:=by simp[lq,hz]
     rw[hlz] at hij hla0
     by_cases h2:z.id<y.id
     .rw [decide_eq_true h2,zb] at hij
      cases hb:y.atom.right with
      |true=>
       rw[hb] at hr;rw[hb,zb] at hij
       have hxz:∀x,l[((i+1:Nat)-1:Int).toNat]? =some x->x=z:=λx hx=>by
        rw[show ((i+1:Nat)-1:Int).toNat=i by omega,hz] at hx
        cases hx;rfl
       conv=>whnf
       repeat' (first|refine gG (bO.fn (hr) ?_)|(refine gC ?_;first|refine cY ?_|refine .not ?_|(refine gD ?_;first|refine cI ?_|refine cJ ?_)|refine aj.le (λhc=>?_) (λhc=>?_))|refine gW (wI ?_)|refine gL (.map ?_)|(refine gI ?_;(refine gM ?_;first|refine iE ?_|refine iI λx hx=>?_)))<;>conv=>whnf
       .obtain rfl:=hxz x hx;omega
       .refine ⟨⟨by rw[hla];exact hij,by rw[hla];omega⟩,?_⟩
        exact bH
      |false=>
       rw[hb] at hr;rw[hb,zy] at hij;rw[hij]
       conv=>whnf
       repeat' (first|refine gG (bO.fn (hr) ?_)|(refine gC ?_;first|refine cY ?_|refine cN ?_|refine .not ?_|(refine gD ?_;first|refine cI ?_|refine cJ ?_)|refine aj.le (λhc=>?_) (λhc=>?_))|refine gW (wI ?_)|refine gL (.map ?_)|(refine gI ?_;(refine gM ?_;first|refine iE ?_|refine iI λx hx=>?_))|refine ai.nrm ?_)<;>conv=>whnf
       all_goals rfl
     .rw [decide_eq_false h2,zy] at hij;rw[hij]
      have hxz:∀x,l[((i+1:Nat)-1:Int).toNat]? =some x->x=z:=λx hx=>by
       rw[show ((i+1:Nat)-1:Int).toNat=i by omega,hz] at hx
       cases hx;rfl
      conv=>whnf
      repeat' (first|(refine gC ?_;first|refine cY ?_|(refine gD ?_;first|refine cI ?_|refine cJ ?_)|refine aj.le (λhc=>?_) (λhc=>?_))|refine gW (wI ?_)|refine gL (.map ?_)|(refine gI ?_;(refine gM ?_;first|refine iE ?_|refine iI λx hx=>?_)))<;>conv=>whnf
      .conv=>whnf
       repeat' refine ai.nrm ?_<;>conv=>whnf
      .obtain rfl:=hxz x hx;omega
  .obtain ⟨hij,_⟩:=hij;rw[zk,stB] at hij;rw[hij]
   conv=>whnf
   repeat' (first|refine gC (gD (cJ ?_))|refine gL (.map ?_)|refine ai.nrm ?_)<;>conv=>whnf
   all_goals rfl
 .rw [decide_eq_false h5];refine Fun.of (dK (by simp) ?_) rfl rfl
  conv=>whnf
  repeat' (first|refine gC (gD (cI ?_))|refine gL (.map ?_)|refine ai.nrm ?_)<;>conv=>whnf
  all_goals rfl
def fT(bs:List Box)(q:Nat)(acc:List Ac)(its:List It):Prop:=bs[q]? =some (.cells [slA Ac.av acc,slA It.av its])
theorem AN{bs:List Box}{q:Nat}{acc:List Ac}{its:List It}(h:fT bs q acc its)(hl:its.length<=100000):AM.Sem Tryz.prog 33 [.ptr q 0] bs λr bs'=>r=slA It.av its/\bs'=bs:=by
 have hb:aa bs q=some [slA Ac.av acc,slA It.av its]:=by simp[aa,show bs[q]? =_ from h,Box.cs?]
 refine ew (by simp) ?_
 conv=>whnf
 try dsimp only
 repeat' (first|refine gC (cY ?_)|refine gN (nS ?_)|refine gB (.of (by assumption) ?_))<;>(conv=>whnf;try dsimp only)
 refine⟨_,au.refl _,.inr ?_⟩
 conv=>whnf
 exact⟨rfl,rfl⟩
theorem AO{bs:List Box}{q:Nat}{acc:List Ac}{its:List It}{b:List Bnd}(h:fT bs q acc its)(hl:its.length<=100000)(hN:∀i∈its,Tm.aD i.atom.args<=1000000):AM.Sem Tryz.prog 88 [.ptr q 0,.sl .no (b.map Bnd.av)] bs λr bs'=>r=.tup []/\bs'=bs.set q (.cells [slA Ac.av acc,slA It.av (ia b its)]):=by
 have hb:aa bs q=some [slA Ac.av acc,slA It.av its]:=by simp[aa,show bs[q]? =_ from h,Box.cs?]
 have hq:=(zB.1 h).1;refine ez (by simp) ?_
 conv=>whnf
 try dsimp only
 repeat' refine gC (cN ?_)<;>(conv=>whnf;try dsimp only)
 refine aJ.by (fb:=false) (λst_ (j:Nat)=>⟨[(0,.ptr q 0),(1,.sl .no (b.map Bnd.av)),(4,.sl (.own 3) ((ia b (its.take j)).map It.av)),(5,.int .i64 (j:Int))],bs,bs.length⟩) (λj=>j<=its.length) (λj=>its.length-j) 0 (zJ _) ?_ ?_
 .rw [ZM,show ia b []=[] from rfl,Ze];refine az.atS ?_ rfl rfl
  conv=>whnf
  repeat' (first|(refine gV ?_;first|refine vE ?_|refine vI ?_|refine gK (vC ?_))|exact True.intro)<;>conv=>whnf
 .intro j hj0
  by_cases hj:j<its.length
  .obtain ⟨i,hi⟩:∃i,its[j]? =some i:=⟨_,zA hj⟩;have hlj:(ia b (its.take j)).length=j:=by rw[ia,zF,zo];omega
   conv=>whnf
   try dsimp only
   repeat' (first|refine gG (bO.fn (rU b i.atom (hN i (zE hi))) ?_)|refine gC (gD (cI ?_))|refine gW (wI ?_)|refine gL (.map ?_)|refine gN (nS ?_)|refine gI (gM (iE ?_))|refine gB (.of (by assumption) ?_))<;>(conv=>whnf;try dsimp only)
   refine⟨j+1,⟨hj,by omega⟩,?_⟩
   rw[show ia b (its.take (j+1))=ia b (its.take j)++[nN b i] by rw[ZD,hi,ia,zw];rfl,zw]
   simp only[zQ,Ze,It.av,nN];refine az.atS ?_ rfl rfl
   conv=>whnf
   repeat' (first|(refine gV ?_;first|refine vE ?_|refine vI ?_)|exact True.intro)<;>conv=>whnf
  .obtain rfl:j=its.length:=by omega
   rw[ZA]
   conv=>whnf
   try dsimp only
   repeat' (first|refine gC (gD (cJ ?_))|refine gL (.map ?_)|refine gB (.of (by assumption) ?_))<;>(conv=>whnf;try dsimp only)
   refine⟨?_⟩
   conv=>whnf
   try dsimp only
   skip;refine ai.A0 1 (List.getElem?_set_self hq) rfl ?_;rw[List.set_set];exact⟨_,au.refl _,.inl ⟨rfl,rfl⟩⟩
theorem AL{bs:List Box}{q:Nat}{acc:List Ac}{its:List It}{id:Int}(h:fT bs q acc its)(hl:its.length<=100000)(ha:Asc its):AM.Sem Tryz.prog 140 [.ptr q 0,.int .i64 id] bs λr bs'=>r=.int .i64 (iz its id)/\bs'=bs:=by
 have hb:aa bs q=some [slA Ac.av acc,slA It.av its]:=by simp[aa,show bs[q]? =_ from h,Box.cs?]
 have hpos:∀j:Nat,j<=its.length->(∀(k:Nat) (x:It),k<j->its[k]? =some x->x.id<id)->(∀x,its[j]? =some x->¬x.id<id)->iz its id=j:=λj hj h1 h2=>by
  refine Ek h1 (λk x hk hx=>?_) hj;have hkl:=(zB.1 hx).1;have h3:=h2 _ (zA (show j<its.length by omega))
  rcases Nat.eq_or_lt_of_le hk with rfl|hk
  .rw [(zB.1 hx).2] at h3;omega
  .have:=uS ha (zA (show j<its.length by omega)) hx hk
   omega
 refine eu (by simp) ?_
 conv=>whnf
 try dsimp only
 skip;refine aJ.by (fb:=false) (λst_ (j:Nat)=>⟨[(0,.ptr q 0),(1,.int .i64 id),(5,.int .i64 (j:Int))],bs,bs.length⟩) (λj=>j<=its.length/\∀(k:Nat) (x:It),k<j->its[k]? =some x->x.id<id) (λj=>its.length-j) 0 ⟨zJ _,λk x h=>by omega⟩ ?_ ?_
 .refine az.atS ?_ rfl rfl
  conv=>whnf
  repeat' (first|(refine gV ?_;first|refine vE ?_|refine vI ?_)|exact True.intro)<;>conv=>whnf
 .rintro j ⟨q1,q2⟩
  by_cases hj:j<its.length
  .obtain ⟨i,hi⟩:∃i,its[j]? =some i:=⟨_,zA hj⟩
   by_cases hid:i.id<id
   .conv=>whnf
    try dsimp only
    repeat' (first|refine gC (gD (cI ?_))|refine gW (wI ?_)|refine gL (.map ?_)|refine gI (gM (iE ?_))|refine gB (.of (by assumption) ?_))<;>(conv=>whnf;try dsimp only)
    refine⟨j+1,⟨⟨hj,λk x hk hx=>?_⟩,by omega⟩,?_⟩
    .by_cases e:k=j
     .subst e;rw[hi] at hx;cases hx;exact hid
     .exact q2 k x (by omega) hx
    refine az.atS ?_ rfl rfl
    conv=>whnf
    repeat' (first|(refine gV ?_;first|refine vE ?_|refine vI ?_)|exact True.intro)<;>conv=>whnf
   .rw [hpos j q1 q2 λx hx=>by rw[hi] at hx;cases hx;exact hid]
    conv=>whnf
    try dsimp only
    repeat' (first|(refine gC ?_;(refine gD ?_;first|refine cI ?_|refine cJ ?_))|refine gL (.map ?_)|refine gI (gM (iE ?_))|refine gB (.of (by assumption) ?_))<;>(conv=>whnf;try dsimp only)
    exact ai.slot ⟨rfl,rfl⟩
  .obtain rfl:j=its.length:=by omega
   rw[hpos its.length q1 q2 λx hx=>by simp at hx]
   conv=>whnf
   try dsimp only
   repeat' (first|(refine gC ?_;first|refine cN ?_|refine gD (cJ ?_))|refine gL (.map ?_)|refine gB (.of (by assumption) ?_))<;>(conv=>whnf;try dsimp only)
   exact ai.slot ⟨rfl,rfl⟩
end Go.CK
namespace Go.CK
open Go.AM Go.Proofs
mutual
def Tm.nmo:Tm->Prop
 |.mk _ _ s l=>s.size<=300/\Tm.j9 l
def Tm.j9:List Tm->Prop
 |[]=>True
 |t::l=>Tm.nmo t/\Tm.j9 l
end
theorem Tm.A2:∀{l:List Tm},Tm.j9 l↔∀t∈l,t.nmo
 |[]=>by simp[Tm.j9]
 |a::l=>by simp only[Tm.j9,Tm.A2 (l:=l),zI,forall_eq_or_imp]
structure SzI(n:Nat)(i:It):Prop where
 io:Tm.ios i.atom.args
 nm:Tm.j9 i.atom.args
 nodes:Tm.aD i.atom.args<=n
theorem SzI.mono{n m:Nat}{i:It}(h:SzI n i)(hm:n<=m):SzI m i:=⟨h.io,h.nm,ZP h.nodes hm⟩
theorem E3(t:Tm):t.io->t.nmo->t.nodes<=1000000->(bT t).length<=400*t.nodes:=by
 induction t using Tm.bu with
 |h k m s l ih=>
  intro hio hnm hN;rw[Tm.nodes] at hN
  have hl:∀(r:List Tm),(∀t∈r,t∈l)->Tm.ios r->Tm.j9 r->Tm.aD r<=1000000->(bh r).length<=400*Tm.aD r:=λr=>by
   induction r with
   |nil=>intro _ _ _ _;simp[bh,Tm.aD]
   |cons t r ihr=>
    intro hm h1 h2 hn;rw[Tm.aD] at hn;have h3:=ih t (hm t (by simp)) h1.1 h2.1 (by omega)
    have h4:=ihr (λx hx=>hm x (by simp[hx])) h1.2 h2.2 (by omega)
    rw[bh,zC,Tm.aD];omega
  have h5:=hl l (λt h=>h) hio.2.2 hnm.2 (by omega)
  have hs:s.size<=300:=hnm.1;have w1:=Ag s (by omega)
  have n1:=dh (t:=105) hio.2.1;have n2:=dh (t:=118) hio.2.1;have n3:=dh (t:=107) hio.1;have n4:=dh (t:=110) hio.2.1;have hll:=cD l;have n5:=dh (t:=102) (n:=l.length) ⟨by omega,by omega⟩
  rw[bT,Tm.nodes];split
  .omega
  .split
   .omega
   .split
    .simp only[zC];omega
    .simp only[zC];omega
theorem JY(t:Tm):∀left deep:Int,left<=30->0<=t.wgh left deep->t.nmo/\(t.nodes:Int)<=left-t.wgh left deep:=by
 induction t using Tm.bu with
 |h k m s l ih=>
  have hl:∀(r:List Tm),(∀t∈r,t∈l)->∀left deep:Int,left<=30->0<=left->0<=Tm.dJ r left deep->Tm.j9 r/\(Tm.aD r:Int)<=left-Tm.dJ r left deep:=λr=>by
   induction r with
   |nil=>intro _ left deep h0 h1 h2;refine⟨trivial,?_⟩;simp only[Tm.dJ,Tm.aD] at*;omega
   |cons t r ihr=>
    intro hm left deep h0 h1 h2;rw[Tm.dJ,if_neg (by omega)] at h2|-
    by_cases h3:0<=t.wgh left deep
    .have h4:=ih t (hm t (by simp)) left deep h0 h3
     have h6:=sH t left deep (by omega)
     have h5:=ihr (λx hx=>hm x (by simp[hx])) (t.wgh left deep) deep (by omega) h3 h2
     rw[Tm.aD,Tm.j9];exact⟨⟨h4.1,h5.1⟩,by omega⟩
    .rw [mT _ (by omega)] at h2;omega
  intro left deep h0 h;rw[Tm.wgh] at h|-;have h8:=pg s.size;split at h
  .omega
  .rename_i hc;rw[if_neg hc];have h2:=hl l (λt h=>h) (left-1-(s.size:Int).tdiv 8) (deep-1) (by omega) (by omega) h
   rw[Tm.nodes,Tm.nmo];exact⟨⟨by omega,h2.1⟩,by omega⟩
theorem Ai{l:List Tm}{left deep:Int}(h0:left<=30)(h:0<=bg l left deep):Tm.j9 l/\(Tm.aD l:Int)<=left:=by
 by_cases hc:deep=0\/left<l.length
 .rw [bg,if_pos hc] at h;omega
 .rw [bg,if_neg hc] at h
  have:∀(r:List Tm),∀left:Int,left<=30->0<=left->0<=Tm.dJ r left deep->Tm.j9 r/\(Tm.aD r:Int)<=left-Tm.dJ r left deep:=λr=>by
   induction r with
   |nil=>intro left h0 h1 h2;refine⟨trivial,?_⟩;simp only[Tm.dJ,Tm.aD] at*;omega
   |cons t r ihr=>
    intro left h0 h1 h2;rw[Tm.dJ,if_neg (by omega)] at h2|-
    by_cases h3:0<=t.wgh left deep
    .have h4:=JY t left deep h0 h3;have h6:=sH t left deep (by omega)
     have h5:=ihr (t.wgh left deep) (by omega) h3 h2
     rw[Tm.aD,Tm.j9];exact⟨⟨h4.1,h5.1⟩,by omega⟩
    .rw [mT _ (by omega)] at h2;omega
  have:=this l left h0 (by omega) h
  exact⟨this.1,by omega⟩
theorem sq{i:It}(h:iX i=true)(hio:Tm.ios i.atom.args):SzI 30 i:=by
 have h1:=DC h;have h8:=pg i.atom.name.size;have:=Ai (by omega) h1
 exact⟨hio,this.1,by omega⟩
structure SzB(b:List Bnd):Prop where
 len:b.length<=6
 each:∀x∈b,x.t.nodes<=4/\x.t.nmo/\x.t.io
theorem Be:∀{b:List Bnd} {v:Int} {t:Tm},bC b v=some t->∃x∈b,x.t=t
 |y::b,v,t,h=>by
  rw[bC] at h;split at h
  .cases h;exact⟨y,by simp,rfl⟩
  .obtain ⟨x,h1,h2⟩:=Be h;exact⟨x,by simp[h1],h2⟩
theorem JB{b:List Bnd}(hb:SzB b)(t:Tm):t.nmo->t.io->(cV b t).nodes<=4*t.nodes/\(cV b t).nmo/\(cV b t).io:=by
 induction t using Tm.bu with
 |h k n s l ih=>
  intro hnm hio
  have hl:∀(r:List Tm),(∀t∈r,t∈l)->Tm.j9 r->Tm.ios r->Tm.aD (r.map (cV b))<=4*Tm.aD r/\Tm.j9 (r.map (cV b))/\Tm.ios (r.map (cV b)):=λr=>by
   induction r with
   |nil=>intro _ _ _;simp[Tm.aD,Tm.j9,Tm.ios]
   |cons t r ihr=>
    intro hm h1 h2;obtain⟨a1,a2,a3⟩:=ih t (hm t (by simp)) h1.1 h2.1
    obtain⟨b1,b2,b3⟩:=ihr (λx hx=>hm x (by simp[hx])) h1.2 h2.2
    rw[zQ,Tm.aD,Tm.aD,Tm.j9,Tm.ios];exact⟨by omega,⟨a2,b2⟩,a3,b3⟩
  by_cases h1:k=1
  .rw [Ab (t:=.mk k n s l) h1];have hp:=Tm.v8 (.mk k n s l)
   cases hk:bC b (Tm.num (.mk k n s l)) with
   |none=>exact⟨by dsimp only;omega,hnm,hio⟩
   |some x=>
    obtain⟨y,hy,rfl⟩:=Be hk;obtain⟨c1,c2,c3⟩:=hb.each y hy;exact⟨by dsimp only;omega,c2,c3⟩
  .by_cases h2:k=2
   .rw [Aa (t:=.mk k n s l) h2];obtain⟨c1,c2,c3⟩:=hl l (λt h=>h) hnm.2 hio.2.2;simp only[Tm.kind,Tm.num,Tm.name,Tm.args,Tm.nodes,Tm.nmo,Tm.io];exact⟨by omega,⟨hnm.1,c2⟩,hio.1,hio.2.1,c3⟩
   .rw [z8 (t:=.mk k n s l) h1 h2];exact⟨by omega,hnm,hio⟩
theorem Cn{b:List Bnd}(hb:SzB b):∀{l:List Tm},Tm.j9 l->Tm.ios l->Tm.aD (l.map (cV b))<=4*Tm.aD l/\Tm.j9 (l.map (cV b))/\Tm.ios (l.map (cV b))
 |[],_,_=>by simp[Tm.aD,Tm.j9,Tm.ios]
 |t::r,h1,h2=>by
  obtain⟨a1,a2,a3⟩:=JB hb t h1.1 h2.1;obtain⟨b1,b2,b3⟩:=Cn hb h1.2 h2.2;rw[zQ,Tm.aD,Tm.aD,Tm.j9,Tm.ios];exact⟨by omega,⟨a2,b2⟩,a3,b3⟩
theorem SzI.app{n:Nat}{i:It}{b:List Bnd}(h:SzI n i)(hb:SzB b):SzI (4*n) (nN b i):=by
 obtain⟨h1,h2,h3⟩:=Cn hb h.nm h.io;exact⟨h3,h2,by have:=h.nodes;show Tm.aD (i.atom.args.map (cV b))<=_;omega⟩
theorem xz{o:cP}(h:ly o=true)(hio:∀x∈o.binds,x.t.io):SzB o.binds:=by
 simp only[ly,zD,decide_eq_true_eq,zT] at h;refine⟨h.1,λx hx=>?_⟩;have h1:=h.2.2.2 x hx;simp only[p7,zc,decide_eq_false_iff_not] at h1;have h2:=Ai (by omega) (Int.not_lt.1 h1)
 rw[Tm.j9,Tm.aD,Tm.aD] at h2;exact⟨by omega,h2.1.1,hio x hx⟩
structure SzL(n m:Nat)(l:List It):Prop where
 asc:Asc l
 few:l.length<=m
 each:∀i∈l,SzI n i
theorem SzL.mono{n m n' m':Nat}{l:List It}(h:SzL n m l)(hn:n<=n')(hm:m<=m'):SzL n' m' l:=⟨h.asc,ZP h.few hm,λi hi=>(h.each i hi).mono hn⟩
theorem SzI.ent{n:Nat}{i:It}{acc:List Ac}(h:SzI n i)(hn:n<=10000)(hr:∀c∈acc,c.right=true)(ha:∀c∈acc,jh c=true):rP acc i:=by
 refine⟨h.io,λc hc hh=>sB (hr c hc) hh,λc hc hh=>?_,by have:=h.nodes;omega⟩
 have hp:c.positions.length<=10:=by
  have:=ha c hc;simp only[jh,zD,decide_eq_true_eq] at this;exact this.2
 have hpos:=sB (hr c hc) hh
 have h2:=oH (l:=keyOf c i.atom.args) (n:=4000000) λt ht=>by
  obtain⟨p,hp,rfl⟩:=zl.1 ht;obtain⟨p0,p1⟩:=hpos p hp;have hlt:p.toNat<i.atom.args.length:=by omega
  have hm:i.atom.args.getD p.toNat tm0∈i.atom.args:=by
   rw[List.getD_eq_getElem?_getD,zA hlt];exact zd hlt
  have h3:=lj hm;have h4:=h.nodes;have:=E3 _ (Tm.jr.1 h.io _ hm) (Tm.A2.1 h.nm _ hm) (by omega)
  omega
 have h3:(keyOf c i.atom.args).length=c.positions.length:=by simp[keyOf]
 rw[h3] at h2;have:c.positions.length*4000000<=10*4000000:=ZF _ hp;omega
theorem SzL.all{n m:Nat}{l:List It}{acc:List Ac}(h:SzL n m l)(hn:n<=10000)(hm:m<=100000)(hr:∀c∈acc,c.right=true)(ha:∀c∈acc,jh c=true)(hal:acc.length<=1000000):c7 acc l:=
 ⟨h.asc,by have:=h.few;omega,λi hi=>(h.each i hi).ent hn hr ha,hal,λc hc=>by
  have:=ha c hc;simp only[jh,zD,decide_eq_true_eq] at this;omega⟩
theorem SzL.app{n m:Nat}{l:List It}{b:List Bnd}(h:SzL n m l)(hb:SzB b):SzL (4*n) m (ia b l):=by
 refine⟨?_,by rw[ia,zF];exact h.few,λi hi=>?_⟩
 .exact List.pairwise_map.2 h.asc
 .obtain ⟨x,hx,rfl⟩:=zl.1 hi;exact(h.each x hx).app hb
theorem SzL.del{n m:Nat}{l:List It}(h:SzL n m l)(id:Int):SzL n m (dN l id):=
 ⟨BP h.asc id,ZP (yB _ _) h.few,λi hi=>h.each i (zp.1 hi).1⟩
theorem EZ(t:Tm):t.vs.length<=t.nodes:=by
 induction t using Tm.bu with
 |h k n s l ih=>
  have hl:∀(r:List Tm),(∀t∈r,t∈l)->(Tm.vss r).length<=Tm.aD r:=λr=>by
   induction r with
   |nil=>intro _;simp[Tm.vss,Tm.aD]
   |cons t r ihr=>
    intro hm;have h3:=ih t (hm t (by simp))
    have h4:=ihr (λx hx=>hm x (by simp[hx]))
    rw[Tm.vss,zC,Tm.aD];omega
  have:=hl l λt h=>h;rw[Tm.vs,Tm.nodes];split
  .simp
  .split
   .omega
   .simp
theorem sJ:∀(l:List Tm),(Tm.vss l).length<=Tm.aD l
 |[]=>by simp[Tm.vss,Tm.aD]
 |t::r=>by
  have h3:=EZ t;have h4:=sJ r;rw[Tm.vss,zC,Tm.aD];omega
def od(c:Ac)(x:At)(key:List Tm):Bool:=c.has x.name x.args&&(decide (key.length=c.positions.length)&&decide (Tm.gg (keyOf c x.args) key=0))
theorem lr(c:Ac)(args:List Tm):(keyOf c args).length=c.positions.length:=by simp[keyOf]
theorem II{l m:List Tm}:dw l=dw m↔bh l=bh m:=by
 unfold dw;constructor
 .intro h;have:=congrArg (λx:ByteArray=>x.data.toList) h;simpa using this
 .intro h;rw[h]
theorem Jl{c:Ac}{x:At}{key:List Tm}(hl:key.length=c.positions.length):od c x key=(c.has x.name x.args&&decide (dw (keyOf c x.args)=dw key)):=by
 unfold od;rw[decide_eq_true hl,zb];congr 1;have hk:(keyOf c x.args).length=key.length:=by rw[lr,hl]
 rw[decide_eq_decide,il hk,II,E5 hk]
def ot(acc:List Ac)(its:List It)(k:Int)(key:List Tm):List Int:=
 if 0<=k then match acc[k.toNat]? with
  |some c=>(its.filter λi=>od c i.atom key).map It.id
  |none=>[]
 else []
theorem find_eq(acc:List Ac)(its:List It)(k:Int)(key:List Tm):js acc its k key=ot acc its k key:=by
 unfold js ot;split
 .cases acc[k.toNat]? with
  |none=>rfl
  |some c=>
   simp only;split
   .rename_i hl;unfold sel;congr 1;refine Zp λi _=>?_;rw[Jl hl]
   .rename_i hl
    have:its.filter (λi=>od c i.atom key)=[]:=List.filter_eq_nil_iff.2 λi _=>by
     unfold od;rw[decide_eq_false hl];simp
    rw[this];rfl
 .rfl
end Go.CK
namespace Go.CK
open Go.AM Go.Proofs
theorem LN{a:Ac}(hl:a.positions.length<=10000000):Fun Tryz.prog 84 [a.av] (.bool a.right):=by
 have hn:=vO a.name;unfold Ac.right;refine Fun.of (LK (by simp) ?_) rfl rfl
 conv=>whnf
 skip;refine aJ.count (fb:=true) (a.positions.length) (λst_ j=>st_.oK [(3,.int .i64 j)]) (λj=>AT a.arity (-1) a.positions=AT a.arity (wo a.positions j) (a.positions.drop j)/\-1<=wo a.positions j) ?_ ?_ (λj hj hij=>?_) (λhij=>?_)
 .exact ⟨rfl,Int.le_refl _⟩
 .exact bH
 .obtain ⟨y,hy⟩:∃y,a.positions[j]? =some y:=⟨_,zA hj⟩;obtain⟨hij,hla0⟩:=hij;rw[zH hj,(zB.1 hy).2,AT] at hij;have hla:wo a.positions (j+1)=y:=by simp[wo,hy]
  have fin:AT a.arity (-1) a.positions=false->(fO a.name&&(decide (0<=a.arity)&&(decide (a.arity<=6)&&AT a.arity (-1) a.positions)))=false:=λe=>by rw[e,Bool.and_false,Bool.and_false,Bool.and_false]
  by_cases h0:y<0
  .rw [decide_eq_false (by omega),zy] at hij
   rw[fin hij]
   conv=>whnf
   repeat' (first|(refine gC ?_;first|refine cY ?_|refine gD (cI ?_))|refine gL (.map ?_)|refine gI (gM (iE ?_))|refine ai.nrm ?_)<;>conv=>whnf
   all_goals rfl
  .by_cases h1:a.arity<=y
   .rw [decide_eq_false (show¬y<a.arity by omega),zy,Bool.and_false] at hij
    rw[fin hij]
    conv=>whnf
    repeat' (first|(refine gC ?_;first|refine cY ?_|(refine gD ?_;first|refine cI ?_|refine cJ ?_))|refine gL (.map ?_)|refine gI (gM (iE ?_))|refine ai.nrm ?_)<;>conv=>whnf
    all_goals rfl
   .rw [decide_eq_true (show y<a.arity by omega),zb] at hij
    cases j with
    |zero=>
     rw[show wo a.positions 0=-1 from rfl] at hij hla0;rw[decide_eq_true (by omega),zb] at hij
     conv=>whnf
     repeat' (first|(refine gC ?_;first|refine cN ?_|(refine gD ?_;first|refine cI ?_|refine cJ ?_))|refine gW (wI ?_)|refine gL (.map ?_)|refine gI (gM (iE ?_)))<;>conv=>whnf
     refine⟨⟨by rw[hla];exact hij,by rw[hla];omega⟩,?_⟩
     exact bH
    |succ i=>
     obtain⟨z,hz⟩:∃z,a.positions[i]? =some z:=⟨_,zA (by omega)⟩
     have hlz:wo a.positions (i+1)=z:=by simp[wo,hz]
     rw[hlz] at hij hla0
     have hxz:∀x,a.positions[((i+1:Nat)-1:Int).toNat]? =some x->x=z:=λx hx=>by
      rw[show ((i+1:Nat)-1:Int).toNat=i by omega,hz] at hx
      cases hx;rfl
     by_cases h2:z<y
     .rw [decide_eq_true h2,zb] at hij
      conv=>whnf
      repeat' (first|(refine gC ?_;first|(refine gD ?_;first|refine cI ?_|refine cJ ?_)|refine aj.le (λhc=>?_) (λhc=>?_))|refine gW (wI ?_)|refine gL (.map ?_)|(refine gI ?_;(refine gM ?_;first|refine iE ?_|refine iI λx hx=>?_)))<;>conv=>whnf
      .obtain rfl:=hxz x hx;omega
      .refine ⟨⟨by rw[hla];exact hij,by rw[hla];omega⟩,?_⟩
       exact bH
     .rw [decide_eq_false h2,zy] at hij;rw[fin hij]
      conv=>whnf
      repeat' (first|(refine gC ?_;first|(refine gD ?_;first|refine cI ?_|refine cJ ?_)|refine aj.le (λhc=>?_) (λhc=>?_))|refine gW (wI ?_)|refine gL (.map ?_)|(refine gI ?_;(refine gM ?_;first|refine iE ?_|refine iI λx hx=>?_)))<;>conv=>whnf
      .conv=>whnf
       repeat' refine ai.nrm ?_<;>conv=>whnf
      .obtain rfl:=hxz x hx;omega
 .obtain ⟨hij,_⟩:=hij;rw[zk,AT] at hij;rw[hij,Bool.and_true]
  cases hb:fO a.name with
  |false=>
   rw[hb] at hn
   conv=>whnf
   repeat' (first|refine gF (ah.fn (hn) ?_)|(refine gC ?_;first|refine cN ?_|refine gD (cJ ?_))|refine gL (.map ?_)|refine ai.nrm ?_)<;>conv=>whnf
   all_goals rfl
  |true=>
   rw[hb] at hn
   by_cases h0:0<=a.arity
   .by_cases h6:a.arity<=6
    .rw [decide_eq_true h0]
     conv=>whnf
     repeat' (first|refine gF (ah.fn (hn) ?_)|(refine gC ?_;first|refine cY ?_|(refine gD ?_;first|refine cI ?_|refine cJ ?_))|refine gL (.map ?_)|refine ai.nrm ?_)<;>conv=>whnf
     all_goals simp[h6]
    .conv=>whnf
     repeat' (first|refine gF (ah.fn (hn) ?_)|(refine gC ?_;first|refine cY ?_|(refine gD ?_;first|refine cI ?_|refine cJ ?_))|refine gL (.map ?_)|refine ai.nrm ?_)<;>conv=>whnf
     all_goals simp[h6]
   .rw [decide_eq_false h0]
    conv=>whnf
    repeat' (first|refine gF (ah.fn (hn) ?_)|(refine gC ?_;first|refine cY ?_|refine gD (cJ ?_))|refine gL (.map ?_)|refine ai.nrm ?_)<;>conv=>whnf
    all_goals rfl
theorem Jt{l:List It}{id:Int}(h:∀x∈l,x.id≠id):dN l id=l/\hO l id=false:=
 ⟨yF.2 λx hx=>by simp[h x hx],List.any_eq_false.2 λx hx=>by simp[h x hx]⟩
theorem xO{l:List It}{id:Int}(ha:Asc l)(hl:l.length<=100000):Fun Tryz.prog 141 [slA It.av l,.int .i64 id] (.tup [slA It.av (dN l id),.bool (hO l id)]):=by
 refine Fun.of (jd (by simp) ?_) rfl rfl
 conv=>whnf
 skip;refine aJ.count (fb:=true) (l.length) (λst_ j=>st_.oK [(6,.int .i64 j)]) (λj=>∀(k:Nat) (x:It),k<j->l[k]? =some x->x.id≠id) ?_ ?_ (λj hj hij=>?_) (λhij=>?_)
 .exact λk x h=>by omega
 .exact bH
 .obtain ⟨x,hx⟩:∃x,l[j]? =some x:=⟨_,zA hj⟩
  by_cases hid:x.id=id
  .subst hid;have h1:hO l x.id=true:=List.any_eq_true.2 ⟨x,zE hx,by simp⟩
   rw[yu ha hx,h1]
   conv=>whnf
   repeat' (first|refine gC (gD (cI ?_))|refine gW (wI ?_)|refine gL (.map ?_)|refine gN (nS ?_)|refine gI (gM (iE ?_))|refine ai.nrm ?_)<;>conv=>whnf
   rw[show ((j:Int)+1).toNat=j+1 by omega]
   simp[slA,zm]
  .conv=>whnf
   repeat' (first|(refine gC ?_;(refine gD ?_;first|refine cI ?_|refine cJ ?_))|refine gW (wI ?_)|refine gL (.map ?_)|refine gI (gM (iE ?_)))<;>conv=>whnf
   refine⟨λk y hk hy=>?_,?_⟩
   .by_cases e:k=j
    .subst e;rw[hx] at hy;cases hy;exact hid
    .exact hij k y (by omega) hy
   exact bH
 .obtain ⟨h1,h2⟩:=Jt (l:=l) (id:=id) λx hx=>by
   obtain⟨k,hk⟩:=ZT hx;exact hij k x (zB.1 hk).1 hk
  rw[h1,h2]
  conv=>whnf
  repeat' (first|refine gC (gD (cJ ?_))|refine gL (.map ?_)|refine ai.nrm ?_)<;>conv=>whnf
  all_goals rfl
theorem HG{c:Ac}{x:At}{key:List Tm}(hp:c.has x.name x.args=true->vV c x.args)(hl:key.length<=100000)(hal:x.args.length<=100000):Fun Tryz.prog 142 [c.av,x.av,slA Tm.av key] (.bool (od c x key)):=by
 have hno:c.has x.name x.args=false->od c x key=false:=λh=>by rw[od,h,zy]
 by_cases h1:x.name=c.name
 .by_cases h2:(x.args.length:Int)=c.arity
  .have hh:c.has x.name x.args=true:=by simp[Ac.has,h1,h2]
   by_cases h3:key.length=c.positions.length
   .have hps:=hp hh;have hpl:c.positions.length<=100000:=by omega
    rw[od,hh,zb,decide_eq_true h3,zb];have hkl:=lr c x.args;refine Fun.of (bI (by simp) ?_) rfl rfl
    conv=>whnf
    repeat' (first|(refine gC ?_;first|refine .not ?_|refine gD (cI ?_))|refine gL (.map ?_))<;>conv=>whnf
    refine aJ.by (fb:=true) (λ_ (j:Nat)=>⟨[(2,slA Tm.av key),(3,.ptr 0 0),(4,.ptr 1 0),(7,.int .i64 (j:Int))],[.cells [.str c.name,.int .i64 c.arity,slA bF c.positions],.cells [.str x.name,.sl .no (x.args.map Tm.av)]],0⟩) (λj=>j<=key.length/\∀(k:Nat) (a b:Tm),k<j->(keyOf c x.args)[k]? =some a->key[k]? =some b->a.cmp b=0) (λj=>key.length-j) 0 ⟨zJ _,λk a b h=>by omega⟩ ?_ ?_
    .exact bH
    .rintro j ⟨q1,q2⟩
     by_cases hj:j<key.length
     .obtain ⟨y,hy⟩:∃y,key[j]? =some y:=⟨_,zA hj⟩;obtain⟨n,hn⟩:∃n,c.positions[j]? =some n:=⟨_,zA (by omega)⟩
      obtain⟨n0,n1⟩:=hps n (zE hn);obtain⟨a,ha⟩:∃a,x.args[n.toNat]? =some a:=⟨_,zA (by omega)⟩
      have hka:(keyOf c x.args)[j]? =some a:=by
       rw[keyOf,ZG,hn,zM,List.getD_eq_getElem?_getD,ha];rfl
      have hs:=GL a y
      by_cases hay:a.cmp y=0
      .rw [decide_eq_true hay] at hs
       conv=>whnf
       repeat' (first|refine gG (bO.fn (hs) ?_)|(refine gC ?_;first|refine cY ?_|refine .not ?_|refine gD (cI ?_))|refine gW (wI ?_)|refine gL (.map ?_)|(refine gI ?_;first|(refine gT ?_;first|refine iA ?_|refine iB ?_)|refine gM (iE ?_)))<;>conv=>whnf
       refine⟨j+1,⟨⟨hj,λk u v hk hu hv=>?_⟩,by omega⟩,?_⟩
       .by_cases e:k=j
        .subst e;rw[hka] at hu;rw[hy] at hv;cases hu;cases hv;exact hay
        .exact q2 k u v (by omega) hu hv
       exact bH
      .rw [decide_eq_false hay] at hs;have e:decide (Tm.gg (keyOf c x.args) key=0)=false:=decide_eq_false λh=>hay ((il (by omega)).1 h j a y hka hy)
       rw[e]
       conv=>whnf
       repeat' (first|refine gG (bO.fn (hs) ?_)|(refine gC ?_;first|refine cN ?_|refine .not ?_|refine gD (cI ?_))|refine gL (.map ?_)|(refine gI ?_;first|(refine gT ?_;first|refine iA ?_|refine iB ?_)|refine gM (iE ?_))|refine ai.nrm ?_)<;>conv=>whnf
       all_goals rfl
     .obtain rfl:j=key.length:=by omega
      have e:decide (Tm.gg (keyOf c x.args) key=0)=true:=decide_eq_true ((il (by omega)).2 λk a b ha hb=>q2 k a b (zB.1 hb).1 ha hb)
      rw[e]
      conv=>whnf
      repeat' (first|refine gC (gD (cJ ?_))|refine gL (.map ?_)|refine ai.nrm ?_)<;>conv=>whnf
      all_goals rfl
   .have e:od c x key=false:=by rw[od,hh,zb,decide_eq_false h3,zy]
    rw[e];refine Fun.of (bI (by simp) ?_) rfl rfl
    conv=>whnf
    repeat' (first|(refine gC ?_;first|refine .not ?_|(refine gD ?_;first|refine cI ?_|refine cJ ?_))|refine gL (.map ?_)|refine ai.nrm ?_)<;>conv=>whnf
    all_goals rfl
  .rw [hno (by rw[Ac.has,decide_eq_false (λe:c.arity=_=>h2 e.symm),Bool.and_false])]
   refine Fun.of (bI (by simp) ?_) rfl rfl
   conv=>whnf
   repeat' (first|(refine gC ?_;first|refine cY ?_|refine .not ?_|(refine gD ?_;first|refine cI ?_|refine cJ ?_))|refine gL (.map ?_)|refine ai.nrm ?_)<;>conv=>whnf
   all_goals rfl
 .rw [hno (by rw[Ac.has,decide_eq_false (λe=>h1 e.symm),zy])]
  refine Fun.of (bI (by simp) ?_) rfl rfl
  conv=>whnf
  repeat' (first|(refine gC ?_;first|refine cY ?_|refine .not ?_|refine gD (cJ ?_))|refine ai.nrm ?_)<;>conv=>whnf
  all_goals rfl
theorem xQ{bs:List Box}{q:Nat}{acc:List Ac}{its:List It}{id:Int}(h:fT bs q acc its)(hl:its.length<=100000)(ha:Asc its):AM.Sem Tryz.prog 86 [.ptr q 0,.int .i64 id] bs λr bs'=>r=.bool (hO its id)/\bs'=bs.set q (.cells [slA Ac.av acc,slA It.av (dN its id)]):=by
 have hb:aa bs q=some [slA Ac.av acc,slA It.av its]:=by simp[aa,show bs[q]? =_ from h,Box.cs?]
 have hr:=xO (id:=id) ha hl;refine dY (by simp) ?_
 conv=>whnf
 try dsimp only
 repeat' (first|refine gF (ah.fn (hr) ?_)|refine gC (cN ?_)|refine gB (.of (by assumption) ?_))<;>(conv=>whnf;try dsimp only)
 refine⟨?_⟩
 conv=>whnf
 try dsimp only
 skip;exact ai.slot ⟨rfl,rfl⟩
theorem CZ{bs:List Box}{q:Nat}{acc:List Ac}{its:List It}{k:Int}{key:List Tm}(h:fT bs q acc its)(ha:c7 acc its)(hl:key.length<=100000)(hal:∀i∈its,i.atom.args.length<=100000):AM.Sem Tryz.prog 87 [.ptr q 0,.int .i64 k,slA Tm.av key] bs λr bs'=>r=slA bF (ot acc its k key)/\bs'=bs:=by
 have hb:aa bs q=some [slA Ac.av acc,slA It.av its]:=by simp[aa,show bs[q]? =_ from h,Box.cs?]
 have hacc:=ha.accs;have hfew:=ha.few;refine eK (by simp) ?_
 by_cases h0:0<=k
 .by_cases h1:k<acc.length
  .obtain ⟨c,hc⟩:∃c,acc[k.toNat]? =some c:=⟨_,zA (by omega)⟩
   have e:ot acc its k key=(its.filter λi=>od c i.atom key).map It.id:=by rw[ot,if_pos h0,hc]
   rw[e]
   conv=>whnf
   try dsimp only
   repeat' (first|(refine gC ?_;first|refine cN ?_|refine gD (cJ ?_))|refine gL (.map ?_)|refine gB (.of (by assumption) ?_))<;>(conv=>whnf;try dsimp only)
   refine aJ.by (fb:=false) (λst_ (j:Nat)=>⟨[(0,.ptr q 0),(1,.int .i64 k),(2,slA Tm.av key),(7,.sl (.own 1) ((((its.take j).filter λi=>od c i.atom key).map It.id).map bF)),(8,.int .i64 (j:Int))],bs,bs.length⟩) (λj=>j<=its.length) (λj=>its.length-j) 0 (zJ _) ?_ ?_
   .rw [ZM,List.filter_nil,Ze,Ze];refine az.atS ?_ rfl rfl
    conv=>whnf
    repeat' (first|(refine gV ?_;first|refine vE ?_|refine vI ?_|refine gK (vC ?_))|exact True.intro)<;>conv=>whnf
   .intro j hj0
    by_cases hj:j<its.length
    .obtain ⟨i,hi⟩:∃i,its[j]? =some i:=⟨_,zA hj⟩;have him:=zE hi;have hh:=HG (c:=c) (x:=i.atom) (key:=key) (λh=>(ha.ent i him).pos c (zE hc) h) hl (hal i him)
     have hlj:((((its.take j).filter λi=>od c i.atom key).map It.id).map bF).length+[AV.int .i64 i.id].length<=glim:=by
      have:=yB (λi:It=>od c i.atom key) (its.take j);rw[zo] at this;simp only[zF,zV];first|(unfold glim;omega)|(unfold lim;omega)
     have htk:its.take (j+1)=its.take j++[i]:=by rw[ZD,hi];rfl
     cases hb2:od c i.atom key with
     |true=>
      rw[hb2] at hh
      conv=>whnf
      try dsimp only
      repeat' (first|refine gG (bO.fn (hh) ?_)|(refine gC ?_;first|refine cY ?_|refine gD (cI ?_))|refine gW (wI ?_)|refine gL (.map ?_)|refine gN (nS ?_)|(refine gI ?_;(refine gM ?_;first|refine iE ?_|refine iF ?_))|refine gB (.of (by assumption) ?_))<;>(conv=>whnf;try dsimp only)
      refine⟨j+1,⟨hj,by omega⟩,?_⟩
      rw[htk,yO,yP (by simpa using hb2),List.filter_nil,zw,zw]
      refine az.atS ?_ rfl rfl
      conv=>whnf
      repeat' (first|(refine gV ?_;first|refine vE ?_|refine vI ?_|(refine WkN.sl ?_ ?_;(focus (simp[AV.norm,AV.bG,];done))))|exact True.intro)<;>conv=>whnf
     |false=>
      rw[hb2] at hh
      conv=>whnf
      try dsimp only
      repeat' (first|refine gG (bO.fn (hh) ?_)|(refine gC ?_;first|refine cN ?_|refine gD (cI ?_))|refine gW (wI ?_)|refine gL (.map ?_)|(refine gI ?_;(refine gM ?_;first|refine iE ?_|refine iF ?_))|refine gB (.of (by assumption) ?_))<;>(conv=>whnf;try dsimp only)
      refine⟨j+1,⟨hj,by omega⟩,?_⟩
      rw[htk,yO,Zv (by simp[hb2]),List.filter_nil,zz]
      refine az.atS ?_ rfl rfl
      conv=>whnf
      repeat' (first|(refine gV ?_;first|refine vE ?_|refine vI ?_)|exact True.intro)<;>conv=>whnf
    .obtain rfl:j=its.length:=by omega
     rw[ZA]
     conv=>whnf
     try dsimp only
     repeat' (first|refine gC (gD (cJ ?_))|refine gL (.map ?_)|refine gB (.of (by assumption) ?_))<;>(conv=>whnf;try dsimp only)
     refine⟨_,au.refl _,.inr ?_⟩
     conv=>whnf
     exact⟨rfl,rfl⟩
  .have e:ot acc its k key=[]:=by rw[ot,if_pos h0,zS (by omega)]
   rw[e]
   conv=>whnf
   try dsimp only
   repeat' (first|(refine gC ?_;first|refine cN ?_|(refine gD ?_;first|refine cI ?_|refine cJ ?_))|refine gL (.map ?_)|refine gB (.of (by assumption) ?_))<;>(conv=>whnf;try dsimp only)
   refine⟨_,au.refl _,.inr ?_⟩
   conv=>whnf
   exact⟨rfl,rfl⟩
 .have e:ot acc its k key=[]:=by rw[ot,if_neg h0]
  rw[e]
  conv=>whnf
  try dsimp only
  repeat' (refine gC ?_;first|refine cY ?_|refine cN ?_|refine gD (cI ?_))<;>(conv=>whnf;try dsimp only)
  refine⟨_,au.refl _,.inr ?_⟩
  conv=>whnf
  exact⟨rfl,rfl⟩
theorem ua{its:List It}{i:It}(ha:Asc its):([]++List.drop (Int.toNat 0) (List.take ((iz its i.id:Nat):Int).toNat (List.map It.av its))++[AV.agg [AV.int IntKind.i64 i.id,AV.str i.atom.name,AV.sl Cap.no (List.map Tm.av i.atom.args)]]++
  List.drop ((iz its i.id:Nat):Int).toNat (List.take (((List.map It.av its).length:Nat):Int).toNat (List.map It.av its)))=(aY its i).map It.av:=by
 rw[Bq ha];simp[It.av,List.map_take,List.map_drop,zm]
theorem ai.Hy{env:List (Nat×AV)}{b' bs:List Box}{lo q:Nat}{acc:List Ac}{its:List It}{i:It}{v:AV}{l:List AV}(hg:aq env 4=some v)(hv:v=.int .i64 0)(hq:q<b'.length)(hl:l=(aY its i).map It.av)(hle:bs.length<=b'.length)(hk:∀c,c<bs.length->c≠q->b'[c]? =bs[c]?):
  ai ⟨env,b'.set q (.cells [.sl .no (acc.map Ac.av),.sl (.own 3) l]),lo⟩ [.slot 4] λr bs'=>r=.int .i64 0/\fT bs' q acc (aY its i)/\bs.length<=bs'.length/\∀c,c<bs.length->c≠q->bs'[c]? =bs[c]?:=by
 refine ai.A0 1 (List.getElem?_set_self hq) rfl ?_;rw[List.set_set];refine ai.slot ⟨?_,?_,?_,λc hc hne=>?_⟩
 .simp only[St.get,hg,hv]
 .subst hl;rw[fT,List.getElem?_set_self hq];rfl
 .rw [zn];exact hle
 .rw [Zh (Ne.symm hne)];exact hk c hc hne
theorem xP{bs:List Box}{q:Nat}{acc:List Ac}{its:List It}{i:It}(h:fT bs q acc its)(hl:its.length<=100000)(ha:Asc its)(hN:Tm.aD i.atom.args<=100000000)(hal:i.atom.args.length<=100000):AM.Sem Tryz.prog 85 [.ptr q 0,i.av] bs λr bs'=>r=.int .i64 (ed its i)/\fT bs' q acc (if ed its i=0 then aY its i else its)/\bs.length<=bs'.length/\∀c,c<bs.length->c≠q->bs'[c]? =bs[c]?:=by
 have hb0:aa bs q=some [slA Ac.av acc,slA It.av its]:=by simp[aa,show bs[q]? =_ from h,Box.cs?]
 have hq:=(zB.1 h).1;have hra:=mH i.atom hN (by omega)
 obtain⟨B1,hB1⟩:∃B1,B1=bs++[Box.cells [.int .i64 i.id,.str i.atom.name,.sl .no (i.atom.args.map Tm.av)]]:=⟨_,rfl⟩;have hbx:aa B1 bs.length=some [.int .i64 i.id,.str i.atom.name,.sl .no (i.atom.args.map Tm.av)]:=by rw[hB1,al,if_pos rfl];rfl
 have h1:fT B1 q acc its:=by rw[fT,hB1,zK hq];exact h
 have hb:aa B1 q=some [slA Ac.av acc,slA It.av its]:=by simp[aa,show B1[q]? =_ from h1,Box.cs?]
 have hfin:fT B1 q acc its/\bs.length<=B1.length/\∀c,c<bs.length->c≠q->B1[c]? =bs[c]?:=⟨h1,by rw[hB1];simp,λc hc _=>by rw[hB1,zK hc]⟩
 refine dX (by simp) ?_
 by_cases g1:i.id<1
 .have e:ed its i=2:=by rw[ed,if_pos g1]
  rw[e,if_neg (by decide)]
  conv=>whnf
  try dsimp only
  repeat' (first|(refine gC ?_;first|refine cY ?_|refine cN ?_|refine gD (cI ?_))|refine gB (.last ?_))<;>(conv=>whnf;try dsimp only)
  rw[<-hB1];exact⟨_,au.refl _,.inl ⟨rfl,hfin⟩⟩
 .cases hr:i.atom.right with
  |false=>
   rw[hr] at hra;have e:ed its i=2:=by rw[ed,if_neg g1,if_pos hr]
   rw[e,if_neg (by decide)]
   conv=>whnf
   try dsimp only
   repeat' (first|refine gF (ah.fn (hra) ?_)|(refine gC ?_;first|refine cN ?_|refine .not ?_|refine gD (cJ ?_))|refine gB (.last ?_))<;>(conv=>whnf;try dsimp only)
   rw[<-hB1]
   exact⟨_,au.refl _,.inl ⟨rfl,hfin⟩⟩
  |true=>
   rw[hr] at hra
   conv=>whnf
   try dsimp only
   repeat' (first|refine gF (ah.fn (hra) ?_)|(refine gC ?_;first|refine cY ?_|refine cN ?_|refine .not ?_|refine gD (cJ ?_))|refine gB (.last ?_))<;>(conv=>whnf;try dsimp only)
   rw[<-hB1];refine ah.raw (AL (id:=i.id) h1 hl ha) ?_;rintro r b' ⟨rfl,rfl⟩;have hpl:=Ej its i.id
   cases hh:hO its i.id with
   |true=>
    have e:ed its i=8:=by rw[ed,if_neg g1,if_neg (by rw[hr];decide),if_pos hh]
    rw[e,if_neg (by decide)]
    obtain⟨x,hx,hxi⟩:=HF ha hh;have hlt:=(zB.1 hx).1
    conv=>whnf
    try dsimp only
    repeat' (first|refine gC (gD (cI ?_))|refine gL (.map ?_)|refine gI (gM (iE ?_))|refine gB (.of (by assumption) ?_))<;>(conv=>whnf;try dsimp only)
    .exact ⟨_,au.refl _,.inl ⟨rfl,hfin⟩⟩
    all_goals (exfalso;omega)
   |false=>
    have hnx:∀x,its[iz its i.id]? =some x->x.id≠i.id:=λx hx e=>by
     have:=List.any_eq_false.1 hh x (zE hx);simp[e] at this
    by_cases h5:500<=its.length
    .have e:ed its i=6:=by rw[ed,if_neg g1,if_neg (by rw[hr];decide),if_neg (by rw[hh];decide),if_pos h5]
     rw[e,if_neg (by decide)]
     conv=>whnf
     try dsimp only
     repeat' (first|(refine gC ?_;first|refine cN ?_|(refine gD ?_;first|refine cI ?_|refine cJ ?_)|refine aj.lt (λhc=>?_) (λhc=>?_)|refine aj.dec (λhc=>?_) (λhc=>?_))|refine gL (.map ?_)|(refine gI ?_;(refine gM ?_;refine iH λx hx=>?_))|refine gB (.of (by assumption) ?_))<;>(conv=>whnf;try dsimp only)
     all_goals first|(exfalso;exact hnx _ hx hc)|(exfalso;omega)|exact⟨_,au.refl _,.inl ⟨rfl,hfin⟩⟩
    .have e:ed its i=0:=by rw[ed,if_neg g1,if_neg (by rw[hr];decide),if_neg (by rw[hh];decide),if_neg h5]
     rw[e,if_pos rfl]
     conv=>whnf
     try dsimp only
     repeat' (first|(refine gC ?_;first|refine cN ?_|(refine gD ?_;first|refine cI ?_|refine cJ ?_)|refine aj.lt (λhc=>?_) (λhc=>?_)|refine aj.dec (λhc=>?_) (λhc=>?_))|refine gL (.map ?_)|refine gN (nS ?_)|(refine gI ?_;(refine gM ?_;refine iH λx hx=>?_))|refine gB (.of (by assumption) ?_))<;>(conv=>whnf;try dsimp only)
     all_goals try (exfalso;exact hnx _ hx hc)
     all_goals try (exfalso;omega)
     .refine ⟨?_⟩
      conv=>whnf
      try dsimp only
      skip;exact ai.Hy rfl rfl (zB.1 h1).1 (ua ha) hfin.2.1 hfin.2.2
     .refine ⟨?_⟩
      conv=>whnf
      try dsimp only
      skip;exact ai.Hy rfl rfl (zB.1 h1).1 (ua ha) hfin.2.1 hfin.2.2
end Go.CK
