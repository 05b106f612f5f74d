/-
  Texts of this aV joined (wip/gen/bundle.py),those declarations only that are needed:IxN IxX IxY. By an AI agent.
-/
import Derived.Test.YtcjfkbdbcgmomaaGreatDoorSbb
import Derived.Lib.SliceRun
import Derived.Lib.JoinLaws
import Derived.Lib.AppendZeros
import Derived.Lib.Overlaps
import Derived.Shelf.Spec.SlicesInsert
set_option linter.unusedSimpArgs false
set_option linter.unusedVariables false
set_option maxRecDepth 100000
namespace Go.CK
open Go.AM Go.Proofs
def dv(V:Nat->Prop)(bs:List Box)(p:Nat)(acc:List Ac)(its:List It):Prop:=
 ∃bi ki t kt cs,cW bs p acc its (λ_=>its) bi ki t kt cs/\¬V bi/\¬V t/\(∀c∈cs,¬V c)/\t≠bi
set_option maxHeartbeats 2000000 in
theorem tJ{V:Nat->Prop}{bs:List Box}{l:List Ac}{its:List It}(hV:∀b,V b->b<=bs.length)(ha:c7 l its)(hr:∀a∈l,a.right=true)(hs:dz its=true)(har:∀i∈its,i.atom.args.length<=10000000):
  AM.Sem Tryz.prog 11 [slA It.av its,slA Ac.av l] bs λr bs'=>r=.tup [.ptr bs.length 0,.int .i64 0]/\dv V bs' bs.length l its/\Pre bs bs':=by
 have hl:=ha.accs;have hp:=ha.poss;have hfew:=ha.few;have hcn:=nJ (l:=l) (by omega) λa ha=>by have:=hp a ha;omega
 rw[show (l.any λx=>!x.right)=false from List.any_eq_false.2 λx hx=>by simp[hr x hx]] at hcn
 have hsr:=sW (l:=its) (by omega) har
 rw[hs] at hsr;refine j7 (by simp) ?_
 conv=>whnf
 try dsimp only
 repeat' (first|(refine gF ?_;first|refine ah.fn (hsr) ?_|refine ah.fn (hcn) ?_)|(refine gC ?_;first|refine cY ?_|refine cN ?_|refine .not ?_)|refine gL (.map ?_))<;>(conv=>whnf;try dsimp only)
 refine aJ.by (fb:=false) (λst_ (a:Nat×List Box)=>⟨[(0,slA It.av its),(6,.ptr bs.length 0),(20,slA Ac.av l),(21,.int .i64 l.length),(22,.int .i64 (a.1:Int))],a.2,bs.length⟩)
  (λa=>a.1<=l.length/\∃ra ka bi t k cs,cs.length=a.1/\a.2[bs.length]? =some (.cells [.bsl ra a.1 ka,.bsl bi 0 0,.bsl t cs.length k])/\K8 a.2 t k cs/\Pre bs a.2/\bs.length<ra/\ra≠t/\a.2[ra]? =some (aN Ac.av 3 ka (l.take a.1))/\a.1<=ka/\bs.length<t/\(∀c∈cs,bs.length<c)/\cs.Nodup/\bs.length<bi/\bi≠ra/\bi≠t/\a.2[bi]? =some (.row []))
  (λa=>l.length-a.1) (0,bs++[.cells [.bsl (bs.length+1) 0 0,.bsl (bs.length+2) 0 0,.bsl (bs.length+3) 0 0],.row [],.row [],.row []]) ⟨zJ _,bs.length+1,0,bs.length+2,bs.length+3,0,[],rfl,by simp,⟨by simp[aN,cellsOf],zG _,zJ _,λc hc=>by cases hc⟩,⟨by simp,λb hb=>by rw[zK hb]⟩,by omega,by omega,by simp[aN,cellsOf],zG _,by omega,(λc hc=>by cases hc),List.nodup_nil,by omega,by omega,by omega,by simp⟩ ?_ ?_
 .refine az.tg (p:=bs.length) (j:=0) (cs:=[.sl .full [],.sl .full [],.sl .full []]) (by simp) rfl ?_
  rw[yV _ _ (zG _),yR];simp only[zC,zY,ZR,List.set_cons_zero,List.set_cons_succ,zh,zf,Zl];refine az.tg (p:=bs.length) (j:=1) (cs:=[.bsl (bs.length+1) 0 0,.sl .full [],.sl .full []]) (by simp) rfl ?_
  rw[yV _ _ (zG _),yR];simp only[zC,zY,ZR,List.set_cons_zero,List.set_cons_succ,zh,zf,Zl];refine az.tg (p:=bs.length) (j:=2) (cs:=[.bsl (bs.length+1) 0 0,.bsl (bs.length+2) 0 0,.sl .full []]) (by simp) rfl ?_
  rw[yV _ _ (zG _),yR];simp only[zC,zY,ZR,List.set_cons_zero,List.set_cons_succ,zh,zf,Zl];exact⟨au.refl _⟩
 .rintro ⟨j,b2⟩ ⟨q1,ra,ka,bi,t,k,cs,q2,q3,hTA,q4,q5,q6,q7,q8,q9,q10,q11,q12,q13,q14,q15⟩;dsimp only at q1 q2 q3 hTA q4 q5 q6 q7 q8 q9 q10 q11 q12 q13 q14 q15;have hpj:∀x,l[j]? =some x->x.positions.length<=1000000:=λx hx=>hp x (zE hx)
  conv=>whnf
  try dsimp only
  repeat' (first|(refine gC ?_;refine aj.lt (λhc=>?_) (λhc=>?_))|refine gL (.map ?_)|(refine gI ?_;(refine gM ?_;refine iH λx hx=>?_))|refine gB (.last ?_)|refine dG.last ?_)<;>(conv=>whnf;try dsimp only)
  .conv=>whnf
   try dsimp only
   repeat' (first|(refine gF ?_;refine ah.fn (wW (l:=x.positions) (by have:=hpj x hx;omega)) ?_)|refine gB (.last ?_)|refine dG.last ?_)<;>(conv=>whnf;try dsimp only)
   have hlt:bs.length<b2.length:=(zB.1 q3).1;have hstr:aa b2 bs.length=some [.bsl ra j ka,.bsl bi 0 0,.bsl t cs.length k]:=by simp[aa,q3,Box.cs?]
   refine ku.of (by rw[al,if_neg (by omega)];exact hstr) ?_
   conv=>whnf
   try dsimp only
   repeat' refine gB (.last ?_)<;>(conv=>whnf;try dsimp only)
   refine u9.one xX (λy=>⟨rfl,rfl⟩) (x:=x) rfl ?_
   conv=>whnf
   try dsimp only
   repeat' refine gPr (pT ?_)<;>(conv=>whnf;try dsimp only)
   have hra:=(zB.1 q7).1;have ht:=(zB.1 hTA.row).1;refine z7 (AU xX) (l:=l.take j) (l2:=[x]) (k:=ka) (k2:=1) (by rw[zh,zK hra];exact q7) (by simp) (by simp;omega) rfl q8 (by omega) λk1 hk1=>?_
   conv=>whnf
   refine⟨.inr ?_,?_⟩
   .conv=>whnf
    repeat' first|exact True.intro|refine And.intro (jw (by omega) (by first|(simp;done)|(simp;omega))) ?_
   conv=>whnf
   try dsimp only
   skip;obtain⟨B4,hB4⟩:∃B4,B4=(b2++[Box.cells [AV.str x.name,AV.int IntKind.i64 x.arity,AV.sl Cap.no (List.map bF x.positions)]]++[aN Ac.av 3 1 [x]]).set ra Box.dead++[aN Ac.av 3 k1 (List.take j l++[x])]:=⟨_,rfl⟩;have hlen4:B4.length=b2.length+3:=by rw[hB4];simp
   have hold4:∀b,b<b2.length->b≠ra->B4[b]? =b2[b]?:=λb hb hne=>by
    rw[hB4,zK (by simp;omega),Zh (Ne.symm hne),zh,zK hb]
   have hrow4:B4[b2.length+2]? =some (aN Ac.av 3 k1 (l.take (j+1))):=by
    rw[hB4,za (by simp),ZD,hx]
    simp
   rw[show (b2++[Box.cells [AV.str x.name,AV.int IntKind.i64 x.arity,AV.sl Cap.no (List.map bF x.positions)]]++[aN Ac.av 3 1 [x]]).length=b2.length+2 by simp,<-hB4]
   have hl1:(List.take j l++[x]).length=j+1:=by simp;omega
   rw[hl1] at hk1|-;clear hB4;refine ku.of (cs:=[.bsl ra j ka,.bsl bi 0 0,.bsl t cs.length k]) (by simp[aa,hold4 bs.length hlt (by omega),q3,Box.cs?]) ?_
   conv=>whnf
   try dsimp only
   skip;refine⟨?_⟩;obtain⟨B5,hB5⟩:∃B5,B5=B4.set bs.length (Box.cells [AV.bsl (b2.length+2) (j+1) k1,AV.bsl bi 0 0,AV.bsl t cs.length k]):=⟨_,rfl⟩;rw[<-hB5];have hlen5:B5.length=b2.length+3:=by rw[hB5,zn,hlen4]
   have hstr5:B5[bs.length]? =some (.cells [.bsl (b2.length+2) (j+1) k1,.bsl bi 0 0,.bsl t cs.length k]):=by rw[hB5];simp[zr];omega
   have hold5:∀b,b≠bs.length->B5[b]? =B4[b]?:=λb hb=>by rw[hB5,Zh (Ne.symm hb)]
   clear hB5
   conv=>whnf
   try dsimp only
   skip;refine ku.of (cs:=[.bsl (b2.length+2) (j+1) k1,.bsl bi 0 0,.bsl t cs.length k]) (by simp[aa,hstr5,Box.cs?]) ?_
   conv=>whnf
   try dsimp only
   skip;refine u9.mpt (c:=B5.length) rfl ?_
   conv=>whnf
   try dsimp only
   skip
   have htr5:B5[t]? =some (aN AV.mpt 1 k cs):=by
    rw[hold5 t (by omega),hold4 t ht (Ne.symm q6)];exact hTA.row
   have htl5:t<B5.length:=by omega
   refine z7 IZ (l:=cs) (l2:=[B5.length]) (k:=k) (k2:=1) (by rw[zh,zK htl5];exact htr5) (by simp) rfl rfl hTA.le (by omega) λk2 hk2=>?_
   conv=>whnf
   try dsimp only
   skip;obtain⟨B6,hB6⟩:∃B6,B6=(B5++[Box.mp []]++[aN AV.mpt 1 1 [B5.length]]).set t Box.dead++[aN AV.mpt 1 k2 (cs++[B5.length])]:=⟨_,rfl⟩;have hlen6:B6.length=B5.length+3:=by rw[hB6];simp
   have hold6:∀b,b<B5.length->b≠t->B6[b]? =B5[b]?:=λb hb hne=>by
    rw[hB6,zK (by simp;omega),Zh (Ne.symm hne),zh,zK hb]
   have hrow6:B6[B5.length+2]? =some (aN AV.mpt 1 k2 (cs++[B5.length])):=by
    rw[hB6,za (by simp)]
    simp
   have hmp6:B6[B5.length]? =some (.mp []):=by
    rw[hB6,zK (by simp),Zh (by omega),zh,za (zG _)]
    simp
   rw[show (B5++[Box.mp []]++[aN AV.mpt 1 1 [B5.length]]).length=B5.length+2 by simp,<-hB6]
   clear hB6;refine ku.of (cs:=[.bsl (b2.length+2) (j+1) k1,.bsl bi 0 0,.bsl t cs.length k]) (by simp[aa,hold6 bs.length (by omega) (by omega),hstr5,Box.cs?]) ?_
   conv=>whnf
   try dsimp only
   skip;refine⟨?_⟩;obtain⟨B7,hB7⟩:∃B7,B7=(B6.set bs.length (Box.cells [AV.bsl (b2.length+2) (j+1) k1,AV.bsl bi 0 0,AV.bsl (B5.length+2) (cs++[B5.length]).length k2])):=⟨_,rfl⟩;rw[<-hB7];have hlen7:B7.length=b2.length+6:=by rw[hB7,zn];omega
   have hstr7:B7[bs.length]? =some (.cells [.bsl (b2.length+2) (j+1) k1,.bsl bi 0 0,.bsl (B5.length+2) (cs++[B5.length]).length k2]):=by rw[hB7];simp[zr];omega
   have hold7:∀b,b≠bs.length->B7[b]? =B6[b]?:=λb hb=>by rw[hB7,Zh (Ne.symm hb)]
   clear hB7
   conv=>whnf
   try dsimp only
   repeat' refine gW (wI ?_)<;>(conv=>whnf;try dsimp only)
   have hmp7:B7[B5.length]? =some (.mp []):=by rw[hold7 _ (by omega)];exact hmp6
   have hb2:∀b,b<b2.length->b≠bs.length->b≠ra->b≠t->(B7.set B5.length (.tab ⟨[],0,[]⟩))[b]? =b2[b]?:=λb h1 h2 h3 h4=>by
    rw[Zh (by omega),hold7 b h2,hold6 b (by omega) h4,hold5 b h2,hold4 b h1 h3]
   have hbi7:bi<b2.length:=(zB.1 q15).1;refine⟨(j+1,B7.set B5.length (.tab ⟨[],0,[]⟩)),⟨⟨?_,b2.length+2,k1,bi,B5.length+2,k2,cs++[B5.length],?_,?_,⟨?_,?_,?_,?_⟩,?_,?_,?_,?_,?_,?_,?_,?_,?_,?_,?_,?_⟩,?_⟩,?_⟩
   .dsimp only;omega
   .simp [q2]
   .dsimp only;rw[Zh (by omega)]
    exact hstr7
   .dsimp only;rw[Zh (by omega),hold7 _ (by omega)]
    exact hrow6
   .simpa using hk2
   .simp;omega
   .intro c hc;dsimp only;rcases zZ.1 hc with hc|hc
    .obtain ⟨y,m,h1,h2⟩:=hTA.tab c hc;have hcl:=(zB.1 h1).1;have hcp:=q10 c hc;refine⟨y,m,?_,h2⟩;rw[hb2 c hcl (by omega) (λe=>by rw[e,q7] at h1;cases h1) (λe=>by rw[e,hTA.row] at h1;cases h1)]
     exact h1
    .simp at hc;subst hc;exact⟨⟨[],0,[]⟩,[],by rw[List.getElem?_set_self (by omega)],⟨rfl,(λ_ h=>by cases h),(λ_ h=>by cases h),List.nodup_nil,List.nodup_nil,(λ_ h=>by cases h)⟩⟩
   .refine ⟨by dsimp only;rw[zn];omega,λb hb=>?_⟩
    dsimp only;rw[hb2 b (by have:=q4.1;omega) (by omega) (by omega) (by omega)]
    exact q4.2 b hb
   .omega
   .omega
   .dsimp only;rw[Zh (by omega),hold7 _ (by omega),hold6 _ (by omega) (by omega),hold5 _ (by omega)]
    exact hrow4
   .exact hk1
   .omega
   .intro c hc;rcases zZ.1 hc with hc|hc
    .exact q10 c hc
    .simp at hc;omega
   .refine List.nodup_append.2 ⟨q11,by simp,λa ha b hb=>?_⟩
    simp at hb;subst hb;obtain⟨y,m,h1,h2⟩:=hTA.tab a ha;have hcl:=(zB.1 h1).1;omega
   .exact q12
   .omega
   .omega
   .dsimp only;rw[hb2 bi hbi7 (by omega) q13 q14]
    exact q15
   .dsimp only;omega
   .refine az.Gt B5.length hmp7 ?_;refine az.atS ?_ rfl rfl
    conv=>whnf
    repeat' (first|(refine gV ?_;first|refine vE ?_|refine vI ?_)|exact True.intro)<;>conv=>whnf
  .obtain rfl:j=l.length:=by omega
   rw[zm (zG _)] at q7;have hpl:bs.length<b2.length:=(zB.1 q3).1;obtain⟨b3,hb3⟩:∃b3,b3=(b2.set ra .dead).set bs.length (.cells [slA Ac.av l,.bsl bi 0 0,.bsl t cs.length k]):=⟨_,rfl⟩;have h3:∀b,b≠ra->b≠bs.length->b3[b]? =b2[b]?:=λb h1 h2=>by rw[hb3,Zh (Ne.symm h2),Zh (Ne.symm h1)]
   have hI0:sn b3 bs.length l [] (λ_ _=>True) bi 0 t k cs:=by
    refine⟨by rw[hb3,List.getElem?_set_self (by rw[zn];exact hpl)];rfl,by rw[h3 bi q13 (by omega),q15];simp[aN,cellsOf],zG _,by rw[h3 t (Ne.symm q6) (by omega)];exact hTA.row,hTA.le,q2,q11,λi c hc=>?_⟩
    have hcm:=zE hc;obtain⟨y,m,h1,h2⟩:=hTA.tab c hcm;exact⟨y,m,by rw[h3 c (λe=>by rw[e,q7] at h1;cases h1) (by have:=q10 c hcm;omega)];exact h1,h2,trivial⟩
   have hP3:Pre bs b3:=⟨by rw[hb3];simpa using q4.1,λb hb=>by rw[h3 b (by omega) (by omega)];exact q4.2 b hb⟩
   refine aJ.by (fb:=false) (λst_ (a:Nat×List Box)=>⟨[(6,.ptr bs.length 0),(51,slA It.av its),(52,.int .i64 its.length),(53,.int .i64 (a.1:Int))],a.2,bs.length⟩)
    (λa=>a.1<=its.length/\∃bj kj,sn a.2 bs.length l (its.take a.1) (λ_ _=>True) bj kj t k cs/\Pre bs a.2/\bs.length<bj/\t≠bj/\t<a.2.length)
    (λa=>its.length-a.1) (0,b3) ⟨zJ _,bi,0,by simpa using hI0,hP3,q12,Ne.symm q14,(zB.1 hI0.tabs).1⟩ ?_ ?_
   .refine az.nZ xX bs.length 0 (b:=ra) (m:=l.length) (k:=ka) (l:=l) q3 rfl q7 (zG _) ?_;rw[ZA];simp only[List.set_cons_zero];rw[show (Box.cells [AV.sl Cap.no (l.map Ac.av),.bsl bi 0 0,.bsl t cs.length k])=.cells [slA Ac.av l,.bsl bi 0 0,.bsl t cs.length k] from rfl,<-hb3];exact⟨au.refl _⟩
   .rintro ⟨j,b4⟩ ⟨r1,bj,kj,r2,r3,r4,r5,r6⟩;dsimp only at r1 r2 r3 r4 r5 r6;have hlt4:bs.length<b4.length:=(zB.1 r2.str).1;have hbj4:bj<b4.length:=(zB.1 r2.items).1;have hln:(its.take j).length=j:=by rw[zo];omega
    have hstr4:=r2.str;rw[hln] at hstr4
    by_cases hj:j<its.length
    .obtain ⟨i,hi⟩:∃i,its[j]? =some i:=⟨_,zA hj⟩
     conv=>whnf
     try dsimp only
     repeat' (first|refine gC (gD (cI ?_))|refine gI (gM (iE ?_))|refine gB (.last ?_)|refine dG.last ?_)<;>(conv=>whnf;try dsimp only)
     have hb0:aa b4 bs.length=some [slA Ac.av l,.bsl bj j kj,.bsl t cs.length k]:=by simp[aa,hstr4,Box.cs?]
     refine ku.of (by rw[al,if_neg (by omega)];exact hb0) ?_
     conv=>whnf
     try dsimp only
     repeat' (first|refine gG (bO.fn (xY i (ha.ent i (zE hi)).nds) ?_)|refine gB (.last ?_))<;>(conv=>whnf;try dsimp only)
     refine u9.one ay (λy=>⟨rfl,rfl⟩) (x:=i) rfl ?_
     conv=>whnf
     try dsimp only
     repeat' refine gPr (pT ?_)<;>(conv=>whnf;try dsimp only)
     refine z7 (AU ay) (l:=its.take j) (l2:=[i]) (k:=kj) (k2:=1) (by rw[zh,zK hbj4];exact r2.items) (by simp) (by simp;omega) rfl (by have:=r2.le;omega) (by omega) λk1 hk1=>?_
     conv=>whnf
     refine⟨.inr ?_,?_⟩
     .conv=>whnf
      repeat' first|exact True.intro|refine And.intro (jw (by omega) (by first|(simp;done)|(simp;omega))) ?_
     conv=>whnf
     try dsimp only
     skip;obtain⟨B5,hB5⟩:∃B5,B5=(b4++[Box.cells [AV.int IntKind.i64 i.id,AV.str i.atom.name,AV.sl Cap.no (i.atom.args.map Tm.av)]]++[aN It.av 3 1 [i]]).set bj Box.dead++[aN It.av 3 k1 (its.take j++[i])]:=⟨_,rfl⟩;have hlen5:B5.length=b4.length+3:=by rw[hB5];simp
     have hold5:∀b,b<b4.length->b≠bj->B5[b]? =b4[b]?:=λb hb hne=>by
      rw[hB5,zK (by simp;omega),Zh (Ne.symm hne),zh,zK hb]
     have hrow5:B5[b4.length+2]? =some (aN It.av 3 k1 (its.take (j+1))):=by
      rw[hB5,za (by simp),ZD,hi]
      simp
     rw[show (b4++[Box.cells [AV.int IntKind.i64 i.id,AV.str i.atom.name,AV.sl Cap.no (List.map Tm.av i.atom.args)]]++[aN It.av 3 1 [i]]).length=b4.length+2 by simp,<-hB5]
     have hl1:(its.take j++[i]).length=j+1:=by simp;omega
     rw[hl1] at hk1|-;clear hB5;refine ku.of (cs:=[slA Ac.av l,.bsl bj j kj,.bsl t cs.length k]) (by simp[aa,hold5 bs.length hlt4 (by omega),hstr4,Box.cs?]) ?_
     conv=>whnf
     try dsimp only
     skip;refine⟨?_⟩;obtain⟨B6,hB6⟩:∃B6,B6=B5.set bs.length (Box.cells [.sl .no (l.map Ac.av),AV.bsl (b4.length+2) (j+1) k1,AV.bsl t cs.length k]):=⟨_,rfl⟩;rw[<-hB6];have hlen6:B6.length=b4.length+3:=by rw[hB6,zn,hlen5]
     have hstr6:B6[bs.length]? =some (.cells [slA Ac.av l,.bsl (b4.length+2) (j+1) k1,.bsl t cs.length k]):=by rw[hB6,List.getElem?_set_self (by omega)]
     have hold6:∀b,b≠bs.length->B6[b]? =B5[b]?:=λb hb=>by rw[hB6,Zh (Ne.symm hb)]
     clear hB6;have hln1:(its.take (j+1)).length=j+1:=by rw[zo];omega
     have hb6:∀b,b<b4.length->b≠bs.length->b≠bj->B6[b]? =b4[b]?:=λb h1 h2 h3=>by rw[hold6 b h2,hold5 b h1 h3]
     conv=>whnf
     try dsimp only
     repeat' refine gW (wI ?_)<;>(conv=>whnf;try dsimp only)
     refine⟨(j+1,B6),⟨⟨by dsimp only;omega,b4.length+2,k1,⟨by rw[hln1];exact hstr6,by dsimp only;rw[hold6 _ (by omega)];exact hrow5,by rw[hln1];exact hk1,?_,r2.tle,r2.len,r2.nod,λc d hd=>?_⟩,⟨by dsimp only;have:=r3.1;omega,λb hb=>?_⟩,by omega,by omega,by dsimp only;omega⟩,by dsimp only;omega⟩,?_⟩
     .dsimp only;rw[hb6 t (zB.1 r2.tabs).1 (by omega) r5]
      exact r2.tabs
     .dsimp only;obtain⟨x,m,h1,h2,h3⟩:=r2.tab c d hd;have hdm:=zE hd;obtain⟨n1,n2,n3⟩:=r2.ne hdm;exact⟨x,m,by rw[hb6 d (zB.1 h1).1 n1 n2];exact h1,h2,trivial⟩
     .dsimp only;rw[hb6 b (by have:=r3.1;omega) (by omega) (by omega)]
      exact r3.2 b hb
     refine az.atS ?_ rfl rfl
     conv=>whnf
     repeat' (first|(refine gV ?_;first|refine vE ?_|refine vI ?_)|exact True.intro)<;>conv=>whnf
    .obtain rfl:j=its.length:=by omega
     rw[zm (zG _)] at r2
     conv=>whnf
     try dsimp only
     repeat' refine gC (gD (cJ ?_))<;>(conv=>whnf;try dsimp only)
     refine ah.raw (pM r2 ha) ?_;rintro r b5 ⟨rfl,s1,s2,s3⟩
     conv=>whnf
     try dsimp only
     skip;refine⟨_,au.refl _,.inl ⟨rfl,⟨bj,kj,t,k,cs,s1,(λh=>by have:=hV _ h;omega),(λh=>by have:=hV _ h;omega),(λc hc h=>by have:=hV _ h;have:=q10 c hc;omega),r5⟩,⟨by have:=r3.1;exact ZP this s2,λb hb=>?_⟩⟩⟩
     rw[s3 b (by have:=r3.1;omega) (λhc=>by have:=q10 b hc;omega)]
     exact r3.2 b hb
end Go.CK
namespace Go.CK
open Go.AM Go.Proofs
theorem Bl{i:It}{id:Int}:Fun Tryz.prog 100 [i.av,.int .i64 id] (.int .i64 (dO i.id id)):=by
 refine Fun.of (kS (by simp) ?_) rfl rfl
 conv=>whnf
 repeat' (first|refine gF (ah.fn (Ju) ?_)|refine ai.nrm ?_)<;>conv=>whnf
def iz(l:List It)(id:Int):Nat:=l.countP λx=>decide (x.id<id)
def hO(l:List It)(id:Int):Bool:=l.any λx=>decide (x.id=id)
theorem wU64{n:Int}{K:Int->Prop}(k:K n)(h:0<=n/\n<=18446744073709551615):mL .u64 n K:=⟨by rw[IntWalk.u64_in n h];exact k⟩
theorem Jm(i j:Nat):((i:Int)+(j:Int))/2^min (Int.toNat 1) IntKind.u64.bits=(((i+j)/2:Nat):Int):=by
 rw[show (min (Int.toNat 1) IntKind.u64.bits)=1 from rfl];omega
theorem EI{x y:Int}:dO x y<0↔x<y:=by unfold dO;split<;>rename_i h<;>first|(split<;>omega)|omega
theorem Ek{l:List It}{id:Int}{i:Nat}(h1:∀k x,k<i->l[k]? =some x->x.id<id)(h2:∀k x,i<=k->l[k]? =some x->id<=x.id)(hi:i<=l.length):iz l id=i:=by
 have e:l.countP (λx=>decide (x.id<id))=(l.take i).countP (λx=>decide (x.id<id))+(l.drop i).countP (λx=>decide (x.id<id)):=by rw[<-List.countP_append,List.take_append_drop]
 have e1:(l.take i).countP (λx=>decide (x.id<id))=i:=by
  rw[List.countP_eq_length.2 λx hx=>?_,zo,yL hi];obtain⟨k,hk⟩:=ZT hx;rw[Zd] at hk;split at hk
  .exact decide_eq_true (h1 k x (by assumption) hk)
  .cases hk
 have e2:(l.drop i).countP (λx=>decide (x.id<id))=0:=List.countP_eq_zero.2 λx hx=>by
  obtain⟨k,hk⟩:=ZT hx;rw[List.getElem?_drop] at hk;have:=h2 (i+k) x (by omega) hk
  simp;omega
 rw[iz,e,e1,e2];rfl
theorem Bk{bs:List Box}{bi ki:Nat}{l:List It}{id:Int}(hb:bs[bi]? =some (aN It.av 3 ki l))(ha:Asc l)(hl:l.length<=1000000):
  AM.Sem Tryz.prog 99 [.bsl bi l.length ki,.int .i64 id,.fn (.func 100) [] []] bs λr bs'=>r=.tup [.int .i64 (iz l id),.bool (hO l id)]/\bs'=bs:=by
 refine bP (by simp) ?_
 conv=>whnf
 try dsimp only
 skip
 refine aJ.by (fb:=false) (λst_ (a:Nat×Nat)=>⟨[(0,.bsl bi l.length ki),(1,.int .i64 id),(2,.fn (.func 100) [] []),(8,.int .i64 l.length),(9,.int .i64 (a.1:Int)),(10,.int .i64 (a.2:Int))],bs,bs.length⟩)
  (λa=>a.1<=a.2/\a.2<=l.length/\(∀k x,k<a.1->l[k]? =some x->x.id<id)/\∀k x,a.2<=k->l[k]? =some x->id<=x.id) (λa=>a.2-a.1) (0,l.length)
  ⟨zJ _,zG _,λk x hk=>absurd hk (Zm _),λk x hk hx=>absurd (zB.1 hx).1 (by dsimp only at hk;omega)⟩ ?_ ?_
 .refine az.atS ?_ rfl rfl
  conv=>whnf
  repeat' (first|(refine gV ?_;first|refine vE ?_|refine vI ?_)|exact True.intro)<;>conv=>whnf
 .rintro ⟨i,j⟩ ⟨q1,q2,q3,q4⟩;dsimp only at q1 q2 q3 q4
  by_cases hij:i<j
  .obtain ⟨m,hm⟩:∃m,m=(i+j)/2:=⟨_,rfl⟩;obtain⟨x,hx⟩:∃x,l[m]? =some x:=⟨_,zA (by omega)⟩
   conv=>whnf
   try dsimp only
   repeat' (first|refine gC (gD (cI ?_))|refine gW (wI ?_)|fail)<;>(conv=>whnf;try dsimp only)
   refine wU64 ?_ (by omega)
   conv=>whnf
   try dsimp only
   repeat' refine gN (nS ?_)<;>(conv=>whnf;try dsimp only)
   rw[Jm,<-hm]
   conv=>whnf
   try dsimp only
   repeat' (first|refine gW (wI ?_)|refine gN (nS ?_))<;>(conv=>whnf;try dsimp only)
   refine ElN.elem ay (l:=l) (x:=x) hb (by simpa using hx) ?_
   conv=>whnf
   try dsimp only
   repeat' (first|refine gF (ah.fn (Bl) ?_)|(refine gC ?_;refine aj.lt (λhc=>?_) (λhc=>?_))|refine gW (wI ?_)|refine gH (hB ?_))<;>(conv=>whnf;try dsimp only)
   .have hlt:x.id<id:=EI.1 (by assumption)
    refine⟨(m+1,j),⟨⟨by dsimp only;omega,q2,λk y hk hy=>?_,q4⟩,by dsimp only;omega⟩,?_⟩
    .dsimp only at hk;rcases zu k m with h|h
     .have h1:=List.pairwise_iff_getElem.1 ha k m (zB.1 hy).1 (zB.1 hx).1 h;rw[(zB.1 hy).2,(zB.1 hx).2] at h1;omega
     .obtain rfl:k=m:=by omega
      rw[hx] at hy;cases hy;exact hlt
    .refine az.atS ?_ rfl rfl
     conv=>whnf
     repeat' (first|(refine gV ?_;first|refine vE ?_|refine vI ?_)|exact True.intro)<;>conv=>whnf
   .have hlt:¬x.id<id:=λh=>absurd (EI.2 h) (by omega)
    refine⟨(i,m),⟨⟨by dsimp only;omega,by dsimp only;omega,q3,λk y hk hy=>?_⟩,by dsimp only;omega⟩,?_⟩
    .dsimp only at hk;rcases zu m k with h|h
     .have h1:=List.pairwise_iff_getElem.1 ha m k (zB.1 hx).1 (zB.1 hy).1 h;rw[(zB.1 hy).2,(zB.1 hx).2] at h1;omega
     .obtain rfl:k=m:=by omega
      rw[hx] at hy;cases hy;omega
    .refine az.atS ?_ rfl rfl
     conv=>whnf
     repeat' (first|refine gV (vE ?_)|exact True.intro)<;>conv=>whnf
  .obtain rfl:i=j:=by omega
   have hp:=Ek q3 q4 q2
   conv=>whnf
   try dsimp only
   repeat' (first|(refine gC ?_;first|(refine gD ?_;first|refine cI ?_|refine cJ ?_)|refine aj.lt (λhc=>?_) (λhc=>?_))|refine gN (nS ?_))<;>(conv=>whnf;try dsimp only)
   .obtain ⟨x,hx⟩:∃x,l[i]? =some x:=⟨_,zA (by omega)⟩
    refine ElN.elem ay (l:=l) (x:=x) hb (by simpa using hx) ?_
    conv=>whnf
    try dsimp only
    repeat' (first|refine gF (ah.fn (Bl) ?_)|refine gC (gD (cI ?_))|refine gH (hB ?_))<;>(conv=>whnf;try dsimp only)
    have hh:hO l id=decide (dO x.id id=0):=by
     by_cases e:x.id=id
     .rw [decide_eq_true (o9.2 e)];exact List.any_eq_true.2 ⟨x,zE hx,decide_eq_true e⟩
     .rw [decide_eq_false (λh=>e (o9.1 h)),hO,List.any_eq_false];intro y hy;obtain⟨k,hk⟩:=ZT hy
      have hne:¬y.id=id:=λe2=>by
       rcases Nat.lt_trichotomy k i with h|h|h
       .have:=q3 k y h hk;omega
       .subst h;rw[hx] at hk;cases hk;exact e e2
       .have h1:=List.pairwise_iff_getElem.1 ha i k (zB.1 hx).1 (zB.1 hk).1 h;rw[(zB.1 hk).2,(zB.1 hx).2] at h1;have:=q4 i x (zG _) hx;omega
      simpa using hne
    rw[hp,hh];exact⟨_,au.refl _,.inl ⟨rfl,rfl⟩⟩
   .have hh:hO l id=false:=by
     rw[hO,List.any_eq_false];intro x hx;obtain⟨k,hk⟩:=ZT hx;have:=q3 k x (by have:=(zB.1 hk).1;omega) hk
     simp;omega
    rw[hp,hh];exact⟨_,au.refl _,.inl ⟨rfl,rfl⟩⟩
theorem wv{bs:List Box}{p:Nat}{acc:List Ac}{its:List It}{f:Nat->List It}{bi ki t kt:Nat}{cs:List Nat}{id:Int}(h:cW bs p acc its f bi ki t kt cs)(ha:Asc its)(hl:its.length<=1000000):
  AM.Sem Tryz.prog 48 [.ptr p 0,.int .i64 id] bs λr bs'=>r=.tup [.int .i64 (iz its id),.bool (hO its id)]/\bs'=bs:=by
 have hb0:aa bs p=some [slA Ac.av acc,.bsl bi its.length ki,.bsl t cs.length kt]:=by simp[aa,h.str,Box.cs?]
 refine lY (by simp) ?_
 conv=>whnf
 try dsimp only
 repeat' refine gB (.of (by assumption) ?_)<;>(conv=>whnf;try dsimp only)
 refine ah.raw (Bk h.items ha hl) ?_;rintro r b' ⟨rfl,rfl⟩
 conv=>whnf
 try dsimp only
 skip;exact⟨_,au.refl _,.inl ⟨rfl,rfl⟩⟩
theorem Bq{l:List It}(h:Asc l)(i:It):aY l i=l.take (iz l i.id)++i::l.drop (iz l i.id):=by
 unfold aY
 have e:l.filter (λx=>decide (x.id<i.id))=l.take (iz l i.id)/\l.filter (λx=>!decide (x.id<i.id))=l.drop (iz l i.id):=by
  unfold iz
  induction l with
  |nil=>exact⟨rfl,rfl⟩
  |cons a l ih=>
   rw[Asc,ZB] at h;obtain⟨i1,i2⟩:=ih h.2
   by_cases hx:a.id<i.id
   .simp only[List.filter_cons,List.countP_cons,hx,decide_true,if_true,Bool.not_true,Za,if_false,yG,List.drop_succ_cons];exact⟨by rw[i1],i2⟩
   .have h0:∀x∈l,¬x.id<i.id:=λx hm=>by have:=h.1 x hm;omega
    have hc:l.countP (λx=>decide (x.id<i.id))=0:=List.countP_eq_zero.2 λx hm=>by simpa using h0 x hm
    have hf:l.filter (λx=>decide (x.id<i.id))=[]:=List.filter_eq_nil_iff.2 λx hm=>by simpa using h0 x hm
    have hg:l.filter (λx=>!decide (x.id<i.id))=l:=yF.2 λx hm=>by simpa using h0 x hm
    simp only[List.filter_cons,List.countP_cons,hx,decide_false,Za,if_false,Bool.not_false,if_true,hc,hf,hg];exact⟨rfl,rfl⟩
 rw[e.1,e.2]
theorem Ej(l:List It)(id:Int):iz l id<=l.length:=List.countP_le_length
end Go.CK
namespace Go.AM
open Go.CK Go.RowKit Go.Proofs Go.Lib
variable{P:Program}
theorem lI(w:World)(dT sT ty elem:TypeId)(z b o dLen dCap:Nat)(a:Addr)(sLen sCap:Nat)(cs:List Value)
  (hu:P.underlying dT=some (.slice elem)) (hs:(P.info? elem).map (·.size)=some z) (hn:cs.length=Nat.min sLen dLen*z)
  (hsrc:∀j v,cs[j]? =some v->w.cell? (a.add j)=some v) (hc:∀j,j<cs.length->(w.cell? ⟨b,o+j,none⟩).isSome=true) (hf:∀j,j<cs.length->w.frozen? ⟨b,o+j,none⟩=false) (h1:∀v∈cs,v.oneCell'=true):
  (Builtin.copy_ #[dT,sT] ty #[.slice (some ⟨b,o,none⟩) dLen dCap,.slice (some a) sLen sCap]).run P w=.ok (goInt (Nat.min sLen dLen)) (w.setCells b o cs):=by
 have hl:=run_loadCells_list (P:=P) w a cs hsrc;have hst:=run_storeCells_cells (P:=P) b o cs 0 w (by simpa using hc) (by simpa using hf) h1
 cases hq:P.info? elem with
 |none=>simp[hq] at hs
 |some i=>
  have hi:i.size=z:=by simpa[hq] using hs
  simp[Builtin.copy_,run_underlying hu,Builtin.lenOf,Builtin.firstCells,sizeOf,typeInfo,hq,hi,<-hn,hl,hst]
theorem Tryz.yk:(Tryz.prog.info? 28).map (λi=>(i.zero,i.size,i.bytes))=some (some (.agg #[.int .i64 0,.string ⟨#[]⟩,.slice none 0 0]),3,48):=by kernel_rfl
set_option maxHeartbeats 1000000 in
theorem Dn(b n c i vb vc:Nat)(us xs:List Value)(w:World)(hi:i<n)(hroom:n+1<=c)(hbig:n<=1000000)(hvb:vb≠b)(hus:us.length=n*3)(hxs:xs.length=3)
  (hcs:∀j v,us[j]? =some v->w.cell? ⟨b,j,none⟩=some v) (hsp:∀j,j<c*3->(w.cell? ⟨b,j,none⟩).isSome=true) (hfz:∀j,w.frozen? ⟨b,j,none⟩=false)
  (hvs:∀j v,xs[j]? =some v->w.cell? ⟨vb,j,none⟩=some v) (h1c:∀v∈us,v.oneCell'=true) (h1v:∀v∈xs,v.oneCell'=true)
  (tA tB:TypeId) (kA kB:Nat) (hsa:w.shape? vb=some (tA,kA)) (hsb:w.shape? b=some (tB,kB)) (hkB:kB≠0) (hfa:∀j,w.frozen? ⟨vb,j,none⟩=false):
  Calls Tryz.prog 50 #[.slice (some ⟨b,0,none⟩) n c,.int .i64 i,.slice (some ⟨vb,0,none⟩) 1 vc] w λe w'=>
   e=.returned (.slice (some ⟨b,0,none⟩) (n+1) c)/\w'=(w.drew.setCells b ((i+1)*3) (us.drop (i*3))).setCells b (i*3) xs:=by
 have hz2:¬((i:Int)=(n:Int)):=by omega
 have hin:i<=n:=by omega
 obtain⟨i0,hi0,hz0,hz1,hzb⟩:=info_parts Tryz.yk;have hsz:(Tryz.prog.info? 28).map (·.size)=some 3:=by rw[hi0];simp[hz1]
 have hov:∀lb cb,(callFunc 103 #[.slice (some ⟨vb,0,none⟩) 1 vc,.slice (some ⟨b,(i+1)*3,none⟩) lb cb]).run Tryz.prog w=.ok (.value (.bool false)) w:=λlb cb=>by
  rw[run_callFunc_extern Tryz.func103 (by kernel_rfl) (by kernel_rfl) (by kernel_rfl) (e:=Extern.SlicesOverlaps.overlaps #[22,22] #[4]) (by kernel_rfl),
   Lib.run_overlaps_apart w 22 4 28 Tryz.underlying22 3 Tryz.sizeOf28 ⟨vb,0,none⟩ ⟨b,(i+1)*3,none⟩ 1 vc lb cb hvb tA tB kA kB hsa hsb hkB (hfa 0) (hfa kA)]
  rfl
 have mixed:Tryz.prog.follows .mixedOrders=true:=by kernel_rfl
 have hdl:(us.drop (i*3)).length=(n-i)*3:=by rw[Zg,hus,Nat.sub_mul]
 have hb1:(0:Int)<=(i:Int)+1:=by omega
 have hw1:IntKind.i64.wrap ((i:Int)+1)=(i:Int)+1:=by rw[IntKind.wrap_i64];omega
 have htn:((i:Int)+1).toNat=i+1:=by omega
 have hb2:¬(c=i+1):=by omega
 have hb3:(i:Int)<=(n:Int)+1:=by omega
 have hb4:¬(c=i):=by omega
 have hmn:∀a b:Nat,a=b->goInt a=goInt b:=λa b e=>by rw[e]
 have hcp1:∀ty dc sc,(Builtin.copy_ #[22,22] ty #[.slice (some ⟨b,(i+1)*3,none⟩) (n-i) dc,.slice (some ⟨b,i*3,none⟩) (n+1-i) sc]).run Tryz.prog w.drew=.ok (goInt ((n-i:Nat):Int)) (w.drew.setCells b ((i+1)*3) (us.drop (i*3))):=λty dc sc=>by
  have h:=lI (P:=Tryz.prog) w.drew 22 22 ty 28 3 b ((i+1)*3) (n-i) dc ⟨b,i*3,none⟩ (n+1-i) sc (us.drop (i*3)) Tryz.underlying22 hsz (by rw[hdl];rw[show Nat.min (n+1-i) (n-i)=n-i from Nat.min_eq_right (by omega)])
   (λj v hj=>by rw[Addr.add_lit];exact hcs (i*3+j) v (by rwa [List.getElem?_drop] at hj))
   (λj hj=>hsp _ (by rw[hdl] at hj;omega)) (λj hj=>hfz _) (λv hv=>h1c v (List.mem_of_mem_drop hv))
  rw[h];rw[show Nat.min (n+1-i) (n-i)=n-i from Nat.min_eq_right (by omega)]
 obtain⟨W1,hW1⟩:∃W1,W1=w.drew.setCells b ((i+1)*3) (us.drop (i*3)):=⟨_,rfl⟩
 have hsp1:∀k,k<c*3->(W1.cell? ⟨b,k,none⟩).isSome=true:=λk hk=>by
  rw[hW1];exact Go.Proofs.isSome_setCells b (us.drop (i*3)) ((i+1)*3) w.drew (λj hj=>hsp _ (by rw[hdl] at hj;omega)) k (hsp k hk)
 have hcp2:∀(W:World),(∀x,W.cell? x=W1.cell? x)->(∀x,W.frozen? x=W1.frozen? x)->∀ty dc,(Builtin.copy_ #[22,22] ty #[.slice (some ⟨b,i*3,none⟩) (n+1-i) dc,.slice (some ⟨vb,0,none⟩) 1 vc]).run Tryz.prog W=.ok (goInt ((1:Nat):Int)) (W.setCells b (i*3) xs):=λW hWc hWf ty dc=>by
  have h:=lI (P:=Tryz.prog) W 22 22 ty 28 3 b (i*3) (n+1-i) dc ⟨vb,0,none⟩ 1 vc xs Tryz.underlying22 hsz (by rw[hxs,show Nat.min 1 (n+1-i)=1 from yL (by omega)])
   (λj v hj=>by
    rw[Addr.add_lit,ZJ,hWc,hW1,World.cell?_setCells_out b _ _ _ _ (λh _=>absurd h hvb)];exact hvs j v hj)
   (λj hj=>by rw[hWc];exact hsp1 _ (by omega)) (λj hj=>by rw[hWf,hW1,World.frozen?_setCells];exact hfz _) h1v
  rw[h];rw[show Nat.min 1 (n+1-i)=1 from yL (by omega)]
 rw[<-hW1] at hcp1
 go_enter Tryz.func50,Tryz.ntmps50
 go_wp2_with (simp only[hov])
 go_region_law_o (refine step_copy_runI rfl _ _ 22 22 rfl _ _ (by simp[Act.eval,Act.put]) (by simp[Act.eval,Act.put]) (hcp1 _ _ _) ?_)
 go_wp2_with (at_builtin;refine wpList_copy_runI _ rfl _ _ 22 22 rfl _ _ rfl rfl (hcp2 _ (λ_=>rfl) (λ_=>rfl) _ _) ?_)
 go_ret
 first|exact⟨rfl,rfl⟩|exact⟨rfl,by rw[hW1]⟩
set_option maxHeartbeats 1000000 in
theorem Hz(base:Option Addr)(n c vb vc:Nat)(w:World)(hnc:n<=c)(hbig:n<=1000000){v':Value}{w':World}
  (hr:∀ty,(Builtin.append_ #[22,22] ty #[.slice base n c,.slice (some ⟨vb,0,none⟩) 1 vc]).run Tryz.prog w=.ok v' w'):
  Calls Tryz.prog 50 #[.slice base n c,.int .i64 n,.slice (some ⟨vb,0,none⟩) 1 vc] w λe w2=>e=.returned v'/\w2=w':=by
 have mixed:Tryz.prog.follows .mixedOrders=true:=by kernel_rfl
 go_enter Tryz.func50,Tryz.ntmps50
 cases base with
 |none=>
  go_wp2_with (at_builtin;refine Lib.wpList_append_run _ rfl _ _ _ _ rfl _ _ rfl rfl _ _ (hr _) ?_)
  all_goals (go_ret;exact⟨rfl,rfl⟩)
 |some a=>
  obtain⟨ab,ao,asp⟩:=a
  go_wp2_with (at_builtin;refine Lib.wpList_append_run _ rfl _ _ _ _ rfl _ _ rfl rfl _ _ (hr _) ?_)
  all_goals (go_ret;exact⟨rfl,rfl⟩)
def zIt:Value:=.agg #[.int .i64 0,.string ⟨#[]⟩,.slice none 0 0]
theorem vw(n:Nat):(Builtin.zeroCells zIt.cells n).size=n*3:=by
 rw[size_zeroCells];rfl
set_option maxHeartbeats 2000000 in
theorem Fy(b n c i vb vc:Nat)(us xs:List Value)(w:World)(hi:i<n)(hnc:n<=c)(hroom:c<n+1)(hbig:n<=1000000)(hus:us.length=n*3)(hxs:xs.length=3)
  (hcs:∀j v,us[j]? =some v->w.cell? ⟨b,j,none⟩=some v) (hvs:∀j v,xs[j]? =some v->w.cell? ⟨vb,j,none⟩=some v) (h1c:∀v∈us,v.oneCell'=true) (h1v:∀v∈xs,v.oneCell'=true):
  Calls Tryz.prog 50 #[.slice (some ⟨b,0,none⟩) n c,.int .i64 i,.slice (some ⟨vb,0,none⟩) 1 vc] w λe w'=>∃G ROW,n+1<=G/\ROW=(us.take (i*3)).toArray++Builtin.zeroCells zIt.cells (n+1-i)++Builtin.zeroCells zIt.cells (G-(n+1))/\
   e=.returned (.slice (some ⟨w.heap.size,0,none⟩) (n+1) G)/\
   w'=(((w.alloc (.cells ROW 28)).drew.setCells w.heap.size (i*3) xs).drew).setCells w.heap.size ((i+1)*3) (us.drop (i*3)):=by
 have hz2:¬((i:Int)=(n:Int)):=by omega
 have hz3:(c:Int)<(n:Int)+1:=by omega
 have hin:i<=n:=by omega
 obtain⟨i0,hi0,hz0,hz1,hzb⟩:=info_parts Tryz.yk;have hsz:(Tryz.prog.info? 28).map (·.size)=some 3:=by rw[hi0];simp[hz1]
 have hbw:b<w.heap.size:=block_lt_of_cell (hcs 0 _ (zA (by omega)))
 have hvw:vb<w.heap.size:=block_lt_of_cell (hvs 0 _ (zA (by omega)))
 have mixed:Tryz.prog.follows .mixedOrders=true:=by kernel_rfl
 have hkk:(n:Int)+1-(i:Int)=((n+1-i:Nat):Int):=by omega
 have hik:i+(n+1-i)=n+1:=by omega
 have htl:(us.take (i*3)).length=i*3:=by rw[zo];omega
 have hold:(Builtin.firstCells i0.size i (.slice (some ⟨b,0,none⟩) i c)).run Tryz.prog w.drew=.ok (us.take (i*3)).toArray w.drew:=by
  rw[hz1]
  exact run_firstCells_some w.drew 3 i ⟨b,0,none⟩ i c (us.take (i*3)) htl (λj v hj=>by
   rw[Addr.add_lit,ZJ];rw[Zd] at hj;split at hj
   .exact hcs j v hj
   .cases hj)
 obtain⟨G,hG⟩:∃G,G=grownCap w (n+1) c 28:=⟨_,rfl⟩;have hGn:n+1<=G:=by rw[hG];exact grownCap_ge w _ _ _
 have hG63:G<=9223372036854775807:=by
  have:=grownCap_le_maxLen w (n+1) c 28 (by unfold maxLen;omega)
  rw[<-hG] at this;unfold maxLen at this;omega
 obtain⟨ROW,hROW⟩:∃ROW:Array Value,ROW=(us.take (i*3)).toArray++Builtin.zeroCells zIt.cells (n+1-i)++Builtin.zeroCells zIt.cells (G-(n+1)):=⟨_,rfl⟩
 have hrz:∀ty,(Builtin.append_ #[22,3] ty #[.slice (some ⟨b,0,none⟩) i c,.int .i64 ((n:Int)+1-(i:Int))]).run Tryz.prog w=
   .ok (.slice (some ⟨w.heap.size,0,none⟩) (n+1) G) (w.drew.alloc (.cells ROW 28)):=λty=>by
  have h:=Lib.run_append_grow_zeros w 22 3 ty 28 i0 _ .i64 .i64 Tryz.underlying22 Tryz.underlying3 hi0 hz0 (some ⟨b,0,none⟩) i c (us.take (i*3)) hold (n+1-i) (by omega) (by omega) (by omega) (by omega) (by rw[hzb];omega) (by rw[hzb,hik];exact growslice_fits hroom (by omega))
  rw[hik,<-hG] at h;rw[hkk,hROW];exact h
 have hRl:ROW.size=G*3:=by
  rw[hROW];simp only[Array.size_append,List.size_toArray,vw,htl,Nat.sub_mul];omega
 obtain⟨W1,hW1⟩:∃W1,W1=w.drew.alloc (.cells ROW 28):=⟨_,rfl⟩
 have hN:∀j,j<G*3->(W1.cell? ⟨w.heap.size,j,none⟩).isSome=true:=λj hj=>by
  rw[hW1,World.cell?_alloc_at (w:=w.drew) ROW _ w.heap.size j rfl,zj (by omega)];rfl
 have hNf:∀j,W1.frozen? ⟨w.heap.size,j,none⟩=false:=λj=>by rw[hW1];exact World.frozen?_alloc_at (w:=w.drew) ROW _ w.heap.size j rfl
 have hOb:∀j v,w.cell? ⟨b,j,none⟩=some v->W1.cell? ⟨b,j,none⟩=some v:=λj v h=>by rw[hW1,World.cell?_alloc_past (w:=w.drew) _ b j hbw];exact h
 have hOv:∀j v,w.cell? ⟨vb,j,none⟩=some v->W1.cell? ⟨vb,j,none⟩=some v:=λj v h=>by rw[hW1,World.cell?_alloc_past (w:=w.drew) _ vb j hvw];exact h
 have hcpA:∀(W:World),(∀x,W.cell? x=W1.cell? x)->(∀x,W.frozen? x=W1.frozen? x)->∀ty dc,(Builtin.copy_ #[22,22] ty #[.slice (some ⟨w.heap.size,i*3,none⟩) (n+1-i) dc,.slice (some ⟨vb,0,none⟩) 1 vc]).run Tryz.prog W=.ok (goInt ((1:Nat):Int)) (W.setCells w.heap.size (i*3) xs):=λW hWc hWf ty dc=>by
  have h:=lI (P:=Tryz.prog) W 22 22 ty 28 3 w.heap.size (i*3) (n+1-i) dc ⟨vb,0,none⟩ 1 vc xs Tryz.underlying22 hsz (by rw[hxs,show Nat.min 1 (n+1-i)=1 from yL (by omega)])
   (λj v hj=>by rw[Addr.add_lit,ZJ,hWc];exact hOv _ v (hvs j v hj))
   (λj hj=>by rw[hWc];exact hN _ (by omega)) (λj hj=>by rw[hWf];exact hNf _) h1v
  rw[h];rw[show Nat.min 1 (n+1-i)=1 from yL (by omega)]
 have hGi:¬(G=i):=by omega
 have hGim:¬(G=i+1):=by omega
 have hci:¬(c=i):=by omega
 have hbN:b≠w.heap.size:=by omega
 have hdl:(us.drop (i*3)).length=(n-i)*3:=by rw[Zg,hus,Nat.sub_mul]
 have hcpB:∀(W:World),(∀x,W.cell? x=(W1.setCells w.heap.size (i*3) xs).cell? x)->(∀x,W.frozen? x=(W1.setCells w.heap.size (i*3) xs).frozen? x)->∀ty dc sc,(Builtin.copy_ #[22,22] ty #[.slice (some ⟨w.heap.size,(i+1)*3,none⟩) (n-i) dc,.slice (some ⟨b,i*3,none⟩) (n-i) sc]).run Tryz.prog W=.ok (goInt ((n-i:Nat):Int)) (W.setCells w.heap.size ((i+1)*3) (us.drop (i*3))):=λW hWc hWf ty dc sc=>by
  have h:=lI (P:=Tryz.prog) W 22 22 ty 28 3 w.heap.size ((i+1)*3) (n-i) dc ⟨b,i*3,none⟩ (n-i) sc (us.drop (i*3)) Tryz.underlying22 hsz (by rw[hdl,show Nat.min (n-i) (n-i)=n-i from Nat.min_self _])
   (λj v hj=>by
    rw[Addr.add_lit,hWc,World.cell?_setCells_out _ _ _ _ _ (λh _=>absurd h hbN)];exact hOb _ v (hcs (i*3+j) v (by rwa [List.getElem?_drop] at hj)))
   (λj hj=>by rw[hWc];exact Go.Proofs.isSome_setCells _ _ _ _ (λt ht=>hN _ (by omega)) _ (hN _ (by omega)))
   (λj hj=>by rw[hWf,World.frozen?_setCells];exact hNf _) (λv hv=>h1c v (List.mem_of_mem_drop hv))
  rw[h];rw[show Nat.min (n-i) (n-i)=n-i from Nat.min_self _]
 have hb1:(0:Int)<=(i:Int)+1:=by omega
 have hw1:IntKind.i64.wrap ((i:Int)+1)=(i:Int)+1:=by rw[IntKind.wrap_i64];omega
 have htn:((i:Int)+1).toNat=i+1:=by omega
 refine Calls.mono (R:=λe w'=>e=.returned (.slice (some ⟨w.heap.size,0,none⟩) (n+1) G)/\w'=(((w.alloc (.cells ROW 28)).drew.setCells w.heap.size (i*3) xs).drew).setCells w.heap.size ((i+1)*3) (us.drop (i*3))) ?_ λe w' h=>⟨G,ROW,hGn,hROW,h⟩;rw[<-hW1] at hrz;subst hW1;have hE1:∀x,((w.alloc (.cells ROW 28)).drew).cell? x=(w.drew.alloc (.cells ROW 28)).cell? x:=λx=>rfl;have hE2:∀x,((w.alloc (.cells ROW 28)).drew).frozen? x=(w.drew.alloc (.cells ROW 28)).frozen? x:=λx=>rfl;have hF1:∀x,(((w.alloc (.cells ROW 28)).drew.setCells w.heap.size (i*3) xs).drew).cell? x=((w.drew.alloc (.cells ROW 28)).setCells w.heap.size (i*3) xs).cell? x:=λx=>rfl;have hF2:∀x,(((w.alloc (.cells ROW 28)).drew.setCells w.heap.size (i*3) xs).drew).frozen? x=((w.drew.alloc (.cells ROW 28)).setCells w.heap.size (i*3) xs).frozen? x:=λx=>rfl;clear hkk hik hold hROW hG hRl
 go_enter Tryz.func50,Tryz.ntmps50
 go_wp2_with (first
  |(at_builtin;refine Lib.wpList_append_run _ rfl _ _ _ _ rfl _ _ rfl rfl _ _ (hrz _) ?_)
  |(at_builtin;refine wpList_copy_runI _ rfl _ _ 22 22 rfl _ _ rfl rfl (hcpA _ hE1 hE2 _ _) ?_)
  |(at_builtin;refine wpList_copy_runI _ rfl _ _ 22 22 rfl _ _ rfl rfl (hcpB _ (λ_=>rfl) (λ_=>rfl) _ _ _) ?_))
 go_region_law_o (refine step_copy_runI rfl _ _ 22 22 rfl (.slice (some ⟨w.heap.size,(i+1)*3,none⟩) (n-i) (G-(i+1))) (.slice (some ⟨b,i*3,none⟩) (n-i) (c-i)) (by simp[Act.eval,Act.put]) (by simp[Act.eval,Act.put]) (hcpB _ hF1 hF2 3 (G-(i+1)) (c-i)) ?_)
 go_wp2
 go_ret
 exact⟨rfl,rfl⟩
theorem AB(w:World)(t e ty:TypeId)(z:Value)(zs:List Value)(ht:P.underlying t=some (.slice e))(hv:∀w,(zeroValue e).run P w=.ok z w)(hz:(Builtin.zeroCells z.cells 1).toList=zs)(h1:∀v∈zs,v.oneCell'=true)(b o c:Nat)
  (hc:∀j,j<zs.length->(w.cell? ⟨b,o+j,none⟩).isSome=true) (hf:∀j,j<zs.length->w.frozen? ⟨b,o+j,none⟩=false):
  (Builtin.clear_ #[t] ty #[.slice (some ⟨b,o,none⟩) 1 c]).run P w=.ok (.tuple #[]) (w.setCells b o zs):=by
 have hst:=run_storeCells_cells (P:=P) b o zs 0 w (by simpa using hc) (by simpa using hf) h1
 simp only[Zi] at hst;simp[Builtin.clear_,run_underlying ht,hv,hz,hst]
def zl3:List Value:=[.int .i64 0,.string ⟨#[]⟩,.slice none 0 0]
set_option maxHeartbeats 2000000 in
theorem del3(b n c i:Nat)(us:List Value)(w:World)(hi:i<n)(hnc:n<=c)(hbig:n<=1000000)(hus:us.length=n*3)
  (hcs:∀j v,us[j]? =some v->w.cell? ⟨b,j,none⟩=some v) (hsp:∀j,j<c*3->(w.cell? ⟨b,j,none⟩).isSome=true) (hfz:∀j,w.frozen? ⟨b,j,none⟩=false) (h1c:∀v∈us,v.oneCell'=true):
  Calls Tryz.prog 56 #[.slice (some ⟨b,0,none⟩) n c,.int .i64 i,.int .i64 ((i:Int)+1)] w λe w'=>
   e=.returned (.slice (some ⟨b,0,none⟩) (n-1) c)/\w'=(w.drew.setCells b (i*3) (us.drop ((i+1)*3))).setCells b ((n-1)*3) zl3:=by
 have hz2:¬((i:Int)=(i:Int)+1):=by omega
 have hin:i<=n:=by omega
 obtain⟨i0,hi0,hz0,hz1,hzb⟩:=info_parts Tryz.yk;have mixed:Tryz.prog.follows .mixedOrders=true:=by kernel_rfl
 have hb1:(0:Int)<=(i:Int)+1:=by omega
 have htn:((i:Int)+1).toNat=i+1:=by omega
 have hb3:(i:Int)+1<=(n:Int):=by omega
 obtain⟨news,hnews⟩:∃news,news=us.drop ((i+1)*3):=⟨_,rfl⟩;have hlen:news.length=(n-(i+1))*3:=by rw[hnews,Zg,hus,Nat.sub_mul]
 obtain⟨A,hA,hsrc⟩:∃A:Addr,(if c=i+1 then some (⟨b,0,none⟩:Addr) else some ⟨b,(i+1)*3,none⟩)=some A/\Hid (∀t u,news[t]? =some u->w.drew.cell? (A.add t)=some u):=by
  by_cases h:c=i+1
  .refine ⟨⟨b,0,none⟩,by simp[h],λt u hu=>?_⟩
   have h0:news.length=0:=by rw[hlen];omega
   rw[ZY.1 h0] at hu;simp at hu
  .refine ⟨⟨b,(i+1)*3,none⟩,by simp[h],λt u hu=>?_⟩
   rw[Addr.add_lit];exact hcs _ u (by rw[hnews,List.getElem?_drop] at hu;exact hu)
 have s1:Hid (news.length=(n-(i+1))*3):=hlen;have s2:Hid (∀u∈news,u.oneCell'=true):=λu hu=>h1c u (List.mem_of_mem_drop (by rw[hnews] at hu;exact hu))
 have s3:Hid (∀t,t<news.length->(w.drew.cell? ⟨b,0+i*3+t,none⟩).isSome=true/\w.drew.frozen? ⟨b,0+i*3+t,none⟩=false):=λt ht=>by
  rw[hlen] at ht;exact⟨hsp _ (by omega),hfz _⟩
 obtain⟨W1,hW1⟩:∃W1,W1=w.drew.setCells b (0+i*3) news:=⟨_,rfl⟩
 have hsp1:∀k,k<c*3->(W1.cell? ⟨b,k,none⟩).isSome=true:=λk hk=>by
  rw[hW1];exact Go.Proofs.isSome_setCells b news (0+i*3) w.drew (λj hj=>hsp _ (by rw[hlen] at hj;omega)) k (hsp k hk)
 have hfz1:∀k,W1.frozen? ⟨b,k,none⟩=false:=λk=>by rw[hW1,World.frozen?_setCells];exact hfz _
 obtain⟨m,hm⟩:∃m,m=i+(n-(i+1)):=⟨_,rfl⟩;have hm1:m=n-1:=by omega
 have hcl:∀ty,(Builtin.clear_ #[22] ty #[.slice (some ⟨b,(i+(n-(i+1)))*3,none⟩) (n-(i+(n-(i+1)))) (c-(i+(n-(i+1))))]).run Tryz.prog W1=.ok (.tuple #[]) (W1.setCells b ((n-1)*3) zl3):=λty=>by
  rw[<-hm,hm1,show n-(n-1)=1 by omega]
  exact AB (P:=Tryz.prog) W1 22 28 ty zIt zl3 Tryz.underlying22 (λw=>Tryz.zeroValue28 w) (by kernel_rfl) (by intro v hv;simp[zl3] at hv;rcases hv with rfl|rfl|rfl<;>rfl) b ((n-1)*3) _ (λj hj=>hsp1 _ (by simp[zl3] at hj;omega)) (λj hj=>hfz1 _)
 have hW:Hid (W1=w.drew.setCells b (0+i*3) news):=hW1;have hic:i<=c:=by omega
 have hjc:i+1<=c:=by omega
 have hgoal:Aside ((W1.setCells b ((n-1)*3) zl3)=(w.drew.setCells b (i*3) (us.drop ((i+1)*3))).setCells b ((n-1)*3) zl3):=by
  show _=_;rw[hW1,hnews,ZJ]
 have hgo2:Aside (i+(n-(i+1))=n-1):=by show _=_;omega
 clear hW1 hsp1 hfz1 hnews hlen hm hm1 hsp hfz hcs h1c hus
 go_enter Tryz.func56,Tryz.ntmps56
 go_wp2_with fail
 go_region_law_o (refine step_append_room rfl (.tmp 22) (.tmp 25) 22 rfl 28 i0 3 Tryz.underlying22 hi0 hz1 b 0 i c (by simp[Act.eval,Act.put]) A (n-(i+1)) (c-(i+1)) news (by simp[Act.eval,Act.put,hA,htn]) s1.out hsrc.out s2.out (by omega) s3.out ?_;rw[<-hW.out])
 go_wp2
 go_ret
 exact⟨by rw[hgo2.out];rfl,hgoal.out⟩
end Go.AM
