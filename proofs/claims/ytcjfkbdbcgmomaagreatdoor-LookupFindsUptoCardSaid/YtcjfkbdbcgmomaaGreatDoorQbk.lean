/-
  By an AI agent.
-/
import Derived.Test.YtcjfkbdbcgmomaaGreatDoorQbj
import Derived.Lib.SliceRun
import Derived.Lib.JoinLaws
import Derived.Lib.AppendZeros
import Derived.Lib.Overlaps
import Derived.Shelf.Spec.SlicesInsert
set_option linter.unusedSimpArgs false
set_option linter.unusedVariables false
set_option maxRecDepth 100000
namespace Go.CK
open Go.AM Go.Proofs
def O8(V:Nat->Prop)(bs:List Box)(p:Nat)(acc:List Ac)(its:List It):Prop:=
 ∃bi ki t kt cs,fR bs p acc its (λ_=>its) bi ki t kt cs/\¬V bi/\¬V t/\(∀c∈cs,¬V c)/\t≠bi
set_option maxHeartbeats 2000000 in
theorem JX{V:Nat->Prop}{bs:List Box}{l:List Ac}{its:List It}(hV:∀b,V b->b<=bs.length)(T:Eg l its)(hr:∀a∈l,a.right=true)(hs:cC its=true)(har:∀i∈its,i.atom.args.length<=10000000):
  AM.Sem Tryz.prog 11 [slA It.av its,slA Ac.av l] bs λr bs'=>r=.tup [.ptr bs.length 0,.int .i64 0]/\O8 V bs' bs.length l its/\Pre bs bs':=by
 have hl:=T.accs;have hp:=T.poss;have hfew:=T.few;have hcn:=vY (l:=l) (by omega) λa T=>by have:=hp a T;omega
 rw[show (l.any λx=>!x.right)=false from List.any_eq_false.2 λx hx=>by simp[hr x hx]] at hcn
 have hsr:=Er (l:=its) (by omega) har
 rw[hs] at hsr;refine xc (by simp) ?_
 conv=>whnf
 try dsimp only
 repeat' (first|(refine gF ?_;first|refine ae.fn (hsr) ?_|refine ae.fn (hcn) ?_)|(refine gC ?_;first|refine cY ?_|refine cN ?_|refine .not ?_)|refine gL (.map ?_))<;>(conv=>whnf;try dsimp only)
 refine ax.by (fb:=false) (λst_ (a:Nat×List Box)=>⟨[(0,slA It.av its),(6,.ptr bs.length 0),(20,slA Ac.av l),(21,.int .i64 l.length),(22,.int .i64 (a.1:Int))],a.2,bs.length⟩)
  (λa=>a.1<=l.length/\∃E R bi t k cs,cs.length=a.1/\a.2[bs.length]? =some (.cells [.bsl E a.1 R,.bsl bi 0 0,.bsl t cs.length k])/\Ol a.2 t k cs/\Pre bs a.2/\bs.length<E/\E≠t/\a.2[E]? =some (aJ Ac.av 3 R (l.take a.1))/\a.1<=R/\bs.length<t/\(∀c∈cs,bs.length<c)/\cs.Nodup/\bs.length<bi/\bi≠E/\bi≠t/\a.2[bi]? =some (.row []))
  (λa=>l.length-a.1) (0,bs++[.cells [.bsl (bs.length+1) 0 0,.bsl (bs.length+2) 0 0,.bsl (bs.length+3) 0 0],.row [],.row [],.row []]) ⟨zJ _,bs.length+1,0,bs.length+2,bs.length+3,0,[],rfl,by simp,⟨by simp[aJ,cellsOf],zG _,zJ _,λc n=>by cases n⟩,⟨by simp,λb hb=>by rw[zK hb]⟩,by omega,by omega,by simp[aJ,cellsOf],zG _,by omega,(λc n=>by cases n),List.nodup_nil,by omega,by omega,by omega,by simp⟩ ?_ ?_
 .refine al.uj (p:=bs.length) (j:=0) (cs:=[.sl .full [],.sl .full [],.sl .full []]) (by simp) rfl ?_
  rw[yR _ _ (zG _),yN];simp only[zC,zX,ZP,List.set_cons_zero,List.set_cons_succ,zg,ze,Zi];refine al.uj (p:=bs.length) (j:=1) (cs:=[.bsl (bs.length+1) 0 0,.sl .full [],.sl .full []]) (by simp) rfl ?_
  rw[yR _ _ (zG _),yN];simp only[zC,zX,ZP,List.set_cons_zero,List.set_cons_succ,zg,ze,Zi];refine al.uj (p:=bs.length) (j:=2) (cs:=[.bsl (bs.length+1) 0 0,.bsl (bs.length+2) 0 0,.sl .full []]) (by simp) rfl ?_
  rw[yR _ _ (zG _),yN];simp only[zC,zX,ZP,List.set_cons_zero,List.set_cons_succ,zg,ze,Zi];exact⟨aD.refl _⟩
 .rintro ⟨j,q⟩ ⟨q1,E,R,bi,t,k,cs,q2,q3,u,q4,q5,q6,W,q8,q9,F,q11,Z,Y,X,O⟩;dsimp only at q1 q2 q3 u q4 q5 q6 W q8 q9 F q11 Z Y X O;have hpj:∀x,l[j]? =some x->x.positions.length<=1000000:=λx hx=>hp x (zE hx)
  conv=>whnf
  try dsimp only
  repeat' (first|(refine gC ?_;refine ak.lt (λn=>?_) (λn=>?_))|refine gL (.map ?_)|(refine gI ?_;(refine gM ?_;refine iH λx hx=>?_))|refine gB (.last ?_)|refine jI.last ?_)<;>(conv=>whnf;try dsimp only)
  .conv=>whnf
   try dsimp only
   repeat' (first|(refine gF ?_;refine ae.fn (ym (l:=x.positions) (by have:=hpj x hx;omega)) ?_)|refine gB (.last ?_)|refine jI.last ?_)<;>(conv=>whnf;try dsimp only)
   have hlt:bs.length<q.length:=(zB.1 q3).1;have hstr:aa q bs.length=some [.bsl E j R,.bsl bi 0 0,.bsl t cs.length k]:=by simp[aa,q3,Box.cs?]
   refine gi.of (by rw[aq,if_neg (by omega)];exact hstr) ?_
   conv=>whnf
   try dsimp only
   repeat' refine gB (.last ?_)<;>(conv=>whnf;try dsimp only)
   refine qZ.one AJ (λy=>⟨rfl,rfl⟩) (x:=x) rfl ?_
   conv=>whnf
   try dsimp only
   repeat' refine gPr (pT ?_)<;>(conv=>whnf;try dsimp only)
   have hra:=(zB.1 W).1;have ht:=(zB.1 u.row).1;refine BB (Cs AJ) (l:=l.take j) (l2:=[x]) (k:=R) (k2:=1) (by rw[zg,zK hra];exact W) (by simp) (by simp;omega) rfl q8 (by omega) λB K=>?_
   conv=>whnf
   refine⟨.inr ?_,?_⟩
   .conv=>whnf
    repeat' first|exact True.intro|refine And.intro (s4 (by omega) (by first|(simp;done)|(simp;omega))) ?_
   conv=>whnf
   try dsimp only
   skip;obtain⟨B4,M⟩:∃B4,B4=(q++[Box.cells [AV.str x.name,AV.int IntKind.i64 x.arity,AV.sl Cap.no (List.map aG x.positions)]]++[aJ Ac.av 3 1 [x]]).set E Box.dead++[aJ Ac.av 3 B (List.take j l++[x])]:=⟨_,rfl⟩;have hlen4:B4.length=q.length+3:=by rw[M];simp
   have D:∀b,b<q.length->b≠E->B4[b]? =q[b]?:=λb hb I=>by
    rw[M,zK (by simp;omega),Ze (Ne.symm I),zg,zK hb]
   have hrow4:B4[q.length+2]? =some (aJ Ac.av 3 B (l.take (j+1))):=by
    rw[M,zZ (by simp),ZC,hx]
    simp
   rw[show (q++[Box.cells [AV.str x.name,AV.int IntKind.i64 x.arity,AV.sl Cap.no (List.map aG x.positions)]]++[aJ Ac.av 3 1 [x]]).length=q.length+2 by simp,<-M]
   have hl1:(List.take j l++[x]).length=j+1:=by simp;omega
   rw[hl1] at K|-;clear M;refine gi.of (cs:=[.bsl E j R,.bsl bi 0 0,.bsl t cs.length k]) (by simp[aa,D bs.length hlt (by omega),q3,Box.cs?]) ?_
   conv=>whnf
   try dsimp only
   skip;refine⟨?_⟩;obtain⟨B5,s⟩:∃B5,B5=B4.set bs.length (Box.cells [AV.bsl (q.length+2) (j+1) B,AV.bsl bi 0 0,AV.bsl t cs.length k]):=⟨_,rfl⟩;rw[<-s];have J:B5.length=q.length+3:=by rw[s,zm,hlen4]
   have H:B5[bs.length]? =some (.cells [.bsl (q.length+2) (j+1) B,.bsl bi 0 0,.bsl t cs.length k]):=by rw[s];simp[zq];omega
   have g:∀b,b≠bs.length->B5[b]? =B4[b]?:=λb hb=>by rw[s,Ze (Ne.symm hb)]
   clear s
   conv=>whnf
   try dsimp only
   skip;refine gi.of (cs:=[.bsl (q.length+2) (j+1) B,.bsl bi 0 0,.bsl t cs.length k]) (by simp[aa,H,Box.cs?]) ?_
   conv=>whnf
   try dsimp only
   skip;refine qZ.mpt (c:=B5.length) rfl ?_
   conv=>whnf
   try dsimp only
   skip
   have htr5:B5[t]? =some (aJ AV.mpt 1 k cs):=by
    rw[g t (by omega),D t ht (Ne.symm q6)];exact u.row
   have htl5:t<B5.length:=by omega
   refine BB LW (l:=cs) (l2:=[B5.length]) (k:=k) (k2:=1) (by rw[zg,zK htl5];exact htr5) (by simp) rfl rfl u.le (by omega) λk2 hk2=>?_
   conv=>whnf
   try dsimp only
   skip;obtain⟨B6,o⟩:∃B6,B6=(B5++[Box.mp []]++[aJ AV.mpt 1 1 [B5.length]]).set t Box.dead++[aJ AV.mpt 1 k2 (cs++[B5.length])]:=⟨_,rfl⟩;have hlen6:B6.length=B5.length+3:=by rw[o];simp
   have f:∀b,b<B5.length->b≠t->B6[b]? =B5[b]?:=λb hb I=>by
    rw[o,zK (by simp;omega),Ze (Ne.symm I),zg,zK hb]
   have hrow6:B6[B5.length+2]? =some (aJ AV.mpt 1 k2 (cs++[B5.length])):=by
    rw[o,zZ (by simp)]
    simp
   have hmp6:B6[B5.length]? =some (.mp []):=by
    rw[o,zK (by simp),Ze (by omega),zg,zZ (zG _)]
    simp
   rw[show (B5++[Box.mp []]++[aJ AV.mpt 1 1 [B5.length]]).length=B5.length+2 by simp,<-o]
   clear o;refine gi.of (cs:=[.bsl (q.length+2) (j+1) B,.bsl bi 0 0,.bsl t cs.length k]) (by simp[aa,f bs.length (by omega) (by omega),H,Box.cs?]) ?_
   conv=>whnf
   try dsimp only
   skip;refine⟨?_⟩;obtain⟨B7,L⟩:∃B7,B7=(B6.set bs.length (Box.cells [AV.bsl (q.length+2) (j+1) B,AV.bsl bi 0 0,AV.bsl (B5.length+2) (cs++[B5.length]).length k2])):=⟨_,rfl⟩;rw[<-L];have hlen7:B7.length=q.length+6:=by rw[L,zm];omega
   have hstr7:B7[bs.length]? =some (.cells [.bsl (q.length+2) (j+1) B,.bsl bi 0 0,.bsl (B5.length+2) (cs++[B5.length]).length k2]):=by rw[L];simp[zq];omega
   have w:∀b,b≠bs.length->B7[b]? =B6[b]?:=λb hb=>by rw[L,Ze (Ne.symm hb)]
   clear L
   conv=>whnf
   try dsimp only
   repeat' refine gW (wI ?_)<;>(conv=>whnf;try dsimp only)
   have hmp7:B7[B5.length]? =some (.mp []):=by rw[w _ (by omega)];exact hmp6
   have hb2:∀b,b<q.length->b≠bs.length->b≠E->b≠t->(B7.set B5.length (.tab ⟨[],0,[]⟩))[b]? =q[b]?:=λb v G Q h4=>by
    rw[Ze (by omega),w b G,f b (by omega) h4,g b G,D b v Q]
   have hbi7:bi<q.length:=(zB.1 O).1;refine⟨(j+1,B7.set B5.length (.tab ⟨[],0,[]⟩)),⟨⟨?_,q.length+2,B,bi,B5.length+2,k2,cs++[B5.length],?_,?_,⟨?_,?_,?_,?_⟩,?_,?_,?_,?_,?_,?_,?_,?_,?_,?_,?_,?_⟩,?_⟩,?_⟩
   .dsimp only;omega
   .simp [q2]
   .dsimp only;rw[Ze (by omega)]
    exact hstr7
   .dsimp only;rw[Ze (by omega),w _ (by omega)]
    exact hrow6
   .simpa using hk2
   .simp;omega
   .intro c n;dsimp only;rcases zY.1 n with n|n
    .obtain ⟨y,m,v,G⟩:=u.tab c n;have hcl:=(zB.1 v).1;have hcp:=F c n;refine⟨y,m,?_,G⟩;rw[hb2 c hcl (by omega) (λe=>by rw[e,W] at v;cases v) (λe=>by rw[e,u.row] at v;cases v)]
     exact v
    .simp at n;subst n;exact⟨⟨[],0,[]⟩,[],by rw[List.getElem?_set_self (by omega)],⟨rfl,(λ_ h=>by cases h),(λ_ h=>by cases h),List.nodup_nil,List.nodup_nil,(λ_ h=>by cases h)⟩⟩
   .refine ⟨by dsimp only;rw[zm];omega,λb hb=>?_⟩
    dsimp only;rw[hb2 b (by have:=q4.1;omega) (by omega) (by omega) (by omega)]
    exact q4.2 b hb
   .omega
   .omega
   .dsimp only;rw[Ze (by omega),w _ (by omega),f _ (by omega) (by omega),g _ (by omega)]
    exact hrow4
   .exact K
   .omega
   .intro c n;rcases zY.1 n with n|n
    .exact F c n
    .simp at n;omega
   .refine List.nodup_append.2 ⟨q11,by simp,λa T b hb=>?_⟩
    simp at hb;subst hb;obtain⟨y,m,v,G⟩:=u.tab a T;have hcl:=(zB.1 v).1;omega
   .exact Z
   .omega
   .omega
   .dsimp only;rw[hb2 bi hbi7 (by omega) Y X]
    exact O
   .dsimp only;omega
   .refine al.Jf B5.length hmp7 ?_;refine al.atS ?_ rfl rfl
    conv=>whnf
    repeat' (first|(refine gV ?_;first|refine vE ?_|refine vI ?_)|exact True.intro)<;>conv=>whnf
  .obtain rfl:j=l.length:=by omega
   rw[zl (zG _)] at W;have hpl:bs.length<q.length:=(zB.1 q3).1;obtain⟨b3,P⟩:∃b3,b3=(q.set E .dead).set bs.length (.cells [slA Ac.av l,.bsl bi 0 0,.bsl t cs.length k]):=⟨_,rfl⟩;have Q:∀b,b≠E->b≠bs.length->b3[b]? =q[b]?:=λb v G=>by rw[P,Ze (Ne.symm G),Ze (Ne.symm v)]
   have hI0:wH b3 bs.length l [] (λ_ _=>True) bi 0 t k cs:=by
    refine⟨by rw[P,List.getElem?_set_self (by rw[zm];exact hpl)];rfl,by rw[Q bi Y (by omega),O];simp[aJ,cellsOf],zG _,by rw[Q t (Ne.symm q6) (by omega)];exact u.row,u.le,q2,q11,λi c n=>?_⟩
    have hcm:=zE n;obtain⟨y,m,v,G⟩:=u.tab c hcm;exact⟨y,m,by rw[Q c (λe=>by rw[e,W] at v;cases v) (by have:=F c hcm;omega)];exact v,G,trivial⟩
   have hP3:Pre bs b3:=⟨by rw[P];simpa using q4.1,λb hb=>by rw[Q b (by omega) (by omega)];exact q4.2 b hb⟩
   refine ax.by (fb:=false) (λst_ (a:Nat×List Box)=>⟨[(6,.ptr bs.length 0),(51,slA It.av its),(52,.int .i64 its.length),(53,.int .i64 (a.1:Int))],a.2,bs.length⟩)
    (λa=>a.1<=its.length/\∃N kj,wH a.2 bs.length l (its.take a.1) (λ_ _=>True) N kj t k cs/\Pre bs a.2/\bs.length<N/\t≠N/\t<a.2.length)
    (λa=>its.length-a.1) (0,b3) ⟨zJ _,bi,0,by simpa using hI0,hP3,Z,Ne.symm X,(zB.1 hI0.tabs).1⟩ ?_ ?_
   .refine al.mm AJ bs.length 0 (b:=E) (m:=l.length) (k:=R) (l:=l) q3 rfl W (zG _) ?_;rw[zz];simp only[List.set_cons_zero];rw[show (Box.cells [AV.sl Cap.no (l.map Ac.av),.bsl bi 0 0,.bsl t cs.length k])=.cells [slA Ac.av l,.bsl bi 0 0,.bsl t cs.length k] from rfl,<-P];exact⟨aD.refl _⟩
   .rintro ⟨j,z⟩ ⟨r1,N,kj,A,U,r4,r5,r6⟩;dsimp only at r1 A U r4 r5 r6;have hlt4:bs.length<z.length:=(zB.1 A.str).1;have hbj4:N<z.length:=(zB.1 A.items).1;have hln:(its.take j).length=j:=by rw[zn];omega
    have C:=A.str;rw[hln] at C
    by_cases hj:j<its.length
    .obtain ⟨i,hi⟩:∃i,its[j]? =some i:=⟨_,zA hj⟩
     conv=>whnf
     try dsimp only
     repeat' (first|refine gC (gD (cI ?_))|refine gI (gM (iE ?_))|refine gB (.last ?_)|refine jI.last ?_)<;>(conv=>whnf;try dsimp only)
     have hb0:aa z bs.length=some [slA Ac.av l,.bsl N j kj,.bsl t cs.length k]:=by simp[aa,C,Box.cs?]
     refine gi.of (by rw[aq,if_neg (by omega)];exact hb0) ?_
     conv=>whnf
     try dsimp only
     repeat' (first|refine gG (aW.fn (Ny i) ?_)|refine gB (.last ?_))<;>(conv=>whnf;try dsimp only)
     refine qZ.one AG (λy=>⟨rfl,rfl⟩) (x:=i) rfl ?_
     conv=>whnf
     try dsimp only
     repeat' refine gPr (pT ?_)<;>(conv=>whnf;try dsimp only)
     refine BB (Cs AG) (l:=its.take j) (l2:=[i]) (k:=kj) (k2:=1) (by rw[zg,zK hbj4];exact A.items) (by simp) (by simp;omega) rfl (by have:=A.le;omega) (by omega) λB K=>?_
     conv=>whnf
     refine⟨.inr ?_,?_⟩
     .conv=>whnf
      repeat' first|exact True.intro|refine And.intro (s4 (by omega) (by first|(simp;done)|(simp;omega))) ?_
     conv=>whnf
     try dsimp only
     skip;obtain⟨B5,s⟩:∃B5,B5=(z++[Box.cells [AV.int IntKind.i64 i.id,AV.str i.atom.name,AV.sl Cap.no (i.atom.args.map Tm.av)]]++[aJ It.av 3 1 [i]]).set N Box.dead++[aJ It.av 3 B (its.take j++[i])]:=⟨_,rfl⟩;have J:B5.length=z.length+3:=by rw[s];simp
     have g:∀b,b<z.length->b≠N->B5[b]? =z[b]?:=λb hb I=>by
      rw[s,zK (by simp;omega),Ze (Ne.symm I),zg,zK hb]
     have hrow5:B5[z.length+2]? =some (aJ It.av 3 B (its.take (j+1))):=by
      rw[s,zZ (by simp),ZC,hi]
      simp
     rw[show (z++[Box.cells [AV.int IntKind.i64 i.id,AV.str i.atom.name,AV.sl Cap.no (List.map Tm.av i.atom.args)]]++[aJ It.av 3 1 [i]]).length=z.length+2 by simp,<-s]
     have hl1:(its.take j++[i]).length=j+1:=by simp;omega
     rw[hl1] at K|-;clear s;refine gi.of (cs:=[slA Ac.av l,.bsl N j kj,.bsl t cs.length k]) (by simp[aa,g bs.length hlt4 (by omega),C,Box.cs?]) ?_
     conv=>whnf
     try dsimp only
     skip;refine⟨?_⟩;obtain⟨B6,o⟩:∃B6,B6=B5.set bs.length (Box.cells [.sl .no (l.map Ac.av),AV.bsl (z.length+2) (j+1) B,AV.bsl t cs.length k]):=⟨_,rfl⟩;rw[<-o];have hlen6:B6.length=z.length+3:=by rw[o,zm,J]
     have hstr6:B6[bs.length]? =some (.cells [slA Ac.av l,.bsl (z.length+2) (j+1) B,.bsl t cs.length k]):=by rw[o,List.getElem?_set_self (by omega)]
     have f:∀b,b≠bs.length->B6[b]? =B5[b]?:=λb hb=>by rw[o,Ze (Ne.symm hb)]
     clear o;have S:(its.take (j+1)).length=j+1:=by rw[zn];omega
     have hb6:∀b,b<z.length->b≠bs.length->b≠N->B6[b]? =z[b]?:=λb v G Q=>by rw[f b G,g b v Q]
     conv=>whnf
     try dsimp only
     repeat' refine gW (wI ?_)<;>(conv=>whnf;try dsimp only)
     refine⟨(j+1,B6),⟨⟨by dsimp only;omega,z.length+2,B,⟨by rw[S];exact hstr6,by dsimp only;rw[f _ (by omega)];exact hrow5,by rw[S];exact K,?_,A.tle,A.len,A.nod,λc d hd=>?_⟩,⟨by dsimp only;have:=U.1;omega,λb hb=>?_⟩,by omega,by omega,by dsimp only;omega⟩,by dsimp only;omega⟩,?_⟩
     .dsimp only;rw[hb6 t (zB.1 A.tabs).1 (by omega) r5]
      exact A.tabs
     .dsimp only;obtain⟨x,m,v,G,Q⟩:=A.tab c d hd;have hdm:=zE hd;obtain⟨n1,n2,n3⟩:=A.ne hdm;exact⟨x,m,by rw[hb6 d (zB.1 v).1 n1 n2];exact v,G,trivial⟩
     .dsimp only;rw[hb6 b (by have:=U.1;omega) (by omega) (by omega)]
      exact U.2 b hb
     refine al.atS ?_ rfl rfl
     conv=>whnf
     repeat' (first|(refine gV ?_;first|refine vE ?_|refine vI ?_)|exact True.intro)<;>conv=>whnf
    .obtain rfl:j=its.length:=by omega
     rw[zl (zG _)] at A
     conv=>whnf
     try dsimp only
     repeat' refine gC (gD (cJ ?_))<;>(conv=>whnf;try dsimp only)
     refine ae.raw (Bf A T) ?_;rintro r b5 ⟨rfl,s1,s2,s3⟩
     conv=>whnf
     try dsimp only
     skip;refine⟨_,aD.refl _,.inl ⟨rfl,⟨N,kj,t,k,cs,s1,(λh=>by have:=hV _ h;omega),(λh=>by have:=hV _ h;omega),(λc n h=>by have:=hV _ h;have:=F c n;omega),r5⟩,⟨by have:=U.1;exact ZN this s2,λb hb=>?_⟩⟩⟩
     rw[s3 b (by have:=U.1;omega) (λn=>by have:=F b n;omega)]
     exact U.2 b hb
end Go.CK
namespace Go.CK
open Go.AM Go.Proofs
theorem Oq{n:Int}{K:Int->Prop}(k:K n)(h:0<=n/\n<=18446744073709551615):mK .u64 n K:=⟨by rw[IntWalk.u64_in n h];exact k⟩
end Go.CK
namespace Go.AM
open Go.CK Go.RowKit Go.Proofs Go.Lib
variable{P:Program}
theorem lQ(w:World)(l m ty elem:TypeId)(z b o d g:Nat)(a:Addr)(c e:Nat)(cs:List Value)
  (hu:P.underlying l=some (.slice elem)) (hs:(P.info? elem).map (·.size)=some z) (n:cs.length=Nat.min c d*z)
  (f:∀j v,cs[j]? =some v->w.cell? (a.add j)=some v) (s:∀j,j<cs.length->(w.cell? ⟨b,o+j,none⟩).isSome=true) (r:∀j,j<cs.length->w.frozen? ⟨b,o+j,none⟩=false) (t:∀v∈cs,v.oneCell'=true):
  (Builtin.copy_ #[l,m] ty #[.slice (some ⟨b,o,none⟩) d g,.slice (some a) c e]).run P w=.ok (goInt (Nat.min c d)) (w.setCells b o cs):=by
 have p:=run_loadCells_list (P:=P) w a cs f;have h:=run_storeCells_cells (P:=P) b o cs 0 w (by simpa using s) (by simpa using r) t
 cases k:P.info? elem with
 |none=>simp[k] at hs
 |some i=>
  have q:i.size=z:=by simpa[k] using hs
  simp[Builtin.copy_,run_underlying hu,Builtin.lenOf,Builtin.firstCells,sizeOf,typeInfo,k,q,<-n,p,h]
end Go.AM
namespace Go.AM
open Go.CK Go.RowKit Go.Proofs
section
variable{E:Entry}{G:Gh}{s:St}{a:Act}{w:World}
theorem RS.FO(h:RS E G s a w){b:Nat}{cs:List AV}(hb:aa s.bs b=some cs):∃(vs:Array Value) (T:TypeId),w.heap[G.σ b]? =some (.cells vs T (0,0))/\cs.length<=vs.size/\w.shape? (G.σ b)=some (T,vs.size)/\(∀j,w.frozen? ⟨G.σ b,j,none⟩=false)/\∀j,j<cs.length->(w.cell? ⟨G.σ b,j,none⟩).isSome=true:=by
 obtain⟨vs,T,c,e⟩:=h.box b cs hb;have d:w.heap[G.σ b]? =some (.cells vs.toList.toArray T (0,0)):=by simpa using c
 refine⟨vs,T,c,e,by simp[World.shape?,c],λj=>(qW d j).2,λj f=>?_⟩
 rw[(qW d j).1,zA (by simpa using ZT f e)]
 rfl
theorem RS.An(h:RS E G s a w){b:Nat}{cs:List AV}(hb:aa s.bs b=some cs)(o:Nat)(xs:List AV)(us:List Value)(k:o+xs.length<=cs.length)(hu:us.length=xs.length)(e:∀u∈us,u.oneCell'=true)
  (f:∀j (c:j<xs.length) u,us[j]? =some u->RV G.M G.σ s.bs.length xs[j] u):RS E G (s.aU b (setAt cs o xs)) a (w.setCells (G.σ b) o us):=by
 obtain⟨w',i,g⟩:=c9 (P:=Tryz.prog) us xs s w b o 0 cs h hb (by omega) hu e f
 obtain⟨vs,T,c1,c2,_,c4,c5⟩:=h.FO hb;have d:=run_storeCells_cells (P:=Tryz.prog) (G.σ b) o us 0 w (λj c=>c5 _ (by omega)) (λj c=>c4 _) e
 rw[i] at d;cases d;exact g
theorem RS.LO(h:RS E G s a w){b:Nat}{cs:List AV}(k:aa s.bs b=some cs)(g:List AV)(v:g.length<=cs.length)(q:∀(j:Nat) x,g[j]? =some x->x=.top\/(cs[j]? =some x/\x.aI=x)):
  RS E {G with σ:=λc=>if c=s.bs.length then G.σ b else G.σ c} ⟨s.env,s.bs.set b .dead++[.row g],s.lo⟩ a w:=by
 have u:=aC k
 have f:∀c ds,aa (s.bs.set b .dead++[.row g]) c=some ds->(c=s.bs.length/\ds=g)\/(c<s.bs.length/\c≠b/\aa s.bs c=some ds):=λc ds d=>by
  rw[aq,zm] at d
  by_cases o:c=s.bs.length
  .rw [if_pos o,dT] at d;split at d
   .cases d
   .cases d;exact .inl ⟨o,rfl⟩
  .rw [if_neg o,bw] at d;split at d
   .cases d
   .rename_i B;exact .inr ⟨aC d,B,d⟩
 refine h.reb (λc=>if c=s.bs.length then b else c) (by simp) (λc q=>by rw[if_neg (by omega)]) (λc x i=>eK (cu rfl i)) (λc l d=>?_) (λc D ds p d m e=>?_)
 .rcases f c l d with ⟨rfl,rfl⟩|⟨A,t,r⟩
  .simp only[if_true];refine⟨cs,k,trivial,v,λj x i=>?_⟩;rcases q j x i with h|⟨h,C⟩
   .exact .inl h
   .exact .inr ⟨h,.inr C⟩
  .simp only[show c≠s.bs.length by omega,if_false]
   exact⟨l,r,trivial,zG _,λj x i=>.inr ⟨i,.inl trivial⟩⟩
 .rcases f c ds d with ⟨rfl,_⟩|⟨A,t,r⟩<;>rcases f D p m with ⟨rfl,_⟩|⟨z,n,y⟩
  .rfl
  .rw [if_pos rfl,if_neg (by omega)] at e
   exact absurd e.symm n
  .rw [if_pos rfl,if_neg (by omega)] at e
   exact absurd e t
  .rw [if_neg (by omega),if_neg (by omega)] at e
   exact e
end
theorem Gu{α:Type}{f:α->AV}{z k b:Nat}{l:List α}{bs:List Box}(hp:Plain f z)(hb:bs[b]? =some (aJ f z k l))(hk:0<k)(c:l.length<=k):aa bs b=some (cellsOf (l.map f)++List.replicate ((k-l.length)*z) .top)/\(cellsOf (l.map f)++List.replicate ((k-l.length)*z) AV.top).length=k*z:=by
 have hlen:(cellsOf (l.map f)++List.replicate ((k-l.length)*z) AV.top).length=k*z:=by
  rw[zC,hp.len,zf,<-ZL];congr 1;omega
 refine⟨?_,hlen⟩
 have a:cellsOf (l.map f)++List.replicate ((k-l.length)*z) AV.top≠[]:=λe=>by
  rw[e] at hlen;have:=Nat.mul_pos hk hp.pos;simp at hlen;omega
 simp only[aa,hb,aJ,ZG,dT,if_neg a]
theorem K7{α:Type}{f:α->AV}{z:Nat}(hp:Plain f z)(l:List α){i:Nat}(b:i<=l.length):cellsOf ((l.take i).map f)=(cellsOf (l.map f)).take (i*z)/\cellsOf ((l.drop i).map f)=(cellsOf (l.map f)).drop (i*z):=by
 have e:cellsOf (l.map f)=cellsOf ((l.take i).map f)++cellsOf ((l.drop i).map f):=by
  rw[<-jC,<-zu,List.take_append_drop]
 have a:(cellsOf ((l.take i).map f)).length=i*z:=by rw[hp.len,zn,yH b]
 rw[e];exact⟨by rw[<-a,List.take_left],by rw[<-a,List.drop_left]⟩
def jq{α:Type}(l:List α)(i:Nat)(x:α):List α:=l.take i++x::l.drop i
theorem bZ{α:Type}(l:List α)(i:Nat)(x:α):(jq l i x).length=l.length+1:=by
 simp only[jq,zC,zn,zX,Zd];omega
theorem vv{α:Type}{f:α->AV}{z:Nat}(hp:Plain f z)(l:List α){i:Nat}(a:i<=l.length)(x:α):cellsOf ((jq l i x).map f)=(cellsOf (l.map f)).take (i*z)++((f x).cells++(cellsOf (l.map f)).drop (i*z)):=by
 obtain⟨c,b⟩:=K7 hp l a;rw[jq,zu,zP,jC,c,cellsOf,b]
theorem BW{α:Type}{f:α->AV}{z:Nat}(hp:Plain f z)(l:List α){i:Nat}(g:i<=l.length)(x:α)(pad:List AV)(e:z<=pad.length){j:Nat}(o:j<(l.length+1)*z):
  (setAt (setAt (cellsOf (l.map f)++pad) ((i+1)*z) ((cellsOf (l.map f)).drop (i*z))) (i*z) (f x).cells)[j]? =(cellsOf ((jq l i x).map f))[j]?:=by
 have c:=hp.len (f:=f) l;rw[vv hp l g];generalize cellsOf (l.map f)=A at c|-;have d:=hp.sz x;have b:i*z<=l.length*z:=ZE _ g;have n:(i+1)*z=i*z+z:=Nat.succ_mul _ _;have p:(l.length+1)*z=l.length*z+z:=Nat.succ_mul _ _;rw[dZ,dZ,bn,Zd,zC,c,d,n]
 by_cases k:j<i*z
 .rw [if_neg (by omega),if_neg (by omega),zK (by omega),zK (by rw[zn];omega),Za,if_pos k]
 .have a:(A.take (i*z)).length=i*z:=by rw[zn,c,yH b]
  have m:(A.take (i*z)++((f x).cells++A.drop (i*z)))[j]? =((f x).cells++A.drop (i*z))[j-i*z]?:=by
   rw[zZ (by rw[a];omega),a]
  rw[m]
  by_cases h:j<i*z+z
  .rw [if_pos ⟨by omega,h,by omega⟩,zK (by omega)]
  .rw [if_neg (by omega),if_pos ⟨by omega,by omega,by omega⟩,zZ (by omega),List.getElem?_drop,List.getElem?_drop,d]
   congr 1;omega
theorem Fv{α:Type}{f:α->AV}{z:Nat}(hp:Plain f z)(l:List α){i:Nat}(m:i<=l.length)(x:α)(g pad:List AV)(d:g=(cellsOf (l.map f)).take (i*z)++pad)(k:(l.length+1)*z<=i*z+pad.length){j:Nat}(q:j<(l.length+1)*z):
  (setAt (setAt g (i*z) (f x).cells) ((i+1)*z) ((cellsOf (l.map f)).drop (i*z)))[j]? =(cellsOf ((jq l i x).map f))[j]?:=by
 have e:=hp.len (f:=f) l;rw[vv hp l m];generalize cellsOf (l.map f)=A at e d|-;have h:=hp.sz x;have b:i*z<=l.length*z:=ZE _ m;have p:(i+1)*z=i*z+z:=Nat.succ_mul _ _;have s:(l.length+1)*z=l.length*z+z:=Nat.succ_mul _ _;have a:(A.take (i*z)).length=i*z:=by rw[zn,e,yH b]
 have c:g.length=i*z+pad.length:=by rw[d,zC,a]
 rw[dZ,dZ,bn,Zd,c,e,h,p]
 by_cases r:j<i*z
 .rw [if_neg (by omega),if_neg (by omega),d,zK (by omega),zK (by omega)]
 .have o:(A.take (i*z)++((f x).cells++A.drop (i*z)))[j]? =((f x).cells++A.drop (i*z))[j-i*z]?:=by
   rw[zZ (by rw[a];omega),a]
  rw[o]
  by_cases n:j<i*z+z
  .rw [if_neg (by omega),if_pos ⟨by omega,n,by omega⟩,zK (by omega)]
  .rw [if_pos ⟨by omega,by omega,by omega⟩,zZ (by omega),List.getElem?_drop,List.getElem?_drop,h]
   congr 1;omega
theorem Nw{E:Entry}{G:Gh}{bs:List Box}{lo:Nat}{w:World}(h:RS E G ⟨[],bs,lo⟩ ⟨#[.tuple #[]],[]⟩ w)(he:0<E.nt){x:AV}{v:Value}(a:RV G.M G.σ bs.length x v):RS E G ⟨[(0,x)],bs,lo⟩ ⟨#[v],[]⟩ w:=h.put (k:=0) he (x:=x) (v:=v) a
end Go.AM
namespace Go.CK
open Go.AM Go.Proofs
def sU(acc:List Ac)(its:List It)(k:Int)(key:List Tm):List Int:=
 if 0<=k then match acc[k.toNat]? with
  |some c=>if key.length=c.positions.length then sel c (fS key) its else []
  |none=>[]
 else []
set_option maxHeartbeats 1000000 in
theorem Fh{V:Nat->Prop}{bs:List Box}{p:Nat}{acc:List Ac}{its:List It}{k:Int}{key:List Tm}(h:O8 V bs p acc its)(D:Eg acc its)(B:Tm.ios key)(hlen:(bP key).length<=100000000)(hk:key.length<=10000000):
  AM.Sem Tryz.prog 13 [.ptr p 0,.int .i64 k,slA Tm.av key] bs λr bs'=>r=slA aG (sU acc its k key)/\bs'=bs:=by
 obtain⟨bi,ki,t,kt,cs,m,R,Q,P,O⟩:=h;have g:=D.few;have I:=D.accs;have N:aa bs p=some [slA Ac.av acc,.bsl bi its.length ki,.bsl t cs.length kt]:=by simp[aa,m.str,Box.cs?]
 have M:=m.len;have o:=Gi B hlen;refine l6 (by simp) ?_
 unfold sU
 by_cases E:0<=k
 .rw [if_pos E];obtain⟨n,rfl⟩:=Int.eq_ofNat_of_zero_le E;rw[Zn]
  cases j:acc[n]? with
  |none=>
   have L:=List.getElem?_eq_none_iff.1 j
   conv=>whnf
   try dsimp only
   repeat' (first|(refine gC ?_;first|refine cY ?_|refine cN ?_|(refine gD ?_;first|refine cI ?_|refine cJ ?_))|refine gL (.map ?_)|refine gB (.of (by assumption) ?_))<;>(conv=>whnf;try dsimp only)
   refine⟨_,aD.refl _,.inr ?_⟩
   conv=>whnf
   exact⟨rfl,rfl⟩
  |some c=>
   have L:=(zB.1 j).1;have K:=D.poss c (zE j);dsimp only
   by_cases f:key.length=c.positions.length
   .rw [if_pos f];obtain⟨e,i⟩:∃e,cs[n]? =some e:=⟨_,zA (by omega)⟩
    obtain⟨y,l,H,G,F⟩:=m.tab n e c i j
    conv=>whnf
    try dsimp only
    repeat' (first|(refine gC ?_;first|refine cN ?_|refine .not ?_|(refine gD ?_;first|refine cI ?_|refine cJ ?_))|refine gL (.map ?_)|refine gN (nS ?_)|refine gI (gM (iE ?_))|refine gB (.of (by assumption) ?_))<;>(conv=>whnf;try dsimp only)
    refine ElN.one (λ_=>⟨rfl,rfl⟩) (l:=cs) (x:=e) m.tabs (by simpa using i) ?_
    conv=>whnf
    try dsimp only
    repeat' refine gG (aW.fn (o) ?_)<;>(conv=>whnf;try dsimp only)
    refine⟨⟨e,y,l,fS key,rfl,H,G,λr hr A=>?_,λz=>?_⟩⟩
    .have d:=(F.ids r hr).1;have J:r.ids.length<=100000:=by rw[d];exact ZN (Ai _ _ _) g
     conv=>whnf
     try dsimp only
     skip;refine ae.raw (Jm (b:=e) (x:=y) (l:=l) (r:=r) H G hr (by omega)) ?_
     rintro v S ⟨rfl,rfl⟩
     conv=>whnf
     try dsimp only
     skip;refine⟨_,aD.refl _,.inl ⟨?_,rfl⟩⟩;rw[d,A];rfl
    .have s:sel c (fS key) its=[]:=by
      cases hs:sel c (fS key) its with
      |nil=>rfl
      |cons a q=>
       obtain⟨r,w,u⟩:=F.all (fS key) (by rw[hs];simp)
       exact absurd u (z r w)
     have C:=ym (l:=[]) (by simp)
     rw[s]
     conv=>whnf
     try dsimp only
     repeat' refine gF (ae.fn (C) ?_)<;>(conv=>whnf;try dsimp only)
     exact⟨_,aD.refl _,.inl ⟨rfl,rfl⟩⟩
   .rw [if_neg f]
    conv=>whnf
    try dsimp only
    repeat' (first|(refine gC ?_;first|refine cN ?_|refine .not ?_|refine gD (cJ ?_))|refine gL (.map ?_)|refine gI (gM (iE ?_))|refine gB (.of (by assumption) ?_))<;>(conv=>whnf;try dsimp only)
    refine⟨_,aD.refl _,.inr ?_⟩
    conv=>whnf
    exact⟨rfl,rfl⟩
 .rw [if_neg E]
  conv=>whnf
  try dsimp only
  repeat' (refine gC ?_;first|refine cY ?_|refine cN ?_|refine gD (cI ?_))<;>(conv=>whnf;try dsimp only)
  refine⟨_,aD.refl _,.inr ?_⟩
  conv=>whnf
  exact⟨rfl,rfl⟩
end Go.CK
namespace Go.CK
open Go.AM Go.Proofs
def Il(a:Ac):Bool:=decide (a.name.size<=60)&&decide (a.positions.length<=10)
end Go.CK
namespace Go.CK
open Go.AM Go.Proofs
theorem lr{t:UInt8}{n:Int}(h:dO n):(dh t n).length<=31:=by
 have:=C0 h.1 h.2;simp only[dh,zX];omega
theorem I2(s:ByteArray)(hs:s.size<=1000000):(dA s).length<=32+s.size:=by
 have:=lr (t:=115) (n:=s.size) ⟨by omega,by omega⟩
 simp only[dA,zC,zX,<-size_data];omega
theorem pc{n:Nat}:∀{l:List Tm},(∀t∈l,(ck t).length<=n)->(bP l).length<=l.length*n
 |[],_=>by simp[bP]
 |a::l,h=>by
  have d:=h a (by simp)
  have c:=pc (l:=l) λt b=>h t (by simp[b])
  rw[bP,zC,zX,Nat.succ_mul];omega
theorem Cr{a:Int}:∀{l:List Int} {last:Int},wY a last l=true->∀p∈l,last<p/\p<a
 |[],_,_,p,hp=>by cases hp
 |x::l,last,h,p,hp=>by
  rw[wY] at h;simp only[zD,decide_eq_true_eq] at h;rcases zI.1 hp with rfl|hp
  .exact ⟨h.1,h.2.1⟩
  .have:=Cr h.2.2 p hp;exact⟨by omega,this.2⟩
theorem GU{c:Ac}{s:ByteArray}{args:List Tm}(hr:c.right=true)(a:c.has s args=true):Gz c args:=by
 simp only[Ac.right,zD,decide_eq_true_eq] at hr;simp only[Ac.has,zD,decide_eq_true_eq] at a;intro p hp;have:=Cr hr.2.2.2 p hp;omega
theorem tG:∀{l:List It} {last:Int},stB last l=true->Asc l/\∀i∈l,last<i.id/\i.atom.right=true
 |[],_,_=>⟨List.Pairwise.nil,λ_ h=>by cases h⟩
 |x::l,last,h=>by
  rw[stB] at h;simp only[zD,decide_eq_true_eq] at h;obtain⟨d,b⟩:=tG h.2.2;refine⟨ZA.2 ⟨λy c=>(b y c).1,d⟩,λi a=>?_⟩;rcases zI.1 a with rfl|a
  .exact ⟨h.1,h.2.1⟩
  .have:=b i a;exact⟨by omega,this.2⟩
theorem Cb{l:List It}(h:cC l=true):Asc l:=by
 simp only[cC,zD] at h;exact(tG h.2).1
end Go.CK
namespace Go.CK
open Go.Lib
def GO(b:UInt8):Bool:=decide (48<=b.toNat)&&decide (b.toNat<=57)
theorem pV{n:Nat}(h:n<256):(UInt8.ofNat n).toNat=n:=by rw[UInt8.toNat_ofNat'];exact Nat.mod_eq_of_lt h
theorem mr:∀(k u:Nat),u<=k->∀b∈decDigits u,GO b=true
 |k,u,hk,b,hb=>by
  rw[decDigits] at hb;split at hb
  .rename_i h;simp only[zp] at hb;subst hb;simp only[GO,pV (show 48+u<256 by omega),zD,decide_eq_true_eq];omega
  .rename_i h;rcases zY.1 hb with a|a
   .match k,hk with
    |0,hk=>omega
    |k+1,hk=>exact mr k (u/10) (by omega) b a
   .simp only[zp] at a;subst a;simp only[GO,pV (show 48+u %10<256 by omega),zD,decide_eq_true_eq];omega
def nW(l:List UInt8):Nat:=l.foldl (λn b=>10*n+(b.toNat-48)) 0
theorem Dq(l:List UInt8)(b:UInt8):nW (l++[b])=10*nW l+(b.toNat-48):=by simp[nW]
theorem o7:∀(k u:Nat),u<=k->nW (decDigits u)=u
 |k,u,hk=>by
  rw[decDigits];split
  .rename_i h;simp only[nW,Zv,List.foldl_nil,pV (show 48+u<256 by omega)];omega
  .rename_i h
   match k,hk with
   |0,hk=>omega
   |k+1,hk=>
    rw[Dq,o7 k (u/10) (by omega),pV (by omega)];omega
theorem jz(u:Nat):nW (decDigits u)=u:=o7 u u (zG _)
theorem Dv{u v:Nat}{x:List UInt8}(h:45::x=decDigits v):False:=by
 have:=mr v v (zG _) 45 (by rw[<-h];simp)
 revert this;decide
theorem Ki{n m:Int}(h:itoa n=itoa m):n=m:=by
 unfold itoa at h;split at h
 .split at h
  .have:=congrArg nW (List.cons.inj h).2;rw[jz,jz] at this;omega
  .exact (Dv (u:=0) h).elim
 .split at h
  .exact (Dv (u:=0) h.symm).elim
  .have:=congrArg nW h;rw[jz,jz] at this;omega
def isNum(b:UInt8):Bool:=GO b||decide (b=45)
theorem CZ(n:Int):∀b∈itoa n,isNum b=true:=λb hb=>by
 unfold itoa at hb;unfold isNum;split at hb
 .rcases zI.1 hb with rfl|hb
  .simp
  .rw [mr _ _ (zG _) b hb];rfl
 .rw [mr _ _ (zG _) b hb];rfl
def fQ(x:List UInt8):Prop:=∀b r,x=b::r->isNum b=false
theorem BQ{l x:List UInt8}(c:∀b∈l,isNum b=true)(d:fQ x):(l++x).takeWhile isNum=l:=by
 induction l with
 |nil=>
  cases x with
  |nil=>rfl
  |cons b r=>rw[Zi,List.takeWhile_cons_of_neg (by rw[d b r rfl];simp)]
 |cons a l ih=>
  rw[ze,List.takeWhile_cons_of_pos (c a (by simp)),ih λb hb=>c b (by simp[hb])]
theorem Kh{n m:Int}{x y:List UInt8}(c:fQ x)(b:fQ y)(h:itoa n++x=itoa m++y):n=m/\x=y:=by
 have a:=congrArg (List.takeWhile isNum) h;rw[BQ (CZ n) c,BQ (CZ m) b] at a;obtain rfl:=Ki a;exact⟨rfl,List.append_cancel_left h⟩
theorem lu{s t:UInt8}{n m:Int}{x y:List UInt8}(b:fQ x)(a:fQ y)(h:dh s n++x=dh t m++y):s=t/\n=m/\x=y:=by
 simp only[dh,ze,Zx] at h;exact⟨h.1,Kh b a h.2⟩
theorem ma{t:UInt8}(a:isNum t=false)(n:Int)(x:List UInt8):fQ (dh t n++x):=λb r e=>by
 simp only[dh,ze,Zx] at e;rw[<-e.1];exact a
theorem pQ(s:ByteArray)(x:List UInt8):fQ (dA s++x):=by
 rw[dA,zg];exact ma (by decide) _ _
theorem BI{s t:ByteArray}{x y:List UInt8}(h:dA s++x=dA t++y):s=t/\x=y:=by
 simp only[dA,zg,ze] at h;obtain⟨_,g,a⟩:=lu (λb r e=>by rw[<-(List.cons.inj e).1];decide) (λb r e=>by rw[<-(List.cons.inj e).1];decide) h
 have a:=(List.cons.inj a).2
 have f:s.data.toList.length=t.data.toList.length:=by
  have j:=size_data s;have i:=size_data t;omega
 obtain⟨c,d⟩:=List.append_inj a f;refine⟨?_,d⟩;obtain⟨⟨s⟩⟩:=s;obtain⟨⟨t⟩⟩:=t;simp only at c;subst c;rfl
theorem LD(t:Tm)(x:List UInt8):fQ (ck t++x):=by
 obtain⟨k,n,s,l⟩:=t;rw[ck];split
 .exact ma (by decide) _ _
 .split
  .exact ma (by decide) _ _
  .split
   .rw [zg,zg];exact ma (by decide) _ _
   .rw [zg,zg];exact ma (by decide) _ _
theorem Gg(l:List Tm){x:List UInt8}(a:fQ x):fQ (bP l++x):=by
 cases l with
 |nil=>exact a
 |cons t l=>rw[bP,zg];exact LD _ _
theorem JW:fQ []:=λ_ _ h=>by cases h
def Hf(l m:List Tm):Prop:=∀(i:Nat) (x y:Tm),l[i]? =some x->m[i]? =some y->x.cmp y=0
theorem oA:∀{l m:List Tm},l.length=m.length->(Tm.eI l m=0↔Hf l m)
 |[],[],_=>⟨λ_ i x y h=>by simp at h,λ_=>by simp[Tm.eI,eU]⟩
 |a::l,b::m,h=>by
  have ih:=oA (l:=l) (m:=m) (by simpa using h)
  rw[Tm.eI];constructor
  .intro e i x y d c
   by_cases f:a.cmp b=0
   .rw [f,uN] at e
    cases i with
    |zero=>simp at d c;subst d c;exact f
    |succ i=>exact ih.1 e i x y (by simpa using d) (by simpa using c)
   .rw [GD f] at e;exact absurd e f
  .intro hs;rw[hs 0 a b rfl rfl,uN];exact ih.2 λi x y d c=>hs (i+1) x y (by simpa using d) (by simpa using c)
theorem AN{a b:Int}:orI a b=0↔a=0/\b=0:=by
 unfold orI;split
 .simp [*]
 .exact ⟨λh=>absurd h (by assumption),λh=>absurd h.1 (by assumption)⟩
theorem N7{a b:Tm}:a.cmp b=0↔(a.kind=1/\b.kind=1/\a.num=b.num)\/(a.kind=0/\b.kind=0/\a.num=b.num)\/(a.kind=2/\b.kind=2/\a.args.length=b.args.length/\a.name=b.name/\Tm.eI a.args b.args=0)\/
  (a.kind≠0/\a.kind≠1/\a.kind≠2/\a.kind=b.kind/\a.num=b.num/\a.name=b.name):=by
 rw[Tm.cmp_eq,AN,si];unfold iG
 by_cases d:a.kind=1
 .by_cases g1:b.kind=1
  .simp [d,g1,si]
  .by_cases g0:b.kind=0
   .simp [d,g0]
   .by_cases g2:b.kind=2
    .simp [d,g2]
    .simp [d,g1,g0,g2]
 .by_cases e:a.kind=0
  .by_cases g1:b.kind=1
   .simp [e,g1]
   .by_cases g0:b.kind=0
    .simp [e,g0,si]
    .by_cases g2:b.kind=2
     .simp [e,g2]
     .simp [e,g1,g0,g2]
  .by_cases c:a.kind=2
   .by_cases g1:b.kind=1
    .simp [c,g1]
    .by_cases g0:b.kind=0
     .simp [c,g0]
     .by_cases g2:b.kind=2
      .simp [c,g2];rw[AN,AN,si,K4,Int.ofNat_inj]
      .simp [c,g1,g0,g2]
   .by_cases g1:b.kind=1
    .simp [d,e,c,g1]
    .by_cases g0:b.kind=0
     .simp [d,e,c,g0]
     .by_cases g2:b.kind=2
      .simp [d,e,c,g2]
      .simp [d,e,c,g1,g0,g2,AN,si,K4]
theorem rf{l m:List Tm}(ih:∀a∈l,∀b,(a.cmp b=0->ck a=ck b)/\∀x y,fQ x->fQ y->ck a++x=ck b++y->a.cmp b=0/\x=y)(hlen:l.length=m.length):
  (Hf l m->bP l=bP m)/\∀x y,fQ x->fQ y->bP l++x=bP m++y->Hf l m/\x=y:=by
 induction l generalizing m with
 |nil=>
  cases m with
  |nil=>exact⟨λ_=>rfl,λx y _ _ h=>⟨λi x y h=>by simp at h,h⟩⟩
  |cons b m=>simp at hlen
 |cons a l e=>
  cases m with
  |nil=>simp at hlen
  |cons b m=>
   obtain⟨s,r⟩:=ih a (by simp) b
   obtain⟨q,p⟩:=e (m:=m) (λa g=>ih a (by simp[g])) (by simpa using hlen)
   constructor
   .intro hs;rw[bP,bP,s (hs 0 a b rfl rfl),q λi x y d c=>hs (i+1) x y (by simpa using d) (by simpa using c)]
   .intro x y d c h;rw[bP,bP,zg,zg] at h;obtain⟨o,n⟩:=r _ _ (Gg l d) (Gg m c) h;obtain⟨k,j⟩:=p x y d c n;refine⟨λi u v hu f=>?_,j⟩
    cases i with
    |zero=>simp at hu f;subst hu f;exact o
    |succ i=>exact k i u v (by simpa using hu) (by simpa using f)
theorem Jd(a:Tm):∀b,(a.cmp b=0->ck a=ck b)/\∀x y,fQ x->fQ y->ck a++x=ck b++y->a.cmp b=0/\x=y:=by
 induction a using Tm.bA with
 |h k n s l ih=>
  intro b;obtain⟨k',n',r,l'⟩:=b;rw[N7];simp only[Tm.kind,Tm.num,Tm.name,Tm.args];constructor
  .rintro (⟨rfl,rfl,rfl⟩|⟨rfl,rfl,rfl⟩|⟨rfl,rfl,c,rfl,d⟩|⟨c,d,e,rfl,rfl,rfl⟩)
   .simp [ck]
   .simp [ck]
   .have:=(rf ih c).1 ((oA c).1 d);simp[ck,c,this]
   .simp [ck,c,d,e]
  .intro x y j i h
   by_cases f:k=1
   .subst f
    by_cases f1:k'=1
    .subst f1;simp only[ck,if_true,if_neg (show¬(1:Int)=0 by decide)] at h
     obtain⟨_,c,d⟩:=lu j i h;exact⟨.inl ⟨rfl,rfl,c⟩,d⟩
    .exfalso;rw[ck,ck,if_neg (by decide),if_pos rfl,if_neg f1] at h
     simp only[dh] at h;split at h
     .exact absurd (List.cons.inj h).1 (by decide)
     .split at h
      .exact absurd (List.cons.inj h).1 (by decide)
      .exact absurd (List.cons.inj h).1 (by decide)
   .by_cases g:k=0
    .subst g
     by_cases f0:k'=0
     .subst f0;simp only[ck,if_true] at h;obtain⟨_,c,d⟩:=lu j i h;exact⟨.inr (.inl ⟨rfl,rfl,c⟩),d⟩
     .exfalso;rw[ck,ck,if_pos rfl,if_neg f0] at h;simp only[dh] at h;split at h
      .exact absurd (List.cons.inj h).1 (by decide)
      .split at h
       .exact absurd (List.cons.inj h).1 (by decide)
       .exact absurd (List.cons.inj h).1 (by decide)
    .by_cases q:k=2
     .subst q
      by_cases f2:k'=2
      .subst f2;simp only[ck,if_true,if_neg (show¬(2:Int)=0 by decide),if_neg (show¬(2:Int)=1 by decide),zg] at h
       obtain⟨_,c,d⟩:=lu (pQ _ _) (pQ _ _) h;have c:l.length=l'.length:=by omega
       obtain⟨e,p⟩:=BI d;obtain⟨o,m⟩:=(rf ih c).2 x y j i p;exact⟨.inr (.inr (.inl ⟨rfl,rfl,c,e,(oA c).2 o⟩)),m⟩
      .exfalso;rw[ck,ck,if_neg g,if_neg f,if_pos rfl,if_neg f2] at h;simp only[dh] at h;split at h
       .exact absurd (List.cons.inj h).1 (by decide)
       .split at h
        .exact absurd (List.cons.inj h).1 (by decide)
        .exact absurd (List.cons.inj h).1 (by decide)
     .rw [ck,if_neg g,if_neg f,if_neg q,ck] at h
      by_cases f0:k'=0
      .exfalso;rw[if_pos f0] at h;exact absurd (List.cons.inj h).1 (by decide)
      .by_cases f1:k'=1
       .exfalso;rw[if_neg f0,if_pos f1] at h;exact absurd (List.cons.inj h).1 (by decide)
       .by_cases f2:k'=2
        .exfalso;rw[if_neg f0,if_neg f1,if_pos f2] at h;exact absurd (List.cons.inj h).1 (by decide)
        .rw [if_neg f0,if_neg f1,if_neg f2,zg,zg,zg,zg] at h;obtain⟨_,c,d⟩:=lu (ma (by decide) _ _) (ma (by decide) _ _) h
         obtain⟨_,e,p⟩:=lu (pQ _ _) (pQ _ _) d;obtain⟨o,m⟩:=BI p;exact⟨.inr (.inr (.inr ⟨g,f,q,c,e,o⟩)),m⟩
theorem Hr{l m:List Tm}(h:l.length=m.length):bP l=bP m↔Hf l m:=by
 obtain⟨d,c⟩:=rf (l:=l) (m:=m) (λa _ b=>Jd a b) h;exact⟨λe=>(c [] [] JW JW (by rw[e])).1,d⟩
end Go.CK
namespace Go.CK
open Go.AM Go.Proofs
open Go.AM Go.Proofs
def Da(b:List Bnd)(v:Int):Int:=match b.findIdx? λx=>decide (x.v=v) with
 |none=>-1
 |some i=>i
theorem GR{b:List Bnd}{v:Int}(h:∀(i:Nat) (x:Bnd),b[i]? =some x->¬x.v=v):Da b v=-1/\aX b v=none:=by
 have c:b.findIdx? (λx=>decide (x.v=v))=none:=by
  rw[List.findIdx?_eq_none_iff];intro x a;obtain⟨i,d⟩:=ZR a;exact decide_eq_false (h i x d)
 refine⟨by unfold Da;rw[c],?_⟩
 induction b with
 |nil=>rfl
 |cons y b ih=>
  rw[aX,if_neg (h 0 y rfl)];refine ih (λi x a=>h (i+1) x (by simpa using a)) ?_
  rw[List.findIdx?_eq_none_iff] at c|-;exact λx a=>c x (zQ _ a)
theorem GS{b:List Bnd}{v:Int}{i:Nat}{x:Bnd}(a:b[i]? =some x)(c:x.v=v)(h:∀(j:Nat) (y:Bnd),j<i->b[j]? =some y->¬y.v=v):Da b v=i/\aX b v=some x.t:=by
 have e:b.findIdx? (λx=>decide (x.v=v))=some i:=by
  rw[List.findIdx?_eq_some_iff_getElem];obtain⟨g,he⟩:=zB.1 a;refine⟨g,by rw[he];exact decide_eq_true c,λj d=>?_⟩
  have:=h j _ d (zA (by omega))
  simpa using this
 refine⟨by unfold Da;rw[e],?_⟩
 clear e
 induction b generalizing i with
 |nil=>simp at a
 |cons y b ih=>
  cases i with
  |zero=>
   simp at a;subst a
   rw[aX,if_pos c]
  |succ i=>
   rw[aX,if_neg (h 0 y (by omega) rfl)]
   exact ih (by simpa using a) λj z d f=>h (j+1) z (by omega) (by simpa using f)
theorem rS:∀{l acc:List Int} {v:Int},v∈bT acc l↔v∈acc\/v∈l
 |[],acc,v=>by simp[bT]
 |a::l,acc,v=>by
  show v∈bT (wD acc a) l↔_;rw[rS (l:=l)];unfold wD;split
  .rename_i h;simp only[zI];constructor
   .rintro (b|b)
    .exact .inl b
    .exact .inr (.inr b)
   .rintro (b|rfl|b)
    .exact .inl b
    .exact .inl h
    .exact .inr b
  .simp [zY,zI,or_assoc]
end Go.CK
