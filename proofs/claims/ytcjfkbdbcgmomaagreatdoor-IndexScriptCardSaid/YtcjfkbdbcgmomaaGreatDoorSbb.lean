/-
  Texts of this aV joined (wip/gen/bundle.py),those declarations only that are needed:IxQ IxRb RcIxc IxSt. By an AI agent.
-/
import Derived.Test.YtcjfkbdbcgmomaaGreatDoorSba
set_option linter.unusedSimpArgs false
set_option linter.unusedVariables false
set_option maxRecDepth 100000
namespace Go.CK
open Go.AM Go.Proofs
structure cW(bs:List Box)(p:Nat)(acc:List Ac)(its:List It)(f:Nat->List It)(bi ki t kt:Nat)(cs:List Nat):Prop where
 str:bs[p]? =some (.cells [slA Ac.av acc,.bsl bi its.length ki,.bsl t cs.length kt])
 items:bs[bi]? =some (aN It.av 3 ki its)
 le:its.length<=ki
 tabs:bs[t]? =some (aN AV.mpt 1 kt cs)
 tle:cs.length<=kt
 len:cs.length=acc.length
 nod:cs.Nodup
 tab:∀k c a,cs[k]? =some c->acc[k]? =some a->∃x l,bs[c]? =some (.tab x)/\ib x l/\TabIs a (f k) l
theorem cW.lt{bs:List Box}{p:Nat}{acc:List Ac}{its:List It}{f:Nat->List It}{bi ki t kt:Nat}{cs:List Nat}(h:cW bs p acc its f bi ki t kt cs):p<bs.length/\bi<bs.length/\t<bs.length/\∀c∈cs,c<bs.length:=by
 refine⟨(zB.1 h.str).1,(zB.1 h.items).1,(zB.1 h.tabs).1,λc hc=>?_⟩;obtain⟨k,hk⟩:=ZT hc;have hlt:=(zB.1 hk).1;obtain⟨x,l,h1,_⟩:=h.tab k c _ hk (zA (by rw[<-h.len];exact hlt))
 exact(zB.1 h1).1
theorem cW.mono{bs b2:List Box}{p:Nat}{acc:List Ac}{its:List It}{f:Nat->List It}{bi ki t kt:Nat}{cs:List Nat}(h:cW bs p acc its f bi ki t kt cs)(hb:∀b,b=p\/b=bi\/b=t\/b∈cs->b2[b]? =bs[b]?):cW b2 p acc its f bi ki t kt cs:=
 ⟨by rw[hb _ (.inl rfl)];exact h.str,by rw[hb _ (.inr (.inl rfl))];exact h.items,h.le,by rw[hb _ (.inr (.inr (.inl rfl)))];exact h.tabs,h.tle,h.len,h.nod,λk c a hc ha=>by rw[hb _ (.inr (.inr (.inr (zE hc))))];exact h.tab k c a hc ha⟩
theorem cW.snoc{bs:List Box}{p:Nat}{acc:List Ac}{its:List It}{f:Nat->List It}{bi ki t kt:Nat}{cs:List Nat}(h:cW bs p acc its f bi ki t kt cs)(x:Box):cW (bs++[x]) p acc its f bi ki t kt cs:=
 h.mono λb hb=>by
  obtain⟨h1,h2,h3,h4⟩:=h.lt;refine zK ?_;rcases hb with rfl|rfl|rfl|hb
  .exact h1
  .exact h2
  .exact h3
  .exact h4 _ hb
theorem cW.ne{bs:List Box}{p:Nat}{acc:List Ac}{its:List It}{f:Nat->List It}{bi ki t kt:Nat}{cs:List Nat}(h:cW bs p acc its f bi ki t kt cs){c:Nat}(hc:c∈cs):c≠p/\c≠bi/\c≠t:=by
 obtain⟨k,hk⟩:=ZT hc;have hlt:=(zB.1 hk).1;obtain⟨x,l,h1,_⟩:=h.tab k c _ hk (zA (by rw[<-h.len];exact hlt))
 refine⟨λe=>?_,λe=>?_,λe=>?_⟩
 .rw [e,h.str] at h1;cases h1
 .rw [e,h.items] at h1;cases h1
 .rw [e,h.tabs] at h1;cases h1
theorem cW.c9{bs:List Box}{p:Nat}{acc:List Ac}{its:List It}{f g:Nat->List It}{bi ki t kt:Nat}{cs:List Nat}(h:cW bs p acc its f bi ki t kt cs){j c:Nat}{a:Ac}(hc:cs[j]? =some c)(ha:acc[j]? =some a){x:TB}{l:List TR}(hx:ib x l)(ht:TabIs a (g j) l)(hg:∀k,k≠j->g k=f k):cW (bs.set c (.tab x)) p acc its g bi ki t kt cs:=by
 have hcm:=zE hc;obtain⟨n1,n2,n3⟩:=h.ne hcm;have hlt:=h.lt.2.2.2 c hcm;refine⟨by rw[Zh n1];exact h.str,by rw[Zh n2];exact h.items,h.le,by rw[Zh n3];exact h.tabs,h.tle,h.len,h.nod,λk d a' hd ha'=>?_⟩
 by_cases e:k=j
 .subst e;rw[hc] at hd;rw[ha] at ha';cases hd;cases ha';exact⟨x,l,by rw[List.getElem?_set_self hlt],hx,ht⟩
 .have hne:c≠d:=λe2=>by
   subst e2;exact e ((List.getElem?_inj (zB.1 hd).1 h.nod).1 (hd.trans hc.symm))
  rw[Zh hne,hg k e];exact h.tab k d a' hd ha'
theorem uE{B:List Box}{c:Nat}{y x:TB}(hb:B[c]? =some (.tab y)){b:Nat}:cellsD (B.set c (.tab x)) b=cellsD B b:=by
 simp only[cellsD,cx (y:=.tab x) hb rfl rfl]
theorem cW.cong{bs:List Box}{p:Nat}{acc:List Ac}{its:List It}{f g:Nat->List It}{bi ki t kt:Nat}{cs:List Nat}(h:cW bs p acc its f bi ki t kt cs)(hg:∀k,k<cs.length->f k=g k):cW bs p acc its g bi ki t kt cs:=
 ⟨h.str,h.items,h.le,h.tabs,h.tle,h.len,h.nod,λk c a hc ha=>by rw[<-hg k (zB.1 hc).1];exact h.tab k c a hc ha⟩
theorem Ii(id:Int):Fun Tryz.prog 105 [.sl .no [],.int .i64 id] (.tup [.int .i64 0,.bool false]):=by
 refine Fun.of (fq (by simp) ?_) rfl rfl
 conv=>whnf
 repeat' refine gL (.nil ?_)<;>conv=>whnf
 refine aJ.count (fb:=true) 0 (λst_ v=>st_) (λv=>True) trivial ?_ (λv hv _=>by omega) (λ_=>?_)
 .exact bH
 .conv=>whnf
  repeat' (first|refine gC (gD (cJ ?_))|refine ai.nrm ?_)<;>conv=>whnf
  all_goals rfl
structure rP(acc:List Ac)(i:It):Prop where
 io:Tm.ios i.atom.args
 pos:∀c∈acc,c.has i.atom.name i.atom.args=true->vV c i.atom.args
 len:∀c∈acc,c.has i.atom.name i.atom.args=true->(bh (keyOf c i.atom.args)).length<=100000000
 nds : Tm.aD i.atom.args ≤ 1000000
set_option maxHeartbeats 1000000 in
theorem tY{bs:List Box}{p:Nat}{acc:List Ac}{its:List It}{f:Nat->List It}{bi ki t kt:Nat}{cs:List Nat}{i:It}(h:cW bs p acc its f bi ki t kt cs)(hf:∀k,Asc (f k)/\(f k).length<=100000)(he:rP acc i)(hacc:acc.length<=1000000)(hpl:∀c∈acc,c.positions.length<=1000000):
  AM.Sem Tryz.prog 51 [.ptr p 0,i.av] bs λr bs'=>r=.tup []/\cW bs' p acc its (λk=>aY (f k) i) bi ki t kt cs/\bs.length<=bs'.length/\∀b,b<bs.length->b∉cs->bs'[b]? =bs[b]?:=by
 refine kZ (by simp) ?_
 conv=>whnf
 try dsimp only
 repeat' (refine gB ?_;first|refine .last ?_|refine .last2 ?_)<;>(conv=>whnf;try dsimp only)
 refine ah.raw wu ?_;rintro r b4 ⟨rfl,rfl⟩
 conv=>whnf
 try dsimp only
 skip;obtain⟨B4,hB4⟩:∃B4,B4=bs++[Box.cells [AV.ptr p 0]]++[Box.cells [AV.int IntKind.i64 i.id,AV.str i.atom.name,AV.sl Cap.no (List.map Tm.av i.atom.args)]]++[Box.cells [AV.ptr p 0]]++[Box.cells [AV.str i.atom.name,AV.sl Cap.no (List.map Tm.av i.atom.args)]]:=⟨_,rfl⟩;have hl4:B4.length=bs.length+4:=by rw[hB4];simp
 have e0:B4[bs.length]? =some (.cells [.ptr p 0]):=by rw[hB4];simp
 have e1:B4[bs.length+1]? =some (.cells [AV.int IntKind.i64 i.id,AV.str i.atom.name,AV.sl Cap.no (List.map Tm.av i.atom.args)]):=by rw[hB4];simp[List.getElem?_append]
 have e2:B4[bs.length+2]? =some (.cells [.ptr p 0]):=by rw[hB4];simp[List.getElem?_append]
 have e3:B4[bs.length+3]? =some (.cells [AV.str i.atom.name,AV.sl Cap.no (List.map Tm.av i.atom.args)]):=by rw[hB4];simp[List.getElem?_append]
 have hold:∀b,b<bs.length->B4[b]? =bs[b]?:=λb hb=>by
  rw[hB4,zh,zh,zh,zK hb]
 have hI:cW B4 p acc its f bi ki t kt cs:=by rw[hB4];exact(((h.snoc _).snoc _).snoc _).snoc _
 rw[<-hB4];simp only[zC,zY,ZR,ZJ,Zn,Nat.reduceAdd];clear hB4;refine ja.run (gf:=108) (lb:=[.ptr (bs.length+2) 0,.ptr (bs.length+3) 0]) ⟨[(2,.ptr bs.length 0),(3,.ptr (bs.length+1) 0),(12,.fn (.func 108) [] [.ptr (bs.length+2) 0,.ptr (bs.length+3) 0])],B4,bs.length⟩ ⟨au.refl _⟩ rfl (by kernel_rfl) λx hx=>?_
 rw[hl4] at hx|-;obtain⟨J,hJ⟩:∃J:Nat->List Box->Prop,J=λj b=>cW b p acc its (λk=>if k<j then aY (f k) i else f k) bi ki t kt cs/\b[bs.length]? =some (.cells [.ptr p 0])/\b[bs.length+1]? =some (.cells [AV.int IntKind.i64 i.id,AV.str i.atom.name,AV.sl Cap.no (List.map Tm.av i.atom.args)])/\b[bs.length+2]? =some (.cells [.ptr p 0])/\b[bs.length+3]? =some (.cells [AV.str i.atom.name,AV.sl Cap.no (List.map Tm.av i.atom.args)])/\b[bs.length+4]? =some (.loop x)/\∀k,k<bs.length->k∉cs->b[k]? =bs[k]?:=⟨_,rfl⟩
 have hK:DV (B4++[.loop x]) (bs.length+4) (bs.length+2) (bs.length+3) p acc i.atom.name i.atom.args J:=by
  refine⟨λj b hj=>?_,λj b hj=>?_,λj b hj=>?_,λj b y hj=>?_,λj b c hj hc hh=>?_,λj b c hj hc hh=>?_⟩
  .rw [hJ] at hj;exact hj.2.2.2.1
  .rw [hJ] at hj;exact hj.2.2.2.2.1
  .rw [hJ] at hj;exact⟨_,_,hj.1.str⟩
  .rw [hJ] at hj|-;obtain⟨a1,a2,a3,a4,a5,a6,a7⟩:=hj;have hlt:=(zB.1 a6).1;refine⟨a1.snoc y,?_,?_,?_,?_,?_,λk hk hkc=>?_⟩
   all_goals rw[zK (by omega)]
   all_goals first|assumption|exact a7 k hk hkc
  .rw [hJ] at hj|-;obtain⟨a1,a2⟩:=hj;refine⟨⟨a1.str,a1.items,a1.le,a1.tabs,a1.tle,a1.len,a1.nod,λk d a hd ha=>?_⟩,a2⟩;obtain⟨y,l,h1,h2,h3⟩:=a1.tab k d a hd ha;refine⟨y,l,h1,h2,?_⟩
   by_cases e:k=j
   .subst e;rw[hc] at ha;cases ha;rw[if_neg (Nat.lt_irrefl _)] at h3;rw[if_pos (Nat.lt_succ_self _)];exact h3.skip (hf k).1 hh
   .by_cases e2:k<j
    .rw [if_pos e2] at h3;rw[if_pos (by omega)];exact h3
    .rw [if_neg e2] at h3;rw[if_neg (by omega)];exact h3
  .refine hx _ _ _ ?_ rfl ?_
   .rw [hJ] at hj;simp[ag,hj.2.2.2.2.2.1,Box.lb?]
   rw[hJ] at hj;obtain⟨a1,a2,a3,a4,a5,a6,a7⟩:=hj;have hL:=(zB.1 a6).1;obtain⟨hp1,hp2,hp3,hp4⟩:=h.lt
   conv=>whnf
   try dsimp only
   skip;refine DW.mk (by simp[ag,a6,Box.lb?]) ?_
   obtain⟨B5,hB5⟩:∃B5,B5=b.set (bs.length+4) Box.dead:=⟨_,rfl⟩;have k5:∀k,k≠bs.length+4->B5[k]? =b[k]?:=λk hk=>by rw[hB5,Zh (Ne.symm hk)]
   have l5:B5.length=b.length:=by rw[hB5,zn]
   have g1:cW B5 p acc its (λk=>if k<j then aY (f k) i else f k) bi ki t kt cs:=a1.mono λk hk=>k5 k (by
    rcases hk with rfl|rfl|rfl|hk
    .omega
    .omega
    .omega
    .have:=hp4 k hk;omega)
   have b2:aa B5 bs.length=some [.ptr p 0]:=by simp[aa,k5 _ (show bs.length≠bs.length+4 by omega),a2,Box.cs?]
   have b3:aa B5 (bs.length+1)=some [AV.int IntKind.i64 i.id,AV.str i.atom.name,AV.sl Cap.no (List.map Tm.av i.atom.args)]:=by simp[aa,k5 _ (show bs.length+1≠bs.length+4 by omega),a3,Box.cs?]
   have b4:aa B5 p=some [slA Ac.av acc,.bsl bi its.length ki,.bsl t cs.length kt]:=by simp[aa,g1.str,Box.cs?]
   have hjl:j<cs.length:=by rw[h.len];exact(zB.1 hc).1
   rw[<-hB5];obtain⟨cj,hcj⟩:∃cj,cs[j]? =some cj:=⟨_,zA hjl⟩;obtain⟨y,l,y1,y2,y3⟩:=g1.tab j cj c hcj hc
   conv=>whnf
   try dsimp only
   repeat' (first|refine gN (nS ?_)|refine gB (.of (by assumption) ?_))<;>(conv=>whnf;try dsimp only)
   refine ElN.one (λ_=>⟨rfl,rfl⟩) (l:=cs) (x:=cj) g1.tabs (by simpa using hcj) ?_
   have fin:∀(row t1:Box) (x2:TB) (l2:List TR),ib x2 l2->TabIs c (aY (f j) i) l2->J (j+1) ((((B5++[row]).set cj t1).set cj (.tab x2)).set (bs.length+4) (.loop x)):=λrow t1 x2 l2 q1 q2=>by
    have hcm:=zE hcj;have hcl:=hp4 cj hcm;rw[List.set_set,hJ]
    have old:∀k,k<B5.length->k≠cj->k≠bs.length+4->(((B5++[row]).set cj (.tab x2)).set (bs.length+4) (.loop x))[k]? =b[k]?:=λk h1 h2 h3=>by
     rw[Zh (Ne.symm h3),Zh (Ne.symm h2),zK h1,k5 k h3]
    have g2:cW (((B5++[row]).set cj (.tab x2)).set (bs.length+4) (.loop x)) p acc its (λk=>if k<j+1 then aY (f k) i else f k) bi ki t kt cs:=by
     refine((g1.snoc row).c9 hcj hc q1 (g:=λk=>if k<j+1 then aY (f k) i else f k) (by simpa using q2) λk hk=>?_).mono λk hk=>?_
     .by_cases e:k<j
      .rw [if_pos e,if_pos (by omega)]
      .rw [if_neg e,if_neg (by omega)]
     .refine Zh ?_;rcases hk with rfl|rfl|rfl|hk
      .omega
      .omega
      .omega
      .have:=hp4 k hk;omega
    refine⟨g2,?_,?_,?_,?_,?_,λk hk hkc=>?_⟩
    .rw [old _ (by omega) (by omega) (by omega)];exact a2
    .rw [old _ (by omega) (by omega) (by omega)];exact a3
    .rw [old _ (by omega) (by omega) (by omega)];exact a4
    .rw [old _ (by omega) (by omega) (by omega)];exact a5
    .rw [List.getElem?_set_self (by simp;omega)]
    .rw [old k (by omega) (λe=>hkc (e▸hcm)) (by omega)];exact a7 k hk hkc
   conv=>whnf
   try dsimp only
   skip;have y3:TabIs c (f j) l:=by have:=y3;rwa [if_neg (Nat.lt_irrefl _)] at this
   refine⟨⟨cj,y,l,dw (keyOf c i.atom.args),rfl,y1,y2,λr hr hkr=>?_,λhno=>?_⟩⟩
   .have hids:=(y3.ids r hr).1;have hasc:r.ids.Pairwise (·<·):=by rw[hids];exact xJ (hf j).1
    have hrl:r.ids.length<=100000:=by rw[hids];exact ZP (sr _ _ _) (hf j).2
    have hcnt:=List.countP_le_length (p:=λx=>decide (x<i.id)) (l:=r.ids)
    conv=>whnf
    try dsimp only
    repeat' refine gB (.of (by assumption) ?_)<;>(conv=>whnf;try dsimp only)
    refine ah.raw (E9 (id:=i.id) y1 y2 hr (hasc.imp λh=>Int.le_of_lt h) (by omega)) ?_
    rintro v b7 ⟨rfl,rfl⟩
    conv=>whnf
    try dsimp only
    repeat' (first|refine gN (nS ?_)|refine gB (.of (by assumption) ?_))<;>(conv=>whnf;try dsimp only)
    refine ElN.one (λ_=>⟨rfl,rfl⟩) (l:=cs) (x:=cj) g1.tabs (by simpa using hcj) ?_
    conv=>whnf
    try dsimp only
    repeat' refine gB (.of (by assumption) ?_)<;>(conv=>whnf;try dsimp only)
    refine u9.one GV (λ_=>⟨rfl,rfl⟩) (x:=i.id) rfl ?_
    conv=>whnf
    try dsimp only
    repeat' refine gPr (pT ?_)<;>(conv=>whnf;try dsimp only)
    have hcb:=(zB.1 y1).1;refine ah.raw (Fa (b:=cj) (vb:=b7.length) (x:=y) (l:=l) (r:=r) (id:=i.id) (by rw[zK hcb];exact y1) y2 hr (by simp;rfl) hcnt (by omega)) ?_
    rintro v b8 ⟨r',x',rfl,hk',hids',hout,rfl⟩;have hcb2:(b7++[aN (AV.int IntKind.i64) 1 1 [i.id]])[cj]? =some (.tab y):=by rw[zK hcb];exact y1
    conv=>whnf
    refine⟨.inr ?_,?_⟩
    .conv=>whnf
     repeat' first|exact True.intro|refine And.intro (uE hcb2) ?_
    conv=>whnf
    try dsimp only
    skip;refine⟨⟨cj,x',l,r',by rw[hk',hkr];rfl,by rw[List.getElem?_set_self (by simp;omega)],hout,λx2 hx2=>?_⟩⟩
    conv=>whnf
    try dsimp only
    skip;refine⟨_,au.refl _,rfl,fin _ _ _ _ hx2 ?_⟩;have hsel:=Ay (c:=c) (hf j).1 hh;have hrid:r'.ids=sel c r'.key (aY (f j) i):=by rw[hids',hids,hk',hkr,hsel]
    refine y3.put y2.nodK (λk hk=>tc (hf j).1 ?_) hrid ?_
    .rw [hk',hkr] at hk;simp[Ne.symm hk]
    .rw [hids'];simp[gY]
   .have hse:sel c (dw (keyOf c i.atom.args)) (f j)=[]:=by
     cases hs:sel c (dw (keyOf c i.atom.args)) (f j) with
     |nil=>rfl
     |cons a q=>
      obtain⟨r,hr1,hr2⟩:=y3.all (dw (keyOf c i.atom.args)) (by rw[hs];simp)
      exact absurd hr2 (hno r hr1)
    have hbn:=Ii i.id
    conv=>whnf
    try dsimp only
    repeat' (first|refine gF (ah.fn (hbn) ?_)|refine gN (nS ?_)|refine gB (.of (by assumption) ?_))<;>(conv=>whnf;try dsimp only)
    refine ElN.one (λ_=>⟨rfl,rfl⟩) (l:=cs) (x:=cj) g1.tabs (by simpa using hcj) ?_
    conv=>whnf
    try dsimp only
    repeat' refine gB (.of (by assumption) ?_)<;>(conv=>whnf;try dsimp only)
    refine u9.one GV (λ_=>⟨rfl,rfl⟩) (x:=i.id) rfl ?_
    conv=>whnf
    try dsimp only
    repeat' refine gPr (pT ?_)<;>(conv=>whnf;try dsimp only)
    have hcb:=(zB.1 y1).1;refine ah.raw (xr (dw (keyOf c i.atom.args)) (b:=cj) (vb:=B5.length) (x:=y) (l:=l) (id:=i.id) (by rw[zK hcb];exact y1) y2 (by simp;rfl)) ?_
    rintro v b8 ⟨r',x',rfl,hk',hids',hout,rfl⟩;have hcb2:(B5++[aN (AV.int IntKind.i64) 1 1 [i.id]])[cj]? =some (.tab y):=by rw[zK hcb];exact y1
    conv=>whnf
    refine⟨.inr ?_,?_⟩
    .conv=>whnf
     repeat' first|exact True.intro|refine And.intro (uE hcb2) ?_
    conv=>whnf
    try dsimp only
    skip;refine⟨⟨cj,x',l,r',by rw[hk'];rfl,by rw[List.getElem?_set_self (by simp;omega)],hout,λx2 hx2=>?_⟩⟩
    conv=>whnf
    try dsimp only
    skip;refine⟨_,au.refl _,rfl,fin _ _ _ _ hx2 ?_⟩;have hsel:=Ay (c:=c) (hf j).1 hh;have hrid:r'.ids=sel c r'.key (aY (f j) i):=by rw[hids',hk',hsel,hse];rfl
    refine y3.put y2.nodK (λk hk=>tc (hf j).1 ?_) hrid ?_
    .rw [hk'] at hk;simp[Ne.symm hk]
    .rw [hids'];simp
 refine⟨_,tX hK ?_ he.io he.pos he.len hacc hpl,?_⟩
 .rw [hJ];refine⟨?_,?_,?_,?_,?_,?_,λk hk hkc=>?_⟩
  .simpa using hI.snoc _
  all_goals first|(rw[zK (by show _<B4.length;omega)];first|assumption|exact hold k hk)|(rw[<-hl4];simp)
 .rintro r b5 ⟨rfl,hj⟩;rw[hJ] at hj;obtain⟨a1,a2,a3,a4,a5,a6,a7⟩:=hj;refine⟨by simp[ag,a6,Box.lb?],?_⟩
  conv=>whnf
  try dsimp only
  skip;have hL:=(zB.1 a6).1;obtain⟨hp1,hp2,hp3,hp4⟩:=h.lt;refine⟨_,au.refl _,.inl ⟨rfl,(a1.mono λk hk=>?_).cong λk hk=>?_,by rw[zn];omega,λk hk hkc=>by rw[Zh (by omega)];exact a7 k hk hkc⟩⟩
  .refine Zh ?_;rcases hk with rfl|rfl|rfl|hk
   .omega
   .omega
   .omega
   .have:=hp4 k hk;omega
  .rw [if_pos (by rw[<-h.len];exact hk)]
end Go.CK
namespace Go.CK
open Go.AM Go.Proofs
structure sn(bs:List Box)(p:Nat)(acc:List Ac)(its:List It)(T:Nat->List TR->Prop)(bi ki t kt:Nat)(cs:List Nat):Prop where
 str:bs[p]? =some (.cells [slA Ac.av acc,.bsl bi its.length ki,.bsl t cs.length kt])
 items:bs[bi]? =some (aN It.av 3 ki its)
 le:its.length<=ki
 tabs:bs[t]? =some (aN AV.mpt 1 kt cs)
 tle:cs.length<=kt
 len:cs.length=acc.length
 nod:cs.Nodup
 tab:∀k c,cs[k]? =some c->∃x l,bs[c]? =some (.tab x)/\ib x l/\T k l
section
variable{bs:List Box}{p:Nat}{acc:List Ac}{its:List It}{T:Nat->List TR->Prop}{f:Nat->List It}{bi ki t kt:Nat}{cs:List Nat}
theorem cW.anyT(h:cW bs p acc its f bi ki t kt cs):sn bs p acc its (λ_ _=>True) bi ki t kt cs:=
 ⟨h.str,h.items,h.le,h.tabs,h.tle,h.len,h.nod,λk c hc=>by
  have hlt:=(zB.1 hc).1;obtain⟨x,l,h1,h2,_⟩:=h.tab k c _ hc (zA (by rw[<-h.len];exact hlt))
  exact⟨x,l,h1,h2,trivial⟩⟩
theorem sn.nilG(h:sn bs p acc its T bi ki t kt cs)(hT:∀k l,k<cs.length->T k l->l=[]):cW bs p acc its (λ_=>[]) bi ki t kt cs:=
 ⟨h.str,h.items,h.le,h.tabs,h.tle,h.len,h.nod,λk c a hc ha=>by
  obtain⟨x,l,h1,h2,h3⟩:=h.tab k c hc;have:=hT k l (zB.1 hc).1 h3;subst this;exact⟨x,[],h1,h2,.nil a⟩⟩
theorem sn.ne(h:sn bs p acc its T bi ki t kt cs){c:Nat}(hc:c∈cs):c≠p/\c≠bi/\c≠t:=by
 obtain⟨k,hk⟩:=ZT hc;obtain⟨x,l,h1,_⟩:=h.tab k c hk;refine⟨λe=>?_,λe=>?_,λe=>?_⟩
 .rw [e,h.str] at h1;cases h1
 .rw [e,h.items] at h1;cases h1
 .rw [e,h.tabs] at h1;cases h1
theorem sn.c9{T':Nat->List TR->Prop}(h:sn bs p acc its T bi ki t kt cs){j c:Nat}(hc:cs[j]? =some c){x:TB}{l:List TR}(hx:ib x l)(ht:T' j l)(hg:∀k l,k≠j->T k l->T' k l):sn (bs.set c (.tab x)) p acc its T' bi ki t kt cs:=by
 have hcm:=zE hc;obtain⟨n1,n2,n3⟩:=h.ne hcm;obtain⟨x0,l0,h0,_⟩:=h.tab j c hc;have hlt:=(zB.1 h0).1;refine⟨by rw[Zh n1];exact h.str,by rw[Zh n2];exact h.items,h.le,by rw[Zh n3];exact h.tabs,h.tle,h.len,h.nod,λk d hd=>?_⟩
 by_cases e:k=j
 .subst e;rw[hc] at hd;cases hd;exact⟨x,l,by rw[List.getElem?_set_self hlt],hx,ht⟩
 .have hne:c≠d:=λe2=>by
   subst e2;exact e ((List.getElem?_inj (zB.1 hd).1 h.nod).1 (hd.trans hc.symm))
  rw[Zh hne];obtain⟨y,m,h1,h2,h3⟩:=h.tab k d hd;exact⟨y,m,h1,h2,hg k m e h3⟩
end
theorem ay:Plain It.av 3:=⟨by decide,λ_=>rfl,λx c h=>by
 simp[It.av,AV.cells] at h;rcases h with rfl|rfl|rfl<;>rfl,λx c h=>by
 simp[It.av,AV.cells] at h;rcases h with rfl|rfl|rfl<;>rfl⟩
theorem Dm{l:List It}{i:It}(h:∀x∈l,x.id<i.id):aY l i=l++[i]:=by
 have h1:l.filter (λx=>decide (x.id<i.id))=l:=yF.2 λx hx=>by simpa using h x hx
 have h2:l.filter (λx=>!decide (x.id<i.id))=[]:=List.filter_eq_nil_iff.2 λx hx=>by simpa using h x hx
 rw[aY,h1,h2]
theorem Im{l:List It}(h:Asc l){j:Nat}{i:It}(hi:l[j]? =some i):aY (l.take j) i=l.take (j+1):=by
 rw[ZD,hi];refine Dm λx hx=>?_;have hj:=(zB.1 hi).1;obtain⟨k,hk⟩:=ZT hx;rw[Zd] at hk;split at hk
 .rename_i hkj;have h1:=List.pairwise_iff_getElem.1 h k j (by omega) hj hkj
  rw[(zB.1 hi).2,(zB.1 hk).2] at h1;exact h1
 .cases hk
structure c7(acc:List Ac)(its:List It):Prop where
 asc:Asc its
 few:its.length<=100000
 ent:∀i∈its,rP acc i
 accs:acc.length<=1000000
 poss:∀c∈acc,c.positions.length<=1000000
set_option maxHeartbeats 1000000 in
theorem pM{bs:List Box}{p:Nat}{acc:List Ac}{its:List It}{bi ki t kt:Nat}{cs:List Nat}(h:sn bs p acc its (λ_ _=>True) bi ki t kt cs)(ha:c7 acc its):
  AM.Sem Tryz.prog 46 [.ptr p 0] bs λr bs'=>r=.tup []/\cW bs' p acc its (λ_=>its) bi ki t kt cs/\bs.length<=bs'.length/\∀b,b<bs.length->b∉cs->bs'[b]? =bs[b]?:=by
 have hcl:=h.len;have hacc:=ha.accs;have hfew:=ha.few;have hb0:aa bs p=some [slA Ac.av acc,.bsl bi its.length ki,.bsl t cs.length kt]:=by simp[aa,h.str,Box.cs?]
 refine jf (by simp) ?_
 conv=>whnf
 try dsimp only
 repeat' refine gB (.of (by assumption) ?_)<;>(conv=>whnf;try dsimp only)
 refine aJ.by (fb:=false) (λst_ (a:Nat×List Box)=>⟨[(0,.ptr p 0),(9,.bsl t cs.length kt),(10,.int .i64 cs.length),(11,.int .i64 (a.1:Int))],a.2,bs.length⟩) (λa=>a.1<=cs.length/\sn a.2 p acc its (λk l=>k<a.1->l=[]) bi ki t kt cs/\bs.length=a.2.length/\∀b,b∉cs->a.2[b]? =bs[b]?) (λa=>cs.length-a.1) (0,bs) ⟨zJ _,⟨h.str,h.items,h.le,h.tabs,h.tle,h.len,h.nod,λk c hc=>by
   obtain⟨x,l,h1,h2,_⟩:=h.tab k c hc;exact⟨x,l,h1,h2,λhk=>absurd hk (Zm _)⟩⟩,rfl,λ_ _=>rfl⟩ ?_ ?_
 .refine az.atS ?_ rfl rfl
  conv=>whnf
  repeat' (first|(refine gV ?_;first|refine vE ?_|refine vI ?_)|exact True.intro)<;>conv=>whnf
 .rintro ⟨j,b2⟩ ⟨q1,q2,q3,q4⟩;dsimp only at q1 q2 q3 q4
  by_cases hj:j<cs.length
  .obtain ⟨c,hc⟩:∃c,cs[j]? =some c:=⟨_,zA hj⟩;have hcm:=zE hc;obtain⟨x,l,hx1,hx2,_⟩:=q2.tab j c hc
   conv=>whnf
   try dsimp only
   repeat' (first|refine gC (gD (cI ?_))|refine gN (nS ?_))<;>(conv=>whnf;try dsimp only)
   refine ElN.one (λ_=>⟨rfl,rfl⟩) (l:=cs) (x:=c) q2.tabs (by simpa using hc) ?_
   conv=>whnf
   try dsimp only
   skip;refine⟨⟨c,x,rfl,hx1,hx2.jB,λx' hx'=>?_⟩⟩
   conv=>whnf
   try dsimp only
   repeat' refine gW (wI ?_)<;>(conv=>whnf;try dsimp only)
   refine⟨(j+1,b2.set c (.tab x')),⟨⟨hj,q2.c9 hc hx' (λ_=>rfl) λk l hk hl hk2=>hl (by omega),by simpa using q3,λb hb=>by
    rw[Zh (λe=>hb (by rw[<-e];exact hcm))];exact q4 b hb⟩,by dsimp only;omega⟩,?_⟩
   refine az.atS ?_ rfl rfl
   conv=>whnf
   repeat' (first|(refine gV ?_;first|refine vE ?_|refine vI ?_)|exact True.intro)<;>conv=>whnf
  .obtain rfl:j=cs.length:=by omega
   have hG:=q2.nilG (λk l hk hl=>hl hk);have hb2:aa b2 p=some [slA Ac.av acc,.bsl bi its.length ki,.bsl t cs.length kt]:=by simp[aa,q2.str,Box.cs?]
   conv=>whnf
   try dsimp only
   repeat' (first|refine gC (gD (cJ ?_))|refine gB (.of (by assumption) ?_))<;>(conv=>whnf;try dsimp only)
   refine aJ.by (fb:=false) (λst_ (a:Nat×List Box)=>⟨[(0,.ptr p 0),(20,.bsl bi its.length ki),(21,.int .i64 its.length),(22,.int .i64 (a.1:Int))],a.2,bs.length⟩) (λa=>a.1<=its.length/\cW a.2 p acc its (λ_=>its.take a.1) bi ki t kt cs/\bs.length<=a.2.length/\∀b,b<bs.length->b∉cs->a.2[b]? =bs[b]?) (λa=>its.length-a.1) (0,b2) ⟨zJ _,by simpa using hG,by dsimp only;omega,λb _ hb=>q4 b hb⟩ ?_ ?_
   .refine az.atS ?_ rfl rfl
    conv=>whnf
    repeat' (first|(refine gV ?_;first|refine vE ?_|refine vI ?_)|exact True.intro)<;>conv=>whnf
   .rintro ⟨j,b3⟩ ⟨r1,r2,r3,r4⟩;dsimp only at r1 r2 r3 r4
    by_cases hj:j<its.length
    .obtain ⟨i,hi⟩:∃i,its[j]? =some i:=⟨_,zA hj⟩
     conv=>whnf
     try dsimp only
     repeat' (first|refine gC (gD (cI ?_))|refine gN (nS ?_))<;>(conv=>whnf;try dsimp only)
     refine ElN.elem ay (l:=its) (x:=i) r2.items (by simpa using hi) ?_
     conv=>whnf
     try dsimp only
     repeat' (first|refine gB (.last ?_)|refine dG.last ?_)<;>(conv=>whnf;try dsimp only)
     have hE:=tY (i:=i) (r2.snoc (.cells [.int .i64 i.id,.str i.atom.name,.sl .no (i.atom.args.map Tm.av)])) (λk=>⟨(ha.asc.sublist (List.take_sublist _ _)),by rw[zo];omega⟩) (ha.ent i (zE hi)) hacc ha.poss
     refine ah.raw hE ?_;rintro r b4 ⟨rfl,s1,s2,s3⟩
     conv=>whnf
     try dsimp only
     repeat' refine gW (wI ?_)<;>(conv=>whnf;try dsimp only)
     refine⟨(j+1,b4),⟨⟨hj,?_,?_,λb hb hbc=>?_⟩,by dsimp only;omega⟩,?_⟩
     .have:=s1;simp only[Im ha.asc hi] at this;exact this
     .simp at s2;dsimp only;omega
     .rw [s3 b (by simp;omega) hbc,zK (by omega)];exact r4 b hb hbc
     refine az.atS ?_ rfl rfl
     conv=>whnf
     repeat' (first|(refine gV ?_;first|refine vE ?_|refine vI ?_)|exact True.intro)<;>conv=>whnf
    .obtain rfl:j=its.length:=by omega
     conv=>whnf
     try dsimp only
     repeat' refine gC (gD (cJ ?_))<;>(conv=>whnf;try dsimp only)
     refine⟨_,au.refl _,.inl ⟨rfl,by simpa using r2,r3,r4⟩⟩
end Go.CK
namespace Go.CK
open Go.AM Go.Proofs
variable{ae:List AV}{bs:List Box}{Q:AV->List Box->Prop}
def jI:RC:=
 (.seq (rR [0] [oQ 2 (.mov (.c (.bool false)))]) (.seq (.seq (rR [0,6] [qM 4 0,oQ 5 (.len false 4),oQ 6 (.bin .gtr 5 (.c (.int .i64 500)))]) (.cond 6 (.seq (rR [2] [oQ 2 (.mov (.c (.bool false)))]) .ret) .skip)) (.seq (.seq (rR [0,3] [oQ 3 (.mov (.c (.int .i64 0)))]) (.block 0 (.loop (.seq (.seq (rR [0,3,10] [qM 7 3,qM 8 0,oQ 9 (.len false 8),oQ 10 (.bin .lss 7 9)]) (.cond 10 .skip (.exit 0))) (.seq (.block 1 (.seq (.reg true [0,3,45] [qM 13 0,qM 14 3,qI 15 3 13 14,qF 16 0 15,qL 17 16,oQ 18 (.bin .lss 17 (.c (.int .i64 1))),qM 19 18,oG 20 19 false (.mov 3),oG 21 19 false (.bin .gtr 20 (.c (.int .i64 0))),oG 22 19 false (.mov 21),oG 23 22 true (.mov 0),oG 24 22 true (.mov 3),oG 25 22 true (.bin .sub 24 (.c (.int .i64 1))),oG 26 22 true (.idx 3 23 25),oG 27 22 true (.bn 0 26),oG 28 22 true (.load false 1 27),oG 29 22 true (.mov 0),oG 30 22 true (.mov 3),oG 31 22 true (.idx 3 29 30),oG 32 22 true (.bn 0 31),oG 33 22 true (.load false 1 32),oG 34 22 true (.bin .geq 28 33),oG 35 19 false (.pick 22 34 (.c (.bool false))),oQ 36 (.pick 19 (.c (.bool true)) 35),qM 37 36,oG 38 37 false (.mov 0),oG 39 37 false (.mov 3),oG 40 37 false (.idx 3 38 39),oG 41 37 false (.bn 1 40),oG 42 37 false (.load true 2 41),oG 43 37 false (cF 75 [42]),oG 44 37 false (.un .not 43),oQ 45 (.pick 37 (.c (.bool true)) 44)])
 (.cond 45 (.seq (rR [2] [oQ 2 (.mov (.c (.bool false)))]) .ret) .skip))) (rR [0,3] [qM 11 3,oQ 12 (.bin .add 11 (.c (.int .i64 1))),qM 3 12])))))) (.seq (rR [2] [oQ 2 (.mov (.c (.bool true)))]) .ret))))
theorem dK(hn:ae.length<=46)(h:SP Tryz.prog true ae bs jI [.slot 2] Q):AM.Sem Tryz.prog 26 ae bs Q:=
 oZ (keeps:=[(0,[0]),(1,[0,6]),(2,[2]),(3,[0,3]),(4,[0,3,10]),(6,[0,3,45]),(7,[2]),(5,[0,3]),(8,[2])]) (solo:=[]) Tryz.func26 rfl hn h
def kI:RC:=
 (.seq (rR [0,1] [oQ 4 (.mov (.c (.bool false)))]) (.seq (.seq (rR [0,1,10] [qM 6 0,oQ 7 (.len false 6),qM 8 1,oQ 9 (.len false 8),oQ 10 (.bin .neq 7 9)]) (.cond 10 (.seq (rR [4] [oQ 4 (.mov (.c (.bool false)))]) .ret) .skip)) (.seq (.seq (rR [0,1,5] [oQ 5 (.mov (.c (.int .i64 0)))]) (.block 0 (.loop (.seq (.seq (rR [0,1,5,14] [qM 11 5,qM 12 0,oQ 13 (.len false 12),oQ 14 (.bin .lss 11 13)]) (.cond 14 .skip (.exit 0))) (.seq (.block 1 (.seq (.reg true [0,1,5,41] [qM 17 0,qM 18 5,qI 19 3 17 18,qF 20 0 19,qL 21 20,qM 22 1,qM 23 5,qI 24 3 22 23,qF 25 0 24,qL 26 25,oQ 27 (.bin .neq 21 26),qM 28 27,oG 29 28 false (.mov 0),oG 30 28 false (.mov 5),oG 31 28 false (.idx 3 29 30),oG 32 28 false (.bn 1 31),oG 33 28 false (.load true 2 32),oG 34 28 false (.mov 1),oG 35 28 false (.mov 5),oG 36 28 false (.idx 3 34 35),oG 37 28 false (.bn 1 36),oG 38 28 false (.load true 2 37),oG 39 28 false (cF 52 [33,38]),oG 40 28 false (.un .not 39),oQ 41 (.pick 28 (.c (.bool true)) 40)])
 (.cond 41 (.seq (rR [4] [oQ 4 (.mov (.c (.bool false)))]) .ret) .skip))) (rR [0,1,5] [qM 15 5,oQ 16 (.bin .add 15 (.c (.int .i64 1))),qM 5 16])))))) (.seq (rR [4] [oQ 4 (.mov (.c (.bool true)))]) .ret))))
theorem eh(hn:ae.length<=42)(h:SP Tryz.prog true ae bs kI [.slot 4] Q):AM.Sem Tryz.prog 15 ae bs Q:=
 oZ (keeps:=[(0,[0,1]),(1,[0,1,10]),(2,[4]),(3,[0,1,5]),(4,[0,1,5,14]),(6,[0,1,5,41]),(7,[4]),(5,[0,1,5]),(8,[4])]) (solo:=[]) Tryz.func15 rfl hn h
def jb:RC:=
 (.seq (rR [0,1] [oQ 4 (.mov (.c (.sl .full []))),oQ 5 (.mov (.c (.bool false)))]) (.seq (.seq (rR [0,1,6] [oQ 6 (.mov (.c (.int .i64 0)))]) (.block 0 (.loop (.seq (.seq (rR [0,1,6,11] [qM 8 6,qM 9 0,oQ 10 (.len false 9),oQ 11 (.bin .lss 8 10)]) (.cond 11 .skip (.exit 0))) (.seq (.block 1 (.seq (rR [0,1,6,20] [qM 14 0,qM 15 6,qI 16 3 14 15,qF 17 0 16,qL 18 17,qM 19 1,oQ 20 (.bin .eql 18 19)]) (.cond 20 (.seq (rR [0,6,7] [oQ 7 (.mov (.c (.sl .full [])))]) (.seq (rR [0,6,7] [qM 21 7,qM 22 0,qM 23 6,oQ 24 (.slc 3 22 none (some 23) none),oQ 25 (.append 3 21 24),qM 7 25]) (.seq (rR [4,5] [qM 26 7,qM 27 0,qM 28 6,oQ 29 (.bin .add 28 (.c (.int .i64 1))),oQ 30 (.slc 3 27 (some 29) none none),oQ 31 (.append 3 26 30),qM 4 31,oQ 5 (.mov (.c (.bool true)))]) .ret))) .skip))) (rR [0,1,6] [qM 12 6,oQ 13 (.bin .add 12 (.c (.int .i64 1))),qM 6 13])))))) (.seq
 (rR [4,5] [qM 32 0,qM 4 32,oQ 5 (.mov (.c (.bool false)))]) .ret)))
theorem jd(hn:ae.length<=33)(h:SP Tryz.prog true ae bs jb [.slot 4,.slot 5] Q):AM.Sem Tryz.prog 141 ae bs Q:=
 oZ (keeps:=[(0,[0,1]),(1,[0,1,6]),(2,[0,1,6,11]),(4,[0,1,6,20]),(5,[0,6,7]),(6,[0,6,7]),(7,[4,5]),(3,[0,1,6]),(8,[4,5])]) (solo:=[]) Tryz.func141 rfl hn h
def LJ:RC:=
 (.seq (rR [1] [oQ 1 (.box 0),oQ 2 (.mov (.c (.bool false)))]) (.seq (.seq (rR [1,3] [oQ 3 (.mov (.c (.int .i64 0)))]) (.block 0 (.loop (.seq (.seq (rR [1,3,8] [qM 4 3,qF 5 2 1,qL 6 5,oQ 7 (.len false 6),oQ 8 (.bin .lss 4 7)]) (.cond 8 .skip (.exit 0))) (.seq (.block 1 (.seq (.reg true [1,3,44] [qF 11 2 1,qL 12 11,qM 13 3,qI 14 1 12 13,qL 15 14,oQ 16 (.bin .lss 15 (.c (.int .i64 0))),qM 17 16,oG 18 17 false (.bn 2 1),oG 19 17 false (.load false 1 18),oG 20 17 false (.mov 3),oG 21 17 false (.idx 1 19 20),oG 22 17 false (.load false 1 21),oG 23 17 false (.bn 1 1),oG 24 17 false (.load false 1 23),oG 25 17 false (.bin .geq 22 24),oQ 26 (.pick 17 (.c (.bool true)) 25),qM 27 26,oG 28 27 false (.mov 3),oG 29 27 false (.bin .gtr 28 (.c (.int .i64 0))),oG 30 27 false (.mov 29),oG 31 30 true (.bn 2 1),oG 32 30 true (.load false 1 31),oG 33 30 true (.mov 3),oG 34 30 true (.bin .sub 33 (.c (.int .i64 1))),oG 35 30 true (.idx 1 32 34),oG 36 30 true (.load false 1 35),oG 37 30 true (.bn 2 1),oG 38 30 true (.load false 1 37),oG 39 30 true (.mov 3),oG 40 30 true (.idx 1 38 39),oG 41 30 true (.load false 1 40),oG 42 30 true (.bin .geq 36 41),oG 43 27 false (.pick 30 42 (.c (.bool false))),oQ 44 (.pick 27 (.c (.bool true)) 43)])
 (.cond 44 (.seq (rR [2] [oQ 2 (.mov (.c (.bool false)))]) .ret) .skip))) (rR [1,3] [qM 9 3,oQ 10 (.bin .add 9 (.c (.int .i64 1))),qM 3 10])))))) (.seq (rR [2] [qF 45 0 1,qL 46 45,oQ 47 (cF 61 [46]),qM 48 47,oG 49 48 true (.bn 1 1),oG 50 48 true (.load false 1 49),oG 51 48 true (.bin .geq 50 (.c (.int .i64 0))),oQ 52 (.pick 48 51 (.c (.bool false))),qM 53 52,oG 54 53 true (.bn 1 1),oG 55 53 true (.load false 1 54),oG 56 53 true (.bin .leq 55 (.c (.int .i64 6))),oQ 57 (.pick 53 56 (.c (.bool false))),qM 2 57]) .ret)))
theorem LK(hn:ae.length<=58)(h:SP Tryz.prog true ae bs LJ [.slot 2] Q):AM.Sem Tryz.prog 84 ae bs Q:=
 oZ (keeps:=[(0,[1]),(1,[1,3]),(2,[1,3,8]),(4,[1,3,44]),(5,[2]),(3,[1,3]),(6,[2])]) (solo:=[]) Tryz.func84 rfl hn h
def lS:RC:=
 (.seq (rR [0,1,2] [oQ 6 (.mov (.c (.bool false)))]) (.seq (.seq (rR [0,1,2,23] [qM 11 0,oQ 12 (.len false 11),oQ 13 (.bin .gtr 12 (.c (.int .i64 15))),qM 14 13,oG 15 14 false (.mov 1),oG 16 14 false (.len false 15),oG 17 14 false (.bin .gtr 16 (.c (.int .i64 6))),oQ 18 (.pick 14 (.c (.bool true)) 17),qM 19 18,oG 20 19 false (.mov 2),oG 21 19 false (.len false 20),oG 22 19 false (.bin .gtr 21 (.c (.int .i64 30))),oQ 23 (.pick 19 (.c (.bool true)) 22)]) (.cond 23 (.seq (rR [6] [oQ 6 (.mov (.c (.bool false)))]) .ret) .skip)) (.seq (.seq (rR [0,1,2,7] [oQ 7 (.mov (.c (.int .i64 0)))]) (.block 0 (.loop (.seq (.seq (rR [0,1,2,7,27] [qM 24 7,qM 25 0,oQ 26 (.len false 25),oQ 27 (.bin .lss 24 26)]) (.cond 27 .skip (.exit 0))) (.seq (.block 1 (.seq (rR [0,1,2,7,36] [qM 30 0,qM 31 7,qI 32 3 30 31,qF 33 1 32,qA 34 2 33,oQ 35 (.aZ 2 [34]),oQ 36 (cF 37 [35,(.c (.int .i64 30))])])
 (.cond 36 (.seq (rR [6] [oQ 6 (.mov (.c (.bool false)))]) .ret) .skip))) (rR [0,1,2,7] [qM 28 7,oQ 29 (.bin .add 28 (.c (.int .i64 1))),qM 7 29])))))) (.seq (.seq (rR [1,2,8] [oQ 8 (.mov (.c (.int .i64 0)))]) (.block 2 (.loop (.seq (.seq (rR [1,2,8,40] [qM 37 8,qM 38 1,oQ 39 (.len false 38),oQ 40 (.bin .lss 37 39)]) (.cond 40 .skip (.exit 2))) (.seq (.block 3 (.seq (rR [1,2,8,58] [qM 43 1,qM 44 8,qI 45 3 43 44,qF 46 0 45,qL 47 46,oQ 48 (.len true 47),oQ 49 (.bin .gtr 48 (.c (.int .i64 60))),qM 50 49,oG 51 50 false (.mov 1),oG 52 50 false (.mov 8),oG 53 50 false (.idx 3 51 52),oG 54 50 false (.bn 2 53),oG 55 50 false (.load false 1 54),oG 56 50 false (.len false 55),oG 57 50 false (.bin .gtr 56 (.c (.int .i64 10))),oQ 58 (.pick 50 (.c (.bool true)) 57)]) (.cond 58 (.seq (rR [6] [oQ 6 (.mov (.c (.bool false)))]) .ret) .skip))) (rR [1,2,8] [qM 41 8,oQ 42 (.bin .add 41 (.c (.int .i64 1))),qM 8 42]))))))
 (.seq (.seq (rR [2,9] [oQ 9 (.mov (.c (.int .i64 0)))]) (.block 4 (.loop (.seq (.seq (rR [2,9,62] [qM 59 9,qM 60 2,oQ 61 (.len false 60),oQ 62 (.bin .lss 59 61)]) (.cond 62 .skip (.exit 4))) (.seq (.block 5 (.seq (.seq (rR [2,9,89] [qM 65 2,qM 66 9,qI 67 7 65 66,qF 68 6 67,qL 69 68,oQ 70 (.len false 69),oQ 71 (.bin .gtr 70 (.c (.int .i64 6))),qM 72 71,oG 73 72 false (.mov 2),oG 74 72 false (.mov 9),oG 75 72 false (.idx 7 73 74),oG 76 72 false (.bn 2 75),oG 77 72 false (.bn 1 76),oG 78 72 false (.load true 2 77),oG 79 72 false (.aZ 2 [78]),oG 80 72 false (cF 37 [79,(.c (.int .i64 30))]),oQ 81 (.pick 72 (.c (.bool true)) 80),qM 82 81,oG 83 82 false (.mov 2),oG 84 82 false (.mov 9),oG 85 82 false (.idx 7 83 84),oG 86 82 false (.bn 5 85),oG 87 82 false (.load false 1 86),oG 88 82 false (cF 38 [87,(.c (.int .i64 30))]),oQ 89 (.pick 82 (.c (.bool true)) 88)])
 (.cond 89 (.seq (rR [6] [oQ 6 (.mov (.c (.bool false)))]) .ret) .skip)) (.seq (rR [2,9,10] [oQ 10 (.mov (.c (.int .i64 0)))]) (.block 6 (.loop (.seq (.seq (rR [2,9,10,97] [qM 90 10,qM 91 2,qM 92 9,qI 93 7 91 92,qF 94 6 93,qL 95 94,oQ 96 (.len false 95),oQ 97 (.bin .lss 90 96)]) (.cond 97 .skip (.exit 6))) (.seq (.block 7 (.seq (rR [2,9,10,110] [qM 100 2,qM 101 9,qI 102 7 100 101,qF 103 6 102,qL 104 103,qM 105 10,qI 106 5 104 105,qF 107 1 106,qA 108 4 107,oQ 109 (.aZ 4 [108]),oQ 110 (cF 38 [109,(.c (.int .i64 4))])]) (.cond 110 (.seq (rR [6] [oQ 6 (.mov (.c (.bool false)))]) .ret) .skip))) (rR [2,9,10] [qM 98 10,oQ 99 (.bin .add 98 (.c (.int .i64 1))),qM 10 99])))))))) (rR [2,9] [qM 63 9,oQ 64 (.bin .add 63 (.c (.int .i64 1))),qM 9 64])))))) (.seq (rR [6] [oQ 6 (.mov (.c (.bool true)))]) .ret))))))
theorem bJ(hn:ae.length<=111)(h:SP Tryz.prog true ae bs lS [.slot 6] Q):AM.Sem Tryz.prog 9 ae bs Q:=
 oZ (keeps:=[(0,[0,1,2]),(1,[0,1,2,23]),(2,[6]),(3,[0,1,2,7]),(4,[0,1,2,7,27]),(6,[0,1,2,7,36]),(7,[6]),(5,[0,1,2,7]),(8,[1,2,8]),(9,[1,2,8,40]),(11,[1,2,8,58]),(12,[6]),(10,[1,2,8]),(13,[2,9]),(14,[2,9,62]),(16,[2,9,89]),(17,[6]),(18,[2,9,10]),(19,[2,9,10,97]),(21,[2,9,10,110]),(22,[6]),(20,[2,9,10]),(15,[2,9]),(23,[6])]) (solo:=[]) Tryz.func9 rfl hn h
def nc:RC:=
 (.seq (rR [0,1,2,6] [oQ 6 (.box (.c (.agg [(.int .i64 0),(.str ⟨⟨[]⟩⟩),(.sl .full [])])))]) (.seq (rR [6] [qM 7 0,qM 8 1,oQ 9 (cF 39 [8,(.c (.sl .full []))]),qM 10 2,oQ 11 (cF 39 [10,(.c (.sl .full []))]),oQ 12 (.aZ 4 [9,11]),oQ 13 (.build [(.str ⟨⟨[]⟩⟩),(.sl .full [])] [(0,1,(.c (.str ⟨⟨[101]⟩⟩))),(1,1,12)]),oQ 14 (.build [(.int .i64 0),(.str ⟨⟨[]⟩⟩),(.sl .full [])] [(0,1,7),(1,2,13)]),oN (.store 3 6 14)]) .ret))
theorem nh(hn:ae.length<=15)(h:SP Tryz.prog true ae bs nc [.cell 6 true 3] Q):AM.Sem Tryz.prog 35 ae bs Q:=
 oZ (keeps:=[(0,[0,1,2,6]),(1,[6])]) (solo:=[]) Tryz.func35 rfl hn h
def fa:RC:=
 (.seq (rR [] [oQ 0 (.mov (.c (.bool false)))]) (.seq (rR [1,2] [oQ 6 (cF 35 [(.c (.int .i64 1)),(.c (.str ⟨⟨[97]⟩⟩)),(.c (.str ⟨⟨[98]⟩⟩))]),oQ 7 (cF 35 [(.c (.int .i64 2)),(.c (.str ⟨⟨[97]⟩⟩)),(.c (.str ⟨⟨[99]⟩⟩))]),oQ 8 (cF 35 [(.c (.int .i64 4)),(.c (.str ⟨⟨[98]⟩⟩)),(.c (.str ⟨⟨[98]⟩⟩))]),oQ 9 (.aZ 3 [6,7,8]),oQ 10 (.aZ 1 [(.c (.int .i64 0))]),oQ 11 (.build [(.str ⟨⟨[]⟩⟩),(.int .i64 0),(.sl .full [])] [(0,1,(.c (.str ⟨⟨[101]⟩⟩))),(1,1,(.c (.int .i64 2))),(2,1,10)]),oQ 12 (.build [(.str ⟨⟨[]⟩⟩),(.int .i64 0),(.sl .full [])] [(0,1,(.c (.str ⟨⟨[101]⟩⟩))),(1,1,(.c (.int .i64 2)))]),oQ 13 (.aZ 3 [11,12]),oQ 14 (cF 11 [9,13]),qM 5 14,oQ 15 (.ext 0 5),oQ 16 (.ext 1 5),qM 1 15,qM 2 16]) (.seq (.seq (rR [1,38] [qM 17 1,oQ 18 (.more (.eqP false) [17,(.c .cU)]),qM 19 18,oG 20 19 false (.mov 2),oG 21 19 false (.bin .neq 20 (.c (.int .i64 0))),oQ 22 (.pick 19 (.c (.bool true)) 21),qM 23 22,oG 24 23 false (.mov 1),oG 25 23 false (cF 39 [(.c (.str ⟨⟨[97]⟩⟩)),(.c (.sl .full []))]),oG 26 23 false (.aZ 4 [25]),oG 27 23 false (cF 13 [24,(.c (.int .i64 0)),26]),oG 28 23 false (.aZ 1 [(.c (.int .i64 1)),(.c (.int .i64 2))]),oG 29 23 false (cF 17 [27,28]),oG 30 23 false (.un .not 29),oQ 31 (.pick 23 (.c (.bool true)) 30),qM 32 31,oG 33 32 false (.mov 1),oG 34 32 false (cF 13 [33,(.c (.int .i64 1)),(.c (.sl .full []))]),oG 35 32 false (.aZ 1 [(.c (.int .i64 1)),(.c (.int .i64 2)),(.c (.int .i64 4))]),oG 36 32 false (cF 17 [34,35]),oG 37 32 false (.un .not 36),oQ 38 (.pick 32 (.c (.bool true)) 37)])
 (.cond 38 (.seq (rR [0] [oQ 0 (.mov (.c (.bool false)))]) .ret) .skip)) (.seq (rR [1,4] [oQ 40 (.aZ 1 [(.c (.int .i64 2))]),oQ 41 (.build [(.str ⟨⟨[]⟩⟩),(.int .i64 0),(.sl .full [])] [(0,1,(.c (.str ⟨⟨[101]⟩⟩))),(1,1,(.c (.int .i64 2))),(2,1,40)]),oQ 42 (.aZ 3 [41]),oQ 43 (cF 11 [(.c (.sl .full [])),42]),qM 39 43,oQ 44 (.ext 0 39),oQ 45 (.ext 1 39),qM 3 44,qM 4 45]) (.seq (rR [0] [qM 46 1,oQ 47 (cF 35 [(.c (.int .i64 3)),(.c (.str ⟨⟨[97]⟩⟩)),(.c (.str ⟨⟨[97]⟩⟩))]),oQ 48 (cF 14 [46,47]),oQ 49 (.bin .eql 48 (.c (.int .i64 0))),qM 50 49,oG 51 50 true (.mov 1),oG 52 50 true (cF 35 [(.c (.int .i64 3)),(.c (.str ⟨⟨[98]⟩⟩)),(.c (.str ⟨⟨[97]⟩⟩))]),oG 53 50 true (cF 14 [51,52]),oG 54 50 true (.bin .eql 53 (.c (.int .i64 8))),oQ 55 (.pick 50 54 (.c (.bool false))),qM 56 55,oG 57 56 true (.mov 1),oG 58 56 true (cF 39 [(.c (.str ⟨⟨[97]⟩⟩)),(.c (.sl .full []))]),oG 59 56 true (.aZ 4 [58]),oG 60 56 true (cF 13 [57,(.c (.int .i64 0)),59]),oG 61 56 true (.aZ 1 [(.c (.int .i64 1)),(.c (.int .i64 2)),(.c (.int .i64 3))]),oG 62 56 true (cF 17 [60,61]),oQ 63 (.pick 56 62 (.c (.bool false))),qM 64 63,oG 65 64 true (.mov 1),oG 66 64 true (cF 16 [65,(.c (.int .i64 1))]),oQ 67 (.pick 64 66 (.c (.bool false))),qM 68 67,oG 69 68 true (.mov 1),oG 70 68 true (cF 16 [69,(.c (.int .i64 1))]),oG 71 68 true (.un .not 70),oQ 72 (.pick 68 71 (.c (.bool false))),qM 73 72,oG 74 73 true (.mov 1),oG 75 73 true (cF 12 [74]),oG 76 73 true (.len false 75),oG 77 73 true (.bin .eql 76 (.c (.int .i64 3))),oQ 78 (.pick 73 77 (.c (.bool false))),qM 79 78,oG 80 79 true (.mov 4),oG 81 79 true (.bin .eql 80 (.c (.int .i64 2))),oQ 82 (.pick 79 81 (.c (.bool false))),qM 0 82])
 .ret)))))
theorem eM(hn:ae.length<=83)(h:SP Tryz.prog false ae bs fa [.slot 0] Q):AM.Sem Tryz.prog 10 ae bs Q:=
 oZ (keeps:=[(0,[]),(1,[1,2]),(2,[1,38]),(3,[0]),(4,[1,4]),(5,[0])]) (solo:=[]) Tryz.func10 rfl hn h
end Go.CK
namespace Go.CK
open Go.AM Go.Proofs
def stB:Int->List It->Bool
 |_,[]=>true
 |last,i::l=>decide (last<i.id)&&(i.atom.right&&stB i.id l)
def dz(l:List It):Bool:=decide (l.length<=500)&&stB 0 l
def lq(l:List It)(j:Nat):Int:=match j with
 |0=>0
 |j+1=>match l[j]? with
  |some i=>i.id
  |none=>0
theorem sW{l:List It}(hl:l.length<=10000000)(ha:∀i∈l,i.atom.args.length<=10000000):Fun Tryz.prog 40 [slA It.av l] (.bool (dz l)):=by
 unfold dz
 by_cases h5:l.length<=500
 .rw [decide_eq_true h5,zb];refine Fun.of (nf (by simp) ?_) rfl rfl
  conv=>whnf
  repeat' (first|refine gC (gD (cJ ?_))|refine gL (.map ?_))<;>conv=>whnf
  refine aJ.count (fb:=true) (l.length) (λst_ j=>st_.oK [(3,.int .i64 (lq l j)),(11,.int .i64 j)]) (λj=>stB 0 l=stB (lq l j) (l.drop j)) ?_ ?_ (λj hj hij=>?_) (λhij=>?_)
  .rfl
  .refine az.at_ ?_ rfl
   conv=>whnf
   refine And.intro ?_ ?_<;>conv=>whnf
   all_goals repeat' (first|(refine gV ?_;first|refine vE ?_|refine vI ?_|(refine WkN.norm ?_ ?_;(focus (simp[AV.norm,AV.bG,lq];done))))|exact True.intro)<;>conv=>whnf
  .obtain ⟨y,hy⟩:∃y,l[j]? =some y:=⟨_,zA hj⟩;rw[zH hj,(zB.1 hy).2,stB] at hij;have hla:lq l (j+1)=y.id:=by simp[lq,hy]
   have hr:=qf y.atom (by have:=ha y (zE hy);omega)
   generalize lq l j=la at*
   by_cases h1:la<y.id
   .rw [decide_eq_true h1,zb] at hij
    cases hb:y.atom.right with
    |true=>
     rw[hb] at hr;rw[hb,zb] at hij
     conv=>whnf
     repeat' (first|refine gF (ah.fn (hr) ?_)|(refine gC ?_;first|refine cY ?_|refine .not ?_|(refine gD ?_;first|refine cI ?_|refine cJ ?_))|refine gW (wI ?_)|refine gI (gM (iE ?_)))<;>conv=>whnf
     refine⟨by rw[hla];exact hij,?_⟩
     refine az.atC 0 ?_ rfl rfl rfl rfl (by first|rfl|(repeat' (first|rfl|refine bLtRow (row_allI _ _ _) ?_|refine bLtRow (row_allB _ _ _) ?_|refine bLtMp ?_|refine bLtDead ?_|refine bLtCells rfl ?_)))
     conv=>whnf
     refine And.intro ?_ ?_<;>conv=>whnf
     all_goals repeat' (first|(refine gV ?_;first|refine vE ?_|refine vI ?_)|exact True.intro)<;>conv=>whnf
    |false=>
     rw[hb] at hr;rw[hb,zy] at hij;rw[hij]
     conv=>whnf
     repeat' (first|refine gF (ah.fn (hr) ?_)|(refine gC ?_;first|refine cN ?_|refine .not ?_|(refine gD ?_;first|refine cI ?_|refine cJ ?_))|refine gI (gM (iE ?_))|refine ai.nrm ?_)<;>conv=>whnf
     all_goals rfl
   .rw [decide_eq_false h1,zy] at hij;rw[hij]
    conv=>whnf
    repeat' (first|(refine gC ?_;first|refine cY ?_|refine gD (cI ?_))|refine gI (gM (iE ?_))|refine ai.nrm ?_)<;>conv=>whnf
    all_goals rfl
  .rw [zk,stB] at hij;rw[hij]
   conv=>whnf
   repeat' (first|refine gC (gD (cJ ?_))|refine ai.nrm ?_)<;>conv=>whnf
   all_goals rfl
 .rw [decide_eq_false h5];refine Fun.of (nf (by simp) ?_) rfl rfl
  conv=>whnf
  repeat' (first|refine gC (gD (cI ?_))|refine gL (.map ?_)|refine ai.nrm ?_)<;>conv=>whnf
  all_goals rfl
end Go.CK
