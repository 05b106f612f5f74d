/-
  Texts of this aV joined (wip/gen/bundle.py),those declarations only that are needed:IxMd IxMf IxLa IxLb IxLc. By an AI agent.
-/
import Derived.Test.YtcjfkbdbcgmomaaGreatDoorSbd
set_option linter.unusedSimpArgs false
set_option linter.unusedVariables false
set_option maxRecDepth 100000
namespace Go.CK
open Go.AM Go.Proofs
def dN(l:List It)(id:Int):List It:=l.filter λx=>!decide (x.id=id)
theorem uS{l:List It}(h:Asc l){i j:Nat}{x y:It}(hx:l[i]? =some x)(hy:l[j]? =some y)(hij:i<j):x.id<y.id:=by
 have h1:=List.pairwise_iff_getElem.1 h i j (zB.1 hx).1 (zB.1 hy).1 hij;rw[(zB.1 hx).2,(zB.1 hy).2] at h1;exact h1
theorem HF{l:List It}(h:Asc l){id:Int}(hh:hO l id=true):∃i,l[iz l id]? =some i/\i.id=id:=by
 induction l with
 |nil=>simp[hO] at hh
 |cons a l ih=>
  rw[Asc,ZB] at h
  by_cases ha:a.id<id
  .have hl:hO l id=true:=by
    simp only[hO,List.any_cons,ZO,decide_eq_true_eq] at hh|-;rcases hh with hh|hh
    .omega
    .exact hh
   obtain⟨i,h1,h2⟩:=ih h.2 hl;refine⟨i,?_,h2⟩;have e:iz (a::l) id=iz l id+1:=by simp[iz,List.countP_cons,ha]
   rw[e,List.getElem?_cons_succ];exact h1
  .have h0:∀x∈l,¬x.id<id:=λx hm=>by have:=h.1 x hm;omega
   have hc:iz (a::l) id=0:=by
    rw[iz,List.countP_eq_zero];intro x hm;rcases zI.1 hm with rfl|hm
    .simpa using ha
    .simpa using h0 x hm
   rw[hc];refine⟨a,rfl,?_⟩;obtain⟨x,hm,hx⟩:=List.any_eq_true.1 hh;have hx:x.id=id:=by simpa using hx
   rcases zI.1 hm with rfl|hm
   .exact hx
   .have:=h.1 x hm;omega
theorem yu{l:List It}(h:Asc l){i:Nat}{x:It}(hx:l[i]? =some x):dN l x.id=l.take i++l.drop (i+1):=by
 have hi:=(zB.1 hx).1
 have e:l=l.take i++x::l.drop (i+1):=by
  rw[<-(zB.1 hx).2,<-zH hi,List.take_append_drop]
 have h1:(l.take i).filter (λy=>!decide (y.id=x.id))=l.take i:=yF.2 λy hy=>by
  obtain⟨k,hk⟩:=ZT hy;rw[Zd] at hk;split at hk
  .have:=uS h hk hx (by assumption)
   simp;omega
  .cases hk
 have h2:(l.drop (i+1)).filter (λy=>!decide (y.id=x.id))=l.drop (i+1):=yF.2 λy hy=>by
  obtain⟨k,hk⟩:=ZT hy;rw[List.getElem?_drop] at hk;have:=uS h hx hk (by omega)
  simp;omega
 rw[dN]
 conv=>lhs;rw[e]
 rw[yO,Zv (by simp),h1,h2]
theorem BP{l:List It}(h:Asc l)(id:Int):Asc (dN l id):=List.Pairwise.filter _ h
theorem Ec(c:Ac)(k:ByteArray)(l:List It)(id:Int):sel c k (dN l id)=(sel c k l).filter λn=>!decide (n=id):=by
 unfold sel dN;exact ke (p:=λn=>!decide (n=id))
theorem K0{l:List It}(h:Asc l){x y:It}(hx:x∈l)(hy:y∈l)(e:x.id=y.id):x=y:=by
 obtain⟨i,hi⟩:=ZT hx;obtain⟨j,hj⟩:=ZT hy;rcases Nat.lt_trichotomy i j with h1|rfl|h1
 .have:=uS h hi hj h1;omega
 .rw [hi] at hj;cases hj;rfl
 .have:=uS h hj hi h1;omega
theorem po{c:Ac}{k:ByteArray}{l:List It}(h:Asc l){i:It}(hi:i∈l)(hh:(c.has i.atom.name i.atom.args&&decide (dw (keyOf c i.atom.args)=k))=false):sel c k (dN l i.id)=sel c k l:=by
 rw[Ec];refine yF.2 λn hn=>?_;unfold sel at hn;obtain⟨x,hx,rfl⟩:=zl.1 hn;obtain⟨h1,h2⟩:=zp.1 hx
 have hne:¬x.id=i.id:=λe=>by
  rw[K0 h h1 hi e] at h2;rw[hh] at h2;cases h2
 simpa using hne
theorem TabIs.drop{c:Ac}{its:List It}{l:List TR}(h:TabIs c its l)(ha:Asc its){i:It}(hi:i∈its)(hh:c.has i.atom.name i.atom.args=false):TabIs c (dN its i.id) l:=by
 have e:∀k,sel c k (dN its i.id)=sel c k its:=λk=>po ha hi (by simp[hh])
 exact⟨λr hr=>by rw[e];exact h.ids r hr,λk hk=>h.all k (by rw[<-e];exact hk)⟩
theorem TabIs.del{c:Ac}{its its':List It}{l:List TR}{key:ByteArray}(h:TabIs c its l)(hk:∀k,k≠key->sel c k its'=sel c k its)(hr:sel c key its'=[]):TabIs c its' (mF l key):=by
 refine⟨λq hq=>?_,λk hk'=>?_⟩
 .obtain ⟨h1,h2⟩:=zp.1 hq;rw[hk q.key (by simpa using h2)]
  exact h.ids q h1
 .have e:k≠key:=λe=>by rw[e,hr] at hk';exact hk' rfl
  rw[hk k e] at hk';obtain⟨q,h1,h2⟩:=h.all k hk';exact⟨q,zp.2 ⟨h1,by rw[h2];simpa using e⟩,h2⟩
theorem ElN.KG{e:List (Nat×AV)}{bs:List Box}{lo b k i:Nat}{l:List It}{x:It}{K:AV->Prop}(hb:bs[b]? =some (aN It.av 3 k l))(hx:l[i]? =some x)(h:K (.agg [.str x.atom.name,.sl .no (x.atom.args.map Tm.av)])):ElN true 2 ⟨e,bs,lo⟩ (.elp b i 3 1) K:=by
 refine⟨?_⟩;have hi:=(zB.1 hx).1
 have e2:cellsOf (l.map It.av)=cellsOf ((l.take i).map It.av)++(x.av.cells++cellsOf ((l.drop (i+1)).map It.av)):=by
  have e3:l=l.take i++x::l.drop (i+1):=by
   rw[<-(zB.1 hx).2,<-zH hi,List.take_append_drop]
  conv=>lhs;rw[e3]
  rw[zw,zQ,dp,cellsOf]
 have h1:(cellsOf ((l.take i).map It.av)).length=i*3:=by rw[ay.len,zo,yL (by omega)]
 simp only[St.rd,lJ ay hb hx];rw[e2,zh,List.drop_append,List.drop_eq_nil_of_le (by omega),h1]
 rw[show i*3+1-i*3=1 by omega]
 simp only[It.av,AV.cells,zf,Zl,List.drop_succ_cons,yU,zQ,AV.aG,bL];rw[show Nat.ble 2 _=true from Nat.ble_eq_true_of_le (by simp only[zY];omega)]
 exact h
set_option maxHeartbeats 2000000 in
theorem nv{V:Nat->Prop}{bs:List Box}{p:Nat}{acc:List Ac}{its:List It}{id:Int}(h:dv V bs p acc its)(hV:∀b,V b->b<bs.length)(ha:c7 acc its):
  AM.Sem Tryz.prog 16 [.ptr p 0,.int .i64 id] bs λr bs'=>r=.bool (hO its id)/\dv V bs' p acc (dN its id)/\bs.length<=bs'.length/\∀b,b<bs.length->V b->b≠p->bs'[b]? =bs[b]?:=by
 obtain⟨bi,ki,t,kt,cs,hI,n1,n2,n3,n4⟩:=h;obtain⟨l1,l2,l3,l4⟩:=hI.lt;have hfew:=ha.few;have hcl:=hI.len;have hacc:=ha.accs;have hI1:=(hI.snoc (.cells [.ptr p 0])).snoc (.cells [.int .i64 id]);obtain⟨B1,hB1⟩:∃B1,B1=bs++[Box.cells [.ptr p 0]]++[Box.cells [.int .i64 id]]:=⟨_,rfl⟩;have hlen1:B1.length=bs.length+2:=by rw[hB1];simp
 have e2:B1[bs.length]? =some (.cells [.ptr p 0]):=by rw[hB1];simp
 have e3:B1[bs.length+1]? =some (.cells [.int .i64 id]):=by rw[hB1];simp[List.getElem?_append]
 have hold1:∀b,b<bs.length->B1[b]? =bs[b]?:=λb hb=>by rw[hB1,zh,zK hb]
 have x2:aa B1 bs.length=some [.ptr p 0]:=by simp[aa,e2,Box.cs?]
 have x3:aa B1 (bs.length+1)=some [.int .i64 id]:=by simp[aa,e3,Box.cs?]
 rw[<-hB1] at hI1;refine j6 (by simp) ?_
 conv=>whnf
 try dsimp only
 repeat' (first|refine gC (cN ?_)|(refine gB ?_;first|refine .last ?_|refine .last2 ?_))<;>(conv=>whnf;try dsimp only)
 rw[<-hB1,show (bs++[Box.cells [AV.ptr p 0]]).length=bs.length+1 by simp]
 refine ah.raw (wv hI1 ha.asc (by omega)) ?_
 rintro r b' ⟨rfl,rfl⟩
 cases hh:hO its id with
 |false=>
  conv=>whnf
  try dsimp only
  repeat' (refine gC ?_;first|refine cN ?_|refine .not ?_)<;>(conv=>whnf;try dsimp only)
  refine⟨_,au.refl _,.inl ⟨rfl,?_,by show bs.length<=b'.length;omega,λb hb _ _=>hold1 b hb⟩⟩
  have e:dN its id=its:=yF.2 λx hx=>by
   have:=List.any_eq_false.1 hh x hx;simpa using this
  rw[e]
  exact⟨bi,ki,t,kt,cs,hI1,n1,n2,n3,n4⟩
 |true=>
  obtain⟨i,hi,rfl⟩:=HF ha.asc hh;have him:=zE hi;obtain⟨at_,hat⟩:∃at_,at_=iz its i.id:=⟨_,rfl⟩;rw[<-hat] at hi|-;have hatl:=(zB.1 hi).1;have hb0:aa b' p=some [slA Ac.av acc,.bsl bi its.length ki,.bsl t cs.length kt]:=by simp[aa,hI1.str,Box.cs?]
  conv=>whnf
  try dsimp only
  repeat' (first|(refine gC ?_;first|refine cY ?_|refine .not ?_)|refine gN (nS ?_)|refine gB (.of (by assumption) ?_))<;>(conv=>whnf;try dsimp only)
  refine ElN.KG hI1.items (by simpa using hi) ?_
  conv=>whnf
  try dsimp only
  skip;refine ah.raw wu ?_;rintro r b4 ⟨rfl,rfl⟩
  conv=>whnf
  try dsimp only
  skip;obtain⟨B4,hB4⟩:∃B4,B4=b'++[Box.cells [AV.ptr p 0]]++[Box.cells [AV.str i.atom.name,AV.sl Cap.no (List.map Tm.av i.atom.args)]]:=⟨_,rfl⟩;have hl4:B4.length=bs.length+4:=by rw[hB4];simp;omega
  have f0:B4[bs.length]? =some (.cells [.ptr p 0]):=by rw[hB4,zh,zK (by omega)];exact e2
  have f1:B4[bs.length+1]? =some (.cells [.int .i64 i.id]):=by rw[hB4,zh,zK (by omega)];exact e3
  have f2:B4[bs.length+2]? =some (.cells [.ptr p 0]):=by rw[hB4,<-hlen1];simp[List.getElem?_append]
  have f3:B4[bs.length+3]? =some (.cells [AV.str i.atom.name,AV.sl Cap.no (List.map Tm.av i.atom.args)]):=by rw[hB4,show bs.length+3=b'.length+1 by omega];simp[List.getElem?_append]
  have hold:∀b,b<bs.length->B4[b]? =bs[b]?:=λb hb=>by
   rw[hB4,zh,zK (by omega),hold1 b hb]
  have hI4:cW B4 p acc its (λ_=>its) bi ki t kt cs:=by rw[hB4];exact(hI1.snoc _).snoc _
  rw[<-hB4,show b'.length=bs.length+2 from hlen1];simp only[Zn,Nat.reduceAdd];have he:=ha.ent i him;clear hB4 hI1 hb0 x2 x3 e2 e3 hold1 hB1 hlen1;clear b';refine ja.run (gf:=108) (lb:=[.ptr (bs.length+2) 0,.ptr (bs.length+3) 0]) ⟨[(2,AV.ptr bs.length 0),(3,AV.ptr (bs.length+1) 0),(4,AV.bool false),(5,AV.int IntKind.i64 at_),(29,.fn (.func 108) [] [.ptr (bs.length+2) 0,.ptr (bs.length+3) 0])],B4,bs.length⟩ ⟨au.refl _⟩ rfl (by kernel_rfl) λx hx=>?_
  rw[hl4] at hx|-;obtain⟨J,hJ⟩:∃J:Nat->List Box->Prop,J=λj b=>cW b p acc its (λk=>if k<j then dN its i.id else its) bi ki t kt cs/\b[bs.length]? =some (.cells [.ptr p 0])/\b[bs.length+1]? =some (.cells [AV.int IntKind.i64 i.id])/\b[bs.length+2]? =some (.cells [.ptr p 0])/\b[bs.length+3]? =some (.cells [AV.str i.atom.name,AV.sl Cap.no (List.map Tm.av i.atom.args)])/\b[bs.length+4]? =some (.loop x)/\∀k,k<bs.length->k∉cs->b[k]? =bs[k]?:=⟨_,rfl⟩
  have hK:DV (B4++[.loop x]) (bs.length+4) (bs.length+2) (bs.length+3) p acc i.atom.name i.atom.args J:=by
   refine⟨λj b hj=>?_,λj b hj=>?_,λj b hj=>?_,λj b y hj=>?_,λj b c hj hc hh=>?_,λj b c hj hc hh=>?_⟩
   .rw [hJ] at hj;exact hj.2.2.2.1
   .rw [hJ] at hj;exact hj.2.2.2.2.1
   .rw [hJ] at hj;exact⟨_,_,hj.1.str⟩
   .rw [hJ] at hj|-;obtain⟨a1,a2,a3,a4,a5,a6,a7⟩:=hj;have hlt:=(zB.1 a6).1;refine⟨a1.snoc y,?_,?_,?_,?_,?_,λk hk hkc=>?_⟩
    all_goals rw[zK (by omega)]
    all_goals first|assumption|exact a7 k hk hkc
   .rw [hJ] at hj|-;obtain⟨a1,a2⟩:=hj;refine⟨⟨a1.str,a1.items,a1.le,a1.tabs,a1.tle,a1.len,a1.nod,λk d a hd ha'=>?_⟩,a2⟩;obtain⟨y,l,h1,h2,h3⟩:=a1.tab k d a hd ha';refine⟨y,l,h1,h2,?_⟩
    by_cases e:k=j
    .subst e;rw[hc] at ha';cases ha';rw[if_neg (Nat.lt_irrefl _)] at h3;rw[if_pos (Nat.lt_succ_self _)];exact h3.drop ha.asc him hh
    .by_cases e2:k<j
     .rw [if_pos e2] at h3;rw[if_pos (by omega)];exact h3
     .rw [if_neg e2] at h3;rw[if_neg (by omega)];exact h3
   .refine hx _ _ _ ?_ rfl ?_
    .rw [hJ] at hj;simp[ag,hj.2.2.2.2.2.1,Box.lb?]
    rw[hJ] at hj;obtain⟨a1,a2,a3,a4,a5,a6,a7⟩:=hj;have hL:=(zB.1 a6).1
    conv=>whnf
    try dsimp only
    skip;refine DW.mk (by simp[ag,a6,Box.lb?]) ?_
    obtain⟨B5,hB5⟩:∃B5,B5=b.set (bs.length+4) Box.dead:=⟨_,rfl⟩;have k5:∀k,k≠bs.length+4->B5[k]? =b[k]?:=λk hk=>by rw[hB5,Zh (Ne.symm hk)]
    have l5:B5.length=b.length:=by rw[hB5,zn]
    have g1:cW B5 p acc its (λk=>if k<j then dN its i.id else its) bi ki t kt cs:=a1.mono λk hk=>k5 k (by
     rcases hk with rfl|rfl|rfl|hk
     .omega
     .omega
     .omega
     .have:=l4 k hk;omega)
    have b2:aa B5 bs.length=some [.ptr p 0]:=by simp[aa,k5 _ (show bs.length≠bs.length+4 by omega),a2,Box.cs?]
    have b3:aa B5 (bs.length+1)=some [AV.int IntKind.i64 i.id]:=by simp[aa,k5 _ (show bs.length+1≠bs.length+4 by omega),a3,Box.cs?]
    have b4:aa B5 p=some [slA Ac.av acc,.bsl bi its.length ki,.bsl t cs.length kt]:=by simp[aa,g1.str,Box.cs?]
    have hjl:j<cs.length:=by rw[hcl];exact(zB.1 hc).1
    rw[<-hB5];obtain⟨cj,hcj⟩:∃cj,cs[j]? =some cj:=⟨_,zA hjl⟩;obtain⟨y,l,y1,y2,y3⟩:=g1.tab j cj c hcj hc
    conv=>whnf
    try dsimp only
    repeat' (first|refine gN (nS ?_)|refine gB (.of (by assumption) ?_))<;>(conv=>whnf;try dsimp only)
    refine ElN.one (λ_=>⟨rfl,rfl⟩) (l:=cs) (x:=cj) g1.tabs (by simpa using hcj) ?_
    conv=>whnf
    try dsimp only
    skip;have y3:TabIs c its l:=by have:=y3;rwa [if_neg (Nat.lt_irrefl _)] at this
    have hcm:=zE hcj;have hcl2:=l4 cj hcm;obtain⟨m1,m2,m3⟩:=g1.ne hcm;have hsel:=Ec c (dw (keyOf c i.atom.args)) its i.id
    have hids:i.id∈sel c (dw (keyOf c i.atom.args)) its:=by
     unfold sel;exact zl.2 ⟨i,zp.2 ⟨him,by simp[hh]⟩,rfl⟩
    refine⟨⟨cj,y,l,dw (keyOf c i.atom.args),rfl,y1,y2,λr hr hkr=>?_,λhno=>?_⟩⟩
    .have hri:=(y3.ids r hr).1;have hrl:r.ids.length<=100000:=by rw[hri];exact ZP (sr _ _ _) hfew
     conv=>whnf
     try dsimp only
     skip;refine ah.raw (IL (b:=cj) (q:=bs.length+1) (x:=y) (l:=l) (r:=r) (id:=i.id) y1 y2 hr (by rw[k5 _ (by omega)];exact a3) (by omega)) ?_
     rintro v b8 ⟨r',x',rfl,hk',hids',hout,rfl⟩;obtain⟨B6,hB6⟩:∃B6,B6=B5.set cj (.tab x'):=⟨_,rfl⟩;have k6:∀k,k≠cj->B6[k]? =B5[k]?:=λk hk=>by rw[hB6,Zh (Ne.symm hk)]
     have l6:B6.length=b.length:=by rw[hB6,zn,l5]
     have t6:B6[cj]? =some (.tab x'):=by rw[hB6,List.getElem?_set_self (by omega)]
     have c2:aa B6 bs.length=some [.ptr p 0]:=by simp[aa,k6 bs.length (by omega),k5 _ (show bs.length≠bs.length+4 by omega),a2,Box.cs?]
     have c4:aa B6 p=some [slA Ac.av acc,.bsl bi its.length ki,.bsl t cs.length kt]:=by simp[aa,k6 p (Ne.symm m1),g1.str,Box.cs?]
     have c5:B6[t]? =some (aN AV.mpt 1 kt cs):=by rw[k6 t (Ne.symm m3)];exact g1.tabs
     have fin:∀(x2:TB) (l2:List TR),ib x2 l2->TabIs c (dN its i.id) l2->J (j+1) ((B6.set cj (.tab x2)).set (bs.length+4) (.loop x)):=λx2 l2 q1 q2=>by
      rw[hB6,List.set_set,hJ]
      have old:∀k,k≠cj->k≠bs.length+4->((B5.set cj (.tab x2)).set (bs.length+4) (.loop x))[k]? =b[k]?:=λk h2 h3=>by
       rw[Zh (Ne.symm h3),Zh (Ne.symm h2),k5 k h3]
      have g2:cW ((B5.set cj (.tab x2)).set (bs.length+4) (.loop x)) p acc its (λk=>if k<j+1 then dN its i.id else its) bi ki t kt cs:=by
       refine(g1.c9 hcj hc q1 (g:=λk=>if k<j+1 then dN its i.id else its) (by simpa using q2) λk hk=>?_).mono λk hk=>?_
       .by_cases e:k<j
        .rw [if_pos e,if_pos (by omega)]
        .rw [if_neg e,if_neg (by omega)]
       .refine Zh ?_;rcases hk with rfl|rfl|rfl|hk
        .omega
        .omega
        .omega
        .have:=l4 k hk;omega
      refine⟨g2,?_,?_,?_,?_,?_,λk hk hkc=>?_⟩
      .rw [old _ (by omega) (by omega)];exact a2
      .rw [old _ (by omega) (by omega)];exact a3
      .rw [old _ (by omega) (by omega)];exact a4
      .rw [old _ (by omega) (by omega)];exact a5
      .rw [List.getElem?_set_self (by simp;omega)]
      .rw [old k (λe=>hkc (e▸hcm)) (by omega)];exact a7 k hk hkc
     rw[<-hB6];have hsame:∀k,k≠dw (keyOf c i.atom.args)->sel c k (dN its i.id)=sel c k its:=λk hk=>po ha.asc him (by simp[Ne.symm hk])
     have hrid:r'.ids=sel c (dw (keyOf c i.atom.args)) (dN its i.id):=by rw[hids',hri,hkr,hsel]
     cases hids0:r'.ids with
     |nil=>
      have hlit:r'.ids.length=0:=by rw[hids0];rfl
      conv=>whnf
      try dsimp only
      repeat' (first|refine gC (gD (cI ?_))|refine gN (nS ?_)|refine gB (.of (by assumption) ?_))<;>(conv=>whnf;try dsimp only)
      refine ElN.one (λ_=>⟨rfl,rfl⟩) (l:=cs) (x:=cj) c5 (by simpa using hcj) ?_
      conv=>whnf
      try dsimp only
      skip;refine⟨⟨cj,x',l,r',by rw[hk',hkr];rfl,t6,hout,λx2 hx2=>?_⟩⟩
      conv=>whnf
      try dsimp only
      skip;refine⟨_,au.refl _,rfl,fin _ _ hx2 ?_⟩;rw[hk',hkr]
      exact y3.del hsame (by rw[<-hrid,hids0])
     |cons n0 ns=>
      have hlit:¬((r'.ids.length:Int)=0):=by rw[hids0];simp;omega
      conv=>whnf
      try dsimp only
      repeat' (first|refine gC (gD (cJ ?_))|refine gN (nS ?_)|refine gB (.of (by assumption) ?_))<;>(conv=>whnf;try dsimp only)
      refine ElN.one (λ_=>⟨rfl,rfl⟩) (l:=cs) (x:=cj) c5 (by simpa using hcj) ?_
      conv=>whnf
      try dsimp only
      skip;refine⟨⟨cj,x',l,r',by rw[hk',hkr];rfl,t6,hout,λx2 hx2=>?_⟩⟩
      conv=>whnf
      try dsimp only
      skip;refine⟨_,au.refl _,rfl,fin _ _ hx2 ?_⟩;refine y3.put y2.nodK (λk hk=>hsame k (by rw[hk',hkr] at hk;exact hk)) (by rw[hk',hkr];exact hrid) (by rw[hids0];simp)
    .obtain ⟨r,hr1,hr2⟩:=y3.all (dw (keyOf c i.atom.args)) (λe=>by rw[e] at hids;cases hids)
     exact absurd hr2 (hno r hr1)
  refine⟨_,tX hK ?_ he.io he.pos he.len hacc ha.poss,?_⟩
  .rw [hJ];refine⟨?_,?_,?_,?_,?_,?_,λk hk hkc=>?_⟩
   .simpa using hI4.snoc _
   all_goals first|(rw[zK (by show _<B4.length;omega)];first|assumption|exact hold k hk)|(rw[<-hl4];simp)
  .rintro r b5 ⟨rfl,hj⟩;rw[hJ] at hj;obtain⟨a1,a2,a3,a4,a5,a6,a7⟩:=hj;refine⟨by simp[ag,a6,Box.lb?],?_⟩
   have hL:=(zB.1 a6).1;obtain⟨B6,hB6⟩:∃B6,B6=b5.set (bs.length+4) Box.dead:=⟨_,rfl⟩;have l6:B6.length=b5.length:=by rw[hB6,zn]
   have k6:∀k,k≠bs.length+4->B6[k]? =b5[k]?:=λk hk=>by rw[hB6,Zh (Ne.symm hk)]
   have g1:cW B6 p acc its (λk=>if k<acc.length then dN its i.id else its) bi ki t kt cs:=a1.mono λk hk=>k6 k (by
    rcases hk with rfl|rfl|rfl|hk
    .omega
    .omega
    .omega
    .have:=l4 k hk;omega)
   have c2:aa B6 bs.length=some [.ptr p 0]:=by simp[aa,k6 bs.length (by omega),a2,Box.cs?]
   have c4:aa B6 p=some [slA Ac.av acc,.bsl bi its.length ki,.bsl t cs.length kt]:=by simp[aa,g1.str,Box.cs?]
   rw[<-hB6];clear hB6
   conv=>whnf
   try dsimp only
   repeat' (first|refine gW (wI ?_)|refine gB (.of (by assumption) ?_))<;>(conv=>whnf;try dsimp only)
   refine ah.raw (H8 (b:=bi) (l:=its) g1.items hatl g1.le (by omega)) ?_
   rintro r b8 ⟨rfl,rfl⟩
   have hpbi:p≠bi:=λe=>by
    have h1:=hI.str;have h2:=hI.items;rw[e,h2] at h1;cases h1
   have hptb:p≠t:=λe=>by
    have h1:=hI.str;have h2:=hI.tabs;rw[e,h2] at h1;cases h1
   conv=>whnf
   refine⟨.inr ?_,?_⟩
   .conv=>whnf
    repeat' first|exact True.intro|refine And.intro (jw (by omega) (by first|omega|(simp;done)|(simp;omega))) ?_
   conv=>whnf
   try dsimp only
   skip;obtain⟨B7,hB7⟩:∃B7,B7=B6.set bi Box.dead++[aN It.av 3 ki (its.take at_++its.drop (at_+1))]:=⟨_,rfl⟩;have l7:B7.length=B6.length+1:=by rw[hB7];simp
   have k7:∀b,b<B6.length->b≠bi->B7[b]? =B6[b]?:=λb hb hne=>by
    rw[hB7,zK (by simp;omega),Zh (Ne.symm hne)]
   have r7:B7[B6.length]? =some (aN It.av 3 ki (dN its i.id)):=by
    rw[hB7,za (by simp),yu ha.asc hi]
    simp
   rw[<-hB7];clear hB7;refine ku.of (cs:=[slA Ac.av acc,.bsl bi its.length ki,.bsl t cs.length kt]) (by simp[aa,k7 p (by omega) hpbi,g1.str,Box.cs?]) ?_
   conv=>whnf
   try dsimp only
   skip;refine⟨?_⟩;obtain⟨B8,hB8⟩:∃B8,B8=B7.set p (Box.cells [.sl .no (acc.map Ac.av),AV.bsl B6.length (its.length-1) ki,AV.bsl t cs.length kt]):=⟨_,rfl⟩;rw[<-hB8]
   have hdl:(dN its i.id).length=its.length-1:=by
    rw[yu ha.asc hi,zC,zo,Zg];omega
   have l8:B8.length=B6.length+1:=by rw[hB8,zn,l7]
   have s8:B8[p]? =some (.cells [slA Ac.av acc,.bsl B6.length (dN its i.id).length ki,.bsl t cs.length kt]):=by rw[hB8,List.getElem?_set_self (by omega),hdl]
   have k8:∀b,b<B6.length->b≠bi->b≠p->B8[b]? =B6[b]?:=λb h1 h2 h3=>by rw[hB8,Zh (Ne.symm h3),k7 b h1 h2]
   have r8:B8[B6.length]? =some (aN It.av 3 ki (dN its i.id)):=by rw[hB8,Zh (by omega)];exact r7
   clear hB8
   conv=>whnf
   try dsimp only
   skip;refine⟨_,au.refl _,.inl ⟨rfl,⟨B6.length,ki,t,kt,cs,⟨s8,r8,by rw[hdl];have:=g1.le;omega,?_,g1.tle,g1.len,g1.nod,λk c a hc ha'=>?_⟩,λh=>by have:=hV _ h;omega,n2,n3,by omega⟩,by show bs.length<=B8.length;omega,λb hb hVb hbp=>?_⟩⟩
   .show B8[t]? =_;rw[k8 t (by omega) n4 (Ne.symm hptb)];exact g1.tabs
   .have hcm:=zE hc;obtain⟨m1,m2,m3⟩:=g1.ne hcm;have:=l4 c hcm;obtain⟨x1,l1',h1,h2,h3⟩:=g1.tab k c a hc ha';refine⟨x1,l1',?_,h2,?_⟩
    .show B8[c]? =_;rw[k8 c (by omega) m2 m1];exact h1
    .rwa [if_pos (zB.1 ha').1] at h3
   .show B8[b]? =_;rw[k8 b (by omega) (λe=>n1 (e▸hVb)) hbp,k6 b (by omega),a7 b hb (λhc=>n3 b hc hVb)]
end Go.CK
namespace Go.CK
open Go.AM Go.Proofs
def js(acc:List Ac)(its:List It)(k:Int)(key:List Tm):List Int:=
 if 0<=k then match acc[k.toNat]? with
  |some c=>if key.length=c.positions.length then sel c (dw key) its else []
  |none=>[]
 else []
theorem dv.pre{V:Nat->Prop}{bs b2:List Box}{p:Nat}{acc:List Ac}{its:List It}(h:dv V bs p acc its)(hb:Pre bs b2):dv V b2 p acc its:=by
 obtain⟨X,rfl⟩:=hb.app;exact h.app X
set_option maxHeartbeats 1000000 in
theorem oU{V:Nat->Prop}{bs:List Box}{p:Nat}{acc:List Ac}{its:List It}(h:dv V bs p acc its)(ha:c7 acc its):
  AM.Sem Tryz.prog 12 [.ptr p 0] bs λr bs'=>r=slA It.av its/\Pre bs bs':=by
 obtain⟨bi,ki,t,kt,cs,hI,n1,n2,n3,n4⟩:=h;obtain⟨l1,l2,l3,l4⟩:=hI.lt;have hfew:=ha.few;have hb0:aa bs p=some [slA Ac.av acc,.bsl bi its.length ki,.bsl t cs.length kt]:=by simp[aa,hI.str,Box.cs?]
 refine k9 (by simp) ?_
 conv=>whnf
 try dsimp only
 repeat' (first|refine gC (cN ?_)|refine gB (.of (by assumption) ?_))<;>(conv=>whnf;try dsimp only)
 refine aJ.by (fb:=false) (λst_ (a:Nat×List Box)=>⟨[(3,.sl (.own 3) ((its.take a.1).map It.av)),(11,.bsl bi its.length ki),(12,.int .i64 its.length),(13,.int .i64 (a.1:Int))],a.2,bs.length⟩) (λa=>a.1<=its.length/\Pre bs a.2) (λa=>its.length-a.1) (0,bs) ⟨zJ _,⟨zG _,λ_ _=>rfl⟩⟩ ?_ ?_
 .refine az.atS ?_ rfl rfl
  conv=>whnf
  repeat' (first|(refine gV ?_;first|refine vE ?_|refine vI ?_|((refine gK ?_;refine vD ?_ ?_);(focus (simp[AV.norm,AV.bG,];done))))|exact True.intro)<;>conv=>whnf
 .rintro ⟨j,b2⟩ ⟨q1,q2⟩;dsimp only at q1 q2
  by_cases hj:j<its.length
  .obtain ⟨i,hi⟩:∃i,its[j]? =some i:=⟨_,zA hj⟩
   conv=>whnf
   try dsimp only
   repeat' (first|refine gC (gD (cI ?_))|refine gN (nS ?_))<;>(conv=>whnf;try dsimp only)
   refine ElN.elem ay (l:=its) (x:=i) (by rw[q2.2 bi l2];exact hI.items) (by simpa using hi) ?_
   conv=>whnf
   try dsimp only
   repeat' (first|refine gF (ah.fn (xY i (ha.ent i (zE hi)).nds) ?_)|refine gW (wI ?_)|refine gN (nS ?_)|refine gB (.last ?_)|refine dG.last ?_)<;>(conv=>whnf;try dsimp only)
   refine⟨(j+1,b2++[Box.cells [AV.int IntKind.i64 i.id,AV.str i.atom.name,AV.sl Cap.no (List.map Tm.av i.atom.args)]]),⟨⟨hj,q2.snoc _⟩,by dsimp only;omega⟩,?_⟩
   rw[show its.take (j+1)=its.take j++[i] by rw[ZD,hi];rfl,zw]
   simp only[zQ,Ze,It.av];refine az.atS ?_ rfl rfl
   conv=>whnf
   repeat' (first|(refine gV ?_;first|refine vE ?_|refine vI ?_)|exact True.intro)<;>conv=>whnf
  .obtain rfl:j=its.length:=by omega
   conv=>whnf
   try dsimp only
   repeat' refine gC (gD (cJ ?_))<;>(conv=>whnf;try dsimp only)
   rw[zm (zG _)];refine⟨_,au.refl _,.inr ?_⟩
   conv=>whnf
   exact⟨rfl,q2⟩
set_option maxHeartbeats 1000000 in
theorem dZ{V:Nat->Prop}{bs:List Box}{p:Nat}{acc:List Ac}{its:List It}{k:Int}{key:List Tm}(h:dv V bs p acc its)(ha:c7 acc its)(hio:Tm.ios key)(hlen:(bh key).length<=100000000)(hk:key.length<=10000000):
  AM.Sem Tryz.prog 13 [.ptr p 0,.int .i64 k,slA Tm.av key] bs λr bs'=>r=slA bF (js acc its k key)/\bs'=bs:=by
 obtain⟨bi,ki,t,kt,cs,hI,n1,n2,n3,n4⟩:=h;have hfew:=ha.few;have hacc:=ha.accs;have hb0:aa bs p=some [slA Ac.av acc,.bsl bi its.length ki,.bsl t cs.length kt]:=by simp[aa,hI.str,Box.cs?]
 have hcl:=hI.len;have htx:=D2 hio hlen;refine lZ (by simp) ?_
 unfold js
 by_cases h0:0<=k
 .rw [if_pos h0];obtain⟨n,rfl⟩:=Int.eq_ofNat_of_zero_le h0;rw[Zq]
  cases hc:acc[n]? with
  |none=>
   have hn:=ZL.1 hc
   conv=>whnf
   try dsimp only
   repeat' (first|(refine gC ?_;first|refine cY ?_|refine cN ?_|(refine gD ?_;first|refine cI ?_|refine cJ ?_))|refine gL (.map ?_)|refine gB (.of (by assumption) ?_))<;>(conv=>whnf;try dsimp only)
   refine⟨_,au.refl _,.inr ?_⟩
   conv=>whnf
   exact⟨rfl,rfl⟩
  |some c=>
   have hn:=(zB.1 hc).1;have hpl:=ha.poss c (zE hc);dsimp only
   by_cases hkl:key.length=c.positions.length
   .rw [if_pos hkl];obtain⟨cj,hcj⟩:∃cj,cs[n]? =some cj:=⟨_,zA (by omega)⟩
    obtain⟨y,l,y1,y2,y3⟩:=hI.tab n cj c hcj hc
    conv=>whnf
    try dsimp only
    repeat' (first|(refine gC ?_;first|refine cN ?_|refine .not ?_|(refine gD ?_;first|refine cI ?_|refine cJ ?_))|refine gL (.map ?_)|refine gN (nS ?_)|refine gI (gM (iE ?_))|refine gB (.of (by assumption) ?_))<;>(conv=>whnf;try dsimp only)
    refine ElN.one (λ_=>⟨rfl,rfl⟩) (l:=cs) (x:=cj) hI.tabs (by simpa using hcj) ?_
    conv=>whnf
    try dsimp only
    repeat' refine gG (bO.fn (htx) ?_)<;>(conv=>whnf;try dsimp only)
    refine⟨⟨cj,y,l,dw key,rfl,y1,y2,λr hr hkr=>?_,λhno=>?_⟩⟩
    .have hids:=(y3.ids r hr).1;have hrl:r.ids.length<=100000:=by rw[hids];exact ZP (sr _ _ _) hfew
     conv=>whnf
     try dsimp only
     skip;refine ah.raw (Gz (b:=cj) (x:=y) (l:=l) (r:=r) y1 y2 hr (by omega)) ?_
     rintro v b8 ⟨rfl,rfl⟩
     conv=>whnf
     try dsimp only
     skip;refine⟨_,au.refl _,.inl ⟨?_,rfl⟩⟩;rw[hids,hkr];rfl
    .have hse:sel c (dw key) its=[]:=by
      cases hs:sel c (dw key) its with
      |nil=>rfl
      |cons a q=>
       obtain⟨r,hr1,hr2⟩:=y3.all (dw key) (by rw[hs];simp)
       exact absurd hr2 (hno r hr1)
     have hcn:=wW (l:=[]) (by simp)
     rw[hse]
     conv=>whnf
     try dsimp only
     repeat' refine gF (ah.fn (hcn) ?_)<;>(conv=>whnf;try dsimp only)
     exact⟨_,au.refl _,.inl ⟨rfl,rfl⟩⟩
   .rw [if_neg hkl]
    conv=>whnf
    try dsimp only
    repeat' (first|(refine gC ?_;first|refine cN ?_|refine .not ?_|refine gD (cJ ?_))|refine gL (.map ?_)|refine gI (gM (iE ?_))|refine gB (.of (by assumption) ?_))<;>(conv=>whnf;try dsimp only)
    refine⟨_,au.refl _,.inr ?_⟩
    conv=>whnf
    exact⟨rfl,rfl⟩
 .rw [if_neg h0]
  conv=>whnf
  try dsimp only
  repeat' (refine gC ?_;first|refine cY ?_|refine cN ?_|refine gD (cI ?_))<;>(conv=>whnf;try dsimp only)
  refine⟨_,au.refl _,.inr ?_⟩
  conv=>whnf
  exact⟨rfl,rfl⟩
end Go.CK
namespace Go.CK
open Go.AM Go.Proofs
structure cP where
 kind:Int
 n:Int
 item:It
 key:List Tm
 binds:List Bnd
def cP.av(o:cP):AV:=.agg [.int .i64 o.kind,.int .i64 o.n,.int .i64 o.item.id,.str o.item.atom.name,.sl .no (o.item.atom.args.map Tm.av),.sl .no (o.key.map Tm.av),.sl .no (o.binds.map Bnd.av)]
theorem Bz{l:List Tm}{most:Int}(b1:-1<=most)(b2:most<=100000):Fun Tryz.prog 38 [slA Tm.av l,.int .i64 most] (.bool (decide (bg l most 64<0))):=by
 have hw:=sI (l:=l) (left:=most) (deep:=64) (by omega) (by omega) (by omega) (by omega)
 refine Fun.of (j0 (by simp) ?_) rfl rfl
 conv=>whnf
 repeat' (first|refine gF (ah.fn (hw) ?_)|refine ai.nrm ?_)<;>conv=>whnf
 all_goals rfl
def iX(i:It):Bool:=!ee [at2 i.atom] 30
def jh(a:Ac):Bool:=decide (a.name.size<=60)&&decide (a.positions.length<=10)
def p7(b:Bnd):Bool:=!decide (bg [b.t] 4 64<0)
def ly(o:cP):Bool:=decide (o.binds.length<=6)&&(iX o.item&&(!decide (bg o.key 30 64<0)&&o.binds.all p7))
def HZ(l:List It)(acc:List Ac)(ops:List cP):Bool:=decide (l.length<=15)&&(decide (acc.length<=6)&&(decide (ops.length<=30)&&(l.all iX&&(acc.all jh&&ops.all ly))))
theorem EB(i:It):Fun Tryz.prog 37 [.sl .no [.agg [.str i.atom.name,.sl .no (i.atom.args.map Tm.av)]],.int .i64 30] (.bool (!iX i)):=by
 have:=vp (l:=[i.atom]) (most:=30) (by decide) (by decide)
 rw[iX,Bool.not_not];exact this
theorem qe{α:Type}{f:α->Bool}{l:List α}{j:Nat}{x:α}(hx:l[j]? =some x):(l.drop j).all f=(f x&&(l.drop (j+1)).all f):=by
 obtain⟨h1,rfl⟩:=zB.1 hx;rw[zH h1,List.all_cons]
set_option maxHeartbeats 1000000 in
theorem KK(l:List It)(acc:List Ac)(ops:List cP):Fun Tryz.prog 9 [slA It.av l,slA Ac.av acc,slA cP.av ops] (.bool (HZ l acc ops)):=by
 unfold HZ
 by_cases h1:l.length<=15
 .rw [decide_eq_true h1,zb]
  by_cases h2:acc.length<=6
  .rw [decide_eq_true h2,zb]
   by_cases h3:ops.length<=30
   .rw [decide_eq_true h3,zb];refine Fun.of (bJ (by simp) ?_) rfl rfl
    conv=>whnf
    repeat' (first|refine gC (gD (cJ ?_))|refine gL (.map ?_))<;>conv=>whnf
    refine aJ.by (fb:=true) (λ_ (j:Nat)=>⟨[(0,slA It.av l),(1,slA Ac.av acc),(2,slA cP.av ops),(7,.int .i64 (j:Int))],[],0⟩) (λj=>j<=l.length/\(l.drop j).all iX=l.all iX) (λj=>l.length-j) 0 ⟨zJ _,rfl⟩ ?_ ?_
    .exact bH
    .rintro j ⟨q1,q2⟩
     by_cases hj:j<l.length
     .obtain ⟨x,hx⟩:∃x,l[j]? =some x:=⟨_,zA hj⟩;rw[qe hx] at q2;have hf:=EB x
      cases hb:iX x with
      |false=>
       rw[hb] at hf;rw[hb,zy] at q2;rw[<-q2,zy]
       conv=>whnf
       repeat' (first|refine gF (ah.fn (hf) ?_)|(refine gC ?_;first|refine cN ?_|refine .not ?_|refine gD (cI ?_))|refine gL (.map ?_)|refine gI (gM (iE ?_))|refine ai.nrm ?_)<;>conv=>whnf
      |true=>
       rw[hb] at hf;rw[hb,zb] at q2
       conv=>whnf
       repeat' (first|refine gF (ah.fn (hf) ?_)|(refine gC ?_;first|refine cY ?_|refine .not ?_|refine gD (cI ?_))|refine gW (wI ?_)|refine gL (.map ?_)|refine gI (gM (iE ?_)))<;>conv=>whnf
       refine⟨j+1,⟨⟨hj,q2⟩,by omega⟩,?_⟩
       exact bH
     .obtain rfl:j=l.length:=by omega
      rw[zk,List.all_nil] at q2;rw[<-q2,zb]
      conv=>whnf
      repeat' (first|refine gC (gD (cJ ?_))|refine gL (.map ?_))<;>conv=>whnf
      refine aJ.by (fb:=true) (λ_ (j:Nat)=>⟨[(1,slA Ac.av acc),(2,slA cP.av ops),(8,.int .i64 (j:Int))],[],0⟩) (λj=>j<=acc.length/\(acc.drop j).all jh=acc.all jh) (λj=>acc.length-j) 0 ⟨zJ _,rfl⟩ ?_ ?_
      .exact bH
      .rintro j ⟨q1,q2⟩
       by_cases hj:j<acc.length
       .obtain ⟨x,hx⟩:∃x,acc[j]? =some x:=⟨_,zA hj⟩;rw[qe hx] at q2
        by_cases hn:x.name.size<=60
        .by_cases hpl:x.positions.length<=10
         .have hb:jh x=true:=by simp[jh,hn,hpl]
          rw[hb,zb] at q2
          conv=>whnf
          repeat' (first|(refine gC ?_;(refine gD ?_;first|refine cI ?_|refine cJ ?_))|refine gW (wI ?_)|refine gL (.map ?_)|refine gI (gM (iE ?_)))<;>conv=>whnf
          refine⟨j+1,⟨⟨hj,q2⟩,by omega⟩,?_⟩
          exact bH
         .have hb:jh x=false:=by simp[jh,hn,hpl]
          rw[hb,zy] at q2;rw[<-q2,zy]
          conv=>whnf
          repeat' (first|(refine gC ?_;(refine gD ?_;first|refine cI ?_|refine cJ ?_))|refine gL (.map ?_)|refine gI (gM (iE ?_))|refine ai.nrm ?_)<;>conv=>whnf
        .have hb:jh x=false:=by simp[jh,hn]
         rw[hb,zy] at q2;rw[<-q2,zy]
         conv=>whnf
         repeat' (first|(refine gC ?_;first|refine cY ?_|refine gD (cI ?_))|refine gL (.map ?_)|refine gI (gM (iE ?_))|refine ai.nrm ?_)<;>conv=>whnf
       .obtain rfl:j=acc.length:=by omega
        rw[zk,List.all_nil] at q2;rw[<-q2,zb]
        conv=>whnf
        repeat' (first|refine gC (gD (cJ ?_))|refine gL (.map ?_))<;>conv=>whnf
        refine aJ.by (fb:=true) (λ_ (j:Nat)=>⟨[(2,slA cP.av ops),(9,.int .i64 (j:Int))],[],0⟩) (λj=>j<=ops.length/\(ops.drop j).all ly=ops.all ly) (λj=>ops.length-j) 0 ⟨zJ _,rfl⟩ ?_ ?_
        .exact bH
        .rintro j ⟨q1,q2⟩
         by_cases hj:j<ops.length
         .obtain ⟨x,hx⟩:∃x,ops[j]? =some x:=⟨_,zA hj⟩;rw[qe hx] at q2;have hf:=EB x.item;have hg:=Bz (l:=x.key) (most:=30) (by decide) (by decide)
          by_cases hn:x.binds.length<=6
          .cases hb:iX x.item with
           |false=>
            rw[hb] at hf;rw[show ly x=false by simp[ly,hb],zy] at q2
            rw[<-q2]
            conv=>whnf
            repeat' (first|refine gF (ah.fn (hf) ?_)|(refine gC ?_;first|refine cY ?_|refine cN ?_|refine .not ?_|(refine gD ?_;first|refine cI ?_|refine cJ ?_))|refine gL (.map ?_)|refine gI (gM (iE ?_))|refine ai.nrm ?_)<;>conv=>whnf
           |true=>
            rw[hb] at hf
            by_cases hw:bg x.key 30 64<0
            .rw [decide_eq_true hw] at hg;rw[show ly x=false by simp[ly,hw],zy] at q2
             rw[<-q2]
             conv=>whnf
             repeat' (first|(refine gF ?_;first|refine ah.fn (hf) ?_|refine ah.fn (hg) ?_)|(refine gC ?_;first|refine cY ?_|refine .not ?_|(refine gD ?_;first|refine cI ?_|refine cJ ?_))|refine gL (.map ?_)|refine gI (gM (iE ?_))|refine ai.nrm ?_)<;>conv=>whnf
            .rw [decide_eq_false hw] at hg;have ho:ly x=x.binds.all p7:=by simp[ly,hn,hb,hw]
             rw[ho] at q2
             conv=>whnf
             repeat' (first|(refine gF ?_;first|refine ah.fn (hf) ?_|refine ah.fn (hg) ?_)|(refine gC ?_;first|refine cY ?_|refine cN ?_|refine .not ?_|(refine gD ?_;first|refine cI ?_|refine cJ ?_))|refine gL (.map ?_)|refine gI (gM (iE ?_)))<;>conv=>whnf
             refine aJ.by (fb:=true) (λ_ (k:Nat)=>⟨[(2,slA cP.av ops),(9,.int .i64 (j:Int)),(10,.int .i64 (k:Int))],[],0⟩) (λk=>k<=x.binds.length/\(x.binds.drop k).all p7=x.binds.all p7) (λk=>x.binds.length-k) 0 ⟨zJ _,rfl⟩ ?_ ?_
             .exact bH
             .rintro k ⟨p1,p2⟩
              by_cases hk:k<x.binds.length
              .obtain ⟨b,hb⟩:∃b,x.binds[k]? =some b:=⟨_,zA hk⟩;rw[qe hb] at p2;have hs:=Bz (l:=[b.t]) (most:=4) (by decide) (by decide)
               simp only[slA,zQ,Ze,Tm.sj] at hs
               by_cases hw4:bg [b.t] 4 64<0
               .rw [decide_eq_true hw4] at hs;rw[show p7 b=false by simp[p7,hw4],zy] at p2
                rw[<-p2,zy] at q2;rw[<-q2]
                conv=>whnf
                repeat' (first|refine gF (ah.fn (hs) ?_)|(refine gC ?_;first|refine cY ?_|refine gD (cI ?_))|refine gL (.map ?_)|refine gI (gM (iE ?_))|refine ai.nrm ?_)<;>conv=>whnf
               .rw [decide_eq_false hw4] at hs;rw[show p7 b=true by simp[p7,hw4],zb] at p2
                conv=>whnf
                repeat' (first|refine gF (ah.fn (hs) ?_)|(refine gC ?_;first|refine cN ?_|refine gD (cI ?_))|refine gW (wI ?_)|refine gL (.map ?_)|refine gI (gM (iE ?_)))<;>conv=>whnf
                refine⟨k+1,⟨⟨hk,p2⟩,by omega⟩,?_⟩
                exact bH
              .obtain rfl:k=x.binds.length:=by omega
               rw[zk,List.all_nil] at p2;rw[<-p2,zb] at q2
               conv=>whnf
               repeat' (first|refine gC (gD (cJ ?_))|refine gW (wI ?_)|refine gL (.map ?_)|refine gI (gM (iE ?_)))<;>conv=>whnf
               refine⟨j+1,⟨⟨hj,q2⟩,by omega⟩,?_⟩
               exact bH
          .rw [show ly x=false by simp[ly,hn],zy] at q2
           rw[<-q2]
           conv=>whnf
           repeat' (first|(refine gC ?_;first|refine cY ?_|refine gD (cI ?_))|refine gL (.map ?_)|refine gI (gM (iE ?_))|refine ai.nrm ?_)<;>conv=>whnf
         .obtain rfl:j=ops.length:=by omega
          rw[zk,List.all_nil] at q2;rw[<-q2]
          conv=>whnf
          repeat' (first|refine gC (gD (cJ ?_))|refine gL (.map ?_)|refine ai.nrm ?_)<;>conv=>whnf
   .rw [decide_eq_false h3];refine Fun.of (bJ (by simp) ?_) rfl rfl
    conv=>whnf
    repeat' (first|(refine gC ?_;(refine gD ?_;first|refine cI ?_|refine cJ ?_))|refine gL (.map ?_)|refine ai.nrm ?_)<;>conv=>whnf
    rfl
  .rw [decide_eq_false h2];refine Fun.of (bJ (by simp) ?_) rfl rfl
   conv=>whnf
   repeat' (first|(refine gC ?_;first|refine cY ?_|(refine gD ?_;first|refine cI ?_|refine cJ ?_))|refine gL (.map ?_)|refine ai.nrm ?_)<;>conv=>whnf
   rfl
 .rw [decide_eq_false h1];refine Fun.of (bJ (by simp) ?_) rfl rfl
  conv=>whnf
  repeat' (first|(refine gC ?_;first|refine cY ?_|refine gD (cI ?_))|refine gL (.map ?_)|refine ai.nrm ?_)<;>conv=>whnf
  rfl
end Go.CK
namespace Go.CK
open Go.AM Go.Proofs
theorem dh{t:UInt8}{n:Int}(h:cz n):(di t n).length<=31:=by
 have:=Bn h.1 h.2;simp only[di,zY];omega
theorem Ag(s:ByteArray)(hs:s.size<=1000000):(dE s).length<=32+s.size:=by
 have:=dh (t:=115) (n:=s.size) ⟨by omega,by omega⟩
 simp only[dE,zC,zY,<-size_data];omega
theorem IF(t:Tm):t.io->∀left deep:Int,left<=100000->0<=t.wgh left deep->((bT t).length:Int)<=130*(left-t.wgh left deep):=by
 induction t using Tm.bu with
 |h k m s l ih=>
  have hl:∀(r:List Tm),(∀t∈r,t∈l)->Tm.ios r->∀left deep:Int,left<=100000->0<=left->0<=Tm.dJ r left deep->((bh r).length:Int)<=130*(left-Tm.dJ r left deep):=λr=>by
   induction r with
   |nil=>intro _ _ left deep h0 h1 h2;simp only[Tm.dJ,bh,ZR] at*;omega
   |cons t r ihr=>
    intro hm hio left deep h0 h1 h2;rw[Tm.dJ,if_neg (by omega)] at h2|-
    by_cases h3:0<=t.wgh left deep
    .have h4:=ih t (hm t (by simp)) hio.1 left deep h0 h3
     have h6:=sH t left deep (by omega)
     have h5:=ihr (λx hx=>hm x (by simp[hx])) hio.2 (t.wgh left deep) deep (by omega) h3 h2
     rw[bh,zC];omega
    .rw [mT _ (by omega)] at h2;omega
  intro hio left deep h0 h;rw[Tm.wgh] at h|-;have h8:=pg s.size;split at h
  .omega
  .rename_i hc;rw[if_neg hc];have h2:=hl l (λt h=>h) hio.2.2 (left-1-(s.size:Int).tdiv 8) (deep-1) (by omega) (by omega) h
   have hs:s.size<=1000000:=by omega
   have w1:=Ag s hs;have n1:=dh (t:=105) hio.2.1;have n2:=dh (t:=118) hio.2.1;have n3:=dh (t:=107) hio.1;have n4:=dh (t:=110) hio.2.1;have n5:=dh (t:=102) (n:=l.length) ⟨by omega,by omega⟩
   rw[bT];split
   .omega
   .split
    .omega
    .split
     .simp only[zC];omega
     .simp only[zC];omega
theorem vA{l:List Tm}{left deep:Int}(hio:Tm.ios l)(h0:left<=100000)(h:0<=bg l left deep):((bh l).length:Int)<=130*left:=by
 by_cases hc:deep=0\/left<l.length
 .rw [bg,if_pos hc] at h;omega
 .rw [bg,if_neg hc] at h
  have:∀(r:List Tm),Tm.ios r->∀left:Int,left<=100000->0<=left->0<=Tm.dJ r left deep->((bh r).length:Int)<=130*(left-Tm.dJ r left deep):=λr=>by
   induction r with
   |nil=>intro _ left h0 h1 h2;simp only[Tm.dJ,bh,ZR] at*;omega
   |cons t r ihr=>
    intro hio left h0 h1 h2;rw[Tm.dJ,if_neg (by omega)] at h2|-
    by_cases h3:0<=t.wgh left deep
    .have h4:=IF t hio.1 left deep h0 h3;have h6:=sH t left deep (by omega)
     have h5:=ihr hio.2 (t.wgh left deep) (by omega) h3 h2
     rw[bh,zC];omega
    .rw [mT _ (by omega)] at h2;omega
  have:=this l hio left h0 (by omega) h
  omega
theorem Am{t:Tm}:∀{l:List Tm},t∈l->(bT t).length<=(bh l).length
 |a::l,h=>by
  rw[bh,zC];rcases zI.1 h with rfl|h
  .omega
  .have:=Am h;omega
theorem oH{n:Nat}:∀{l:List Tm},(∀t∈l,(bT t).length<=n)->(bh l).length<=l.length*n
 |[],_=>by simp[bh]
 |a::l,h=>by
  have h1:=h a (by simp)
  have h2:=oH (l:=l) λt ht=>h t (by simp[ht])
  rw[bh,zC,zY,Nat.succ_mul];omega
theorem AS{a:Int}:∀{l:List Int} {last:Int},AT a last l=true->∀p∈l,last<p/\p<a
 |[],_,_,p,hp=>by cases hp
 |x::l,last,h,p,hp=>by
  rw[AT] at h;simp only[zD,decide_eq_true_eq] at h;rcases zI.1 hp with rfl|hp
  .exact ⟨h.1,h.2.1⟩
  .have:=AS h.2.2 p hp;exact⟨by omega,this.2⟩
theorem sB{c:Ac}{s:ByteArray}{args:List Tm}(hr:c.right=true)(hh:c.has s args=true):vV c args:=by
 simp only[Ac.right,zD,decide_eq_true_eq] at hr;simp only[Ac.has,zD,decide_eq_true_eq] at hh;intro p hp;have:=AS hr.2.2.2 p hp;omega
theorem DC{i:It}(h:iX i=true):0<=bg i.atom.args (30-1-(i.atom.name.size:Int).tdiv 8) 64:=by
 have h1:ee [at2 i.atom] 30=false:=by simpa[iX] using h
 rw[ee,if_neg (by omega)] at h1
 rw[ee] at h1;have h2:=of_decide_eq_false h1;exact Int.not_lt.1 h2
theorem FF{i:It}(h:iX i=true):i.atom.args.length<=30:=by
 have h1:=DC h;have h8:=pg i.atom.name.size;unfold bg at h1;split at h1
 .omega
 .rename_i hc;omega
theorem qU{acc:List Ac}{i:It}(hr:∀c∈acc,c.right=true)(ha:∀c∈acc,jh c=true)(hf:iX i=true)(hio:Tm.ios i.atom.args):rP acc i:=by
 refine⟨hio,λc hc hh=>sB (hr c hc) hh,λc hc hh=>?_, by have := weigh_cn (DC hf); have h8 := pg i.atom.name.size; omega⟩;have h8:=pg i.atom.name.size;have h1:=vA hio (by omega) (DC hf)
 have hp:c.positions.length<=10:=by
  have:=ha c hc;simp only[jh,zD,decide_eq_true_eq] at this;exact this.2
 have hpos:=sB (hr c hc) hh
 have h2:=oH (l:=keyOf c i.atom.args) (n:=4000) λt ht=>by
  obtain⟨p,hp,rfl⟩:=zl.1 ht;obtain⟨p0,p1⟩:=hpos p hp;have hlt:p.toNat<i.atom.args.length:=by omega
  have hm:i.atom.args.getD p.toNat tm0∈i.atom.args:=by
   rw[List.getD_eq_getElem?_getD,zA hlt];exact zd hlt
  have:=Am hm;omega
 have h3:(keyOf c i.atom.args).length=c.positions.length:=by simp[keyOf]
 rw[h3] at h2;have:c.positions.length*4000<=10*4000:=ZF _ hp;omega
theorem D8:∀{l:List It} {last:Int},stB last l=true->Asc l/\∀i∈l,last<i.id/\i.atom.right=true
 |[],_,_=>⟨List.Pairwise.nil,λ_ h=>by cases h⟩
 |x::l,last,h=>by
  rw[stB] at h;simp only[zD,decide_eq_true_eq] at h;obtain⟨h1,h2⟩:=D8 h.2.2;refine⟨ZB.2 ⟨λy hy=>(h2 y hy).1,h1⟩,λi hi=>?_⟩;rcases zI.1 hi with rfl|hi
  .exact ⟨h.1,h.2.1⟩
  .have:=h2 i hi;exact⟨by omega,this.2⟩
theorem mY{l:List It}(h:dz l=true):Asc l:=by
 simp only[dz,zD] at h;exact(D8 h.2).1
theorem w9{acc:List Ac}{l:List It}(hr:∀c∈acc,c.right=true)(ha:∀c∈acc,jh c=true)(hl:∀i∈l,iX i=true/\Tm.ios i.atom.args)(hasc:Asc l)(hll:l.length<=100000)(hal:acc.length<=1000000):c7 acc l:=
 ⟨hasc,hll,λi hi=>qU hr ha (hl i hi).1 (hl i hi).2,hal,λc hc=>by
  have:=ha c hc;simp only[jh,zD,decide_eq_true_eq] at this;omega⟩
theorem c7.ins{acc:List Ac}{l:List It}(h:c7 acc l){i:It}(he:rP acc i)(hh:hO l i.id=false)(hl:l.length<=500):c7 acc (aY l i):=
 ⟨wz h.asc λx hx e=>by
   have:=List.any_eq_false.1 hh x hx;simp at this;exact this e,by rw[nX];omega,λx hx=>by
   rcases wy.1 hx with rfl|hx
   .exact he
   .exact h.ent x hx,h.accs,h.poss⟩
theorem c7.del{acc:List Ac}{l:List It}(h:c7 acc l)(id:Int):c7 acc (dN l id):=
 ⟨BP h.asc id,ZP (yB _ _) h.few,λx hx=>h.ent x (zp.1 hx).1,h.accs,h.poss⟩
end Go.CK
namespace Go.CK
open Go.AM Go.Proofs
theorem qC{l:List It}{acc:List Ac}(hl:l.length<=1000000)(hl2:∀i∈l,i.atom.args.length<=10000000)(hal:acc.length<=1000000)(hap:∀a∈acc,a.positions.length<=1000000)(h:(dz l&&acc.all Ac.right)=false):Fun Tryz.prog 11 [slA It.av l,slA Ac.av acc] (.tup [.cU,.int .i64 2]):=by
 have hs:=sW (l:=l) (by omega) hl2
 have hcn:=nJ (l:=acc) (by omega) λa ha=>by have:=hap a ha;omega
 cases h1:dz l with
 |false=>
  rw[h1] at hs;refine Fun.of (j7 (by simp) ?_) rfl rfl
  conv=>whnf
  repeat' (first|refine gF (ah.fn (hs) ?_)|(refine gC ?_;first|refine cY ?_|refine cN ?_|refine .not ?_)|refine ai.nrm ?_)<;>conv=>whnf
 |true=>
  rw[h1] at hs;rw[h1,zb] at h
  have h2:(acc.any λx=>!x.right)=true:=by
   rw[List.any_eq_true];obtain⟨x,hx,hr⟩:=List.all_eq_false.1 h;exact⟨x,hx,by simpa using hr⟩
  rw[h2] at hcn;refine Fun.of (j7 (by simp) ?_) rfl rfl
  conv=>whnf
  repeat' (first|(refine gF ?_;first|refine ah.fn (hs) ?_|refine ah.fn (hcn) ?_)|(refine gC ?_;first|refine cY ?_|refine .not ?_)|refine ai.nrm ?_)<;>conv=>whnf
theorem Ae(s:ByteArray)(l:List Tm)(hl:l.length<=1000):Fun Tryz.prog 39 [.str s,.sl .no (l.map Tm.av)] (Tm.mk 2 0 s l).avw:=by
 refine Fun.of (lW (by simp) ?_) rfl rfl
 conv=>whnf
 repeat' (first|refine gN (nS ?_)|refine ai.nrm ?_)<;>conv=>whnf
 all_goals first|rfl|(simp [lim,glim];omega)
def sh(s:ByteArray):Tm:=.mk 2 0 s []
def eI(id:Int)(a b:ByteArray):It:=⟨id,⟨⟨⟨[101]⟩⟩,[sh a,sh b]⟩⟩
theorem uq(id:Int)(a b:ByteArray):Fun Tryz.prog 35 [.int .i64 id,.str a,.str b] (eI id a b).av:=by
 have h1:=Ae a [] (by simp)
 have h2:=Ae b [] (by simp)
 refine Fun.of (nh (by simp) ?_) rfl rfl
 conv=>whnf
 repeat' (first|(refine gF ?_;first|refine ah.fn (h1) ?_|refine ah.fn (h2) ?_)|refine ai.nrm ?_)<;>conv=>whnf
 rfl
end Go.CK
