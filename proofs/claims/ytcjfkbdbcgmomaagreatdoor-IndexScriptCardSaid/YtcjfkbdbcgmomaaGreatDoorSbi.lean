/-
  Texts of this aV joined (wip/gen/bundle.py),those declarations only that are needed:IxAg IxAh IxAi FunC Read. By an AI agent.
-/
import Derived.Test.YtcjfkbdbcgmomaaGreatDoorSbh
import Derived.Test.YtcjfkbdbcgmomaaGreatDoorRows
import Derived.ProofKit
import Derived.OpenShut
import Derived.ShutString
import Derived.ChangeOld
import Derived.JoinedCond
import Derived.Deep.Slices
import Derived.Lib.SmallJoins
set_option linter.unusedSimpArgs false
set_option linter.unusedVariables false
set_option maxRecDepth 100000
namespace Go.CK
open Go.AM Go.Proofs
def eB(its:List It)(o:cP):List It:=
 if o.kind=1 then (if ed its o.item=0 then aY its o.item else its) else if o.kind=2 then dN its o.n else if o.kind=4 then ia o.binds its else its
structure Iz(acc:List Ac)(its:List It)(o:cP):Prop where
 all:c7 acc its
 ent:rP acc o.item
 app:c7 acc (ia o.binds its)
 vss:∀i∈its,(Tm.vss i.atom.args).length<=100000
 nds:∀i∈its,Tm.aD i.atom.args<=100000
structure LF(o:cP):Prop where
 args:o.item.atom.args.length<=1000
 nodes:Tm.aD o.item.atom.args<=1000
 key:Tm.ios o.key
 keyT:(bh o.key).length<=100000000
 keyN:o.key.length<=1000
 binds:o.binds.length<=1000
open Classical in
noncomputable def samIts(l m:List It):Bool:=decide (l.length=m.length/\∀(k:Nat) (a b:It),l[k]? =some a->m[k]? =some b->a.id=b.id/\a.atom.cmp b.atom=0)
open Classical in
theorem td{l m:List It}(h:l.length=m.length/\∀(k:Nat) (a b:It),l[k]? =some a->m[k]? =some b->a.id=b.id/\a.atom.cmp b.atom=0):samIts l m=true:=decide_eq_true h
open Classical in
theorem ql{l m:List It}(h:¬(l.length=m.length/\∀(k:Nat) (a b:It),l[k]? =some a->m[k]? =some b->a.id=b.id/\a.atom.cmp b.atom=0)):samIts l m=false:=decide_eq_false h
theorem Az(l:List It):samIts l l=true:=td ⟨rfl,λk a b ha hb=>by rw[ha] at hb;cases hb;exact⟨rfl,At.uw a.atom⟩⟩
theorem CT(l m:List It)(hl:l.length<=1000000):Fun Tryz.prog 15 [slA It.av l,slA It.av m] (.bool (samIts l m)):=by
 by_cases hlm:l.length=m.length
 .refine Fun.of (eh (by simp) ?_) rfl rfl
  conv=>whnf
  repeat' (first|(refine gC ?_;first|refine .not ?_|refine gD (cI ?_))|refine gL (.map ?_))<;>conv=>whnf
  refine aJ.by (fb:=true) (λ_ (j:Nat)=>⟨[(0,slA It.av l),(1,slA It.av m),(5,.int .i64 (j:Int))],[],0⟩) (λj=>j<=l.length/\∀(k:Nat) (a b:It),k<j->l[k]? =some a->m[k]? =some b->a.id=b.id/\a.atom.cmp b.atom=0) (λj=>l.length-j) 0 ⟨zJ _,λk a b h=>by omega⟩ ?_ ?_
  .exact bH
  .rintro j ⟨q1,q2⟩
   by_cases hj:j<l.length
   .obtain ⟨x,hx⟩:∃x,l[j]? =some x:=⟨_,zA hj⟩;obtain⟨y,hy⟩:∃y,m[j]? =some y:=⟨_,zA (by omega)⟩
    have hs:=tn (a:=x.atom) (b:=y.atom)
    by_cases hid:x.id=y.id
    .by_cases hc:x.atom.cmp y.atom=0
     .rw [decide_eq_true hc] at hs
      conv=>whnf
      repeat' (first|refine gG (bO.fn (hs) ?_)|(refine gC ?_;first|refine cY ?_|refine .not ?_|refine gD (cI ?_))|refine gW (wI ?_)|refine gL (.map ?_)|refine gI (gM (iE ?_)))<;>conv=>whnf
      refine⟨j+1,⟨⟨hj,λk u v hk hu hv=>?_⟩,by omega⟩,?_⟩
      .by_cases e:k=j
       .subst e;rw[hx] at hu;rw[hy] at hv;cases hu;cases hv;exact⟨hid,hc⟩
       .exact q2 k u v (by omega) hu hv
      exact bH
     .rw [decide_eq_false hc] at hs;have e:samIts l m=false:=ql λh=>hc (h.2 j x y hx hy).2;rw[e]
      conv=>whnf
      repeat' (first|refine gG (bO.fn (hs) ?_)|(refine gC ?_;first|refine cN ?_|refine .not ?_|refine gD (cI ?_))|refine gL (.map ?_)|refine gI (gM (iE ?_))|refine ai.nrm ?_)<;>conv=>whnf
      all_goals rfl
    .have e:samIts l m=false:=ql λh=>hid (h.2 j x y hx hy).1;rw[e]
     conv=>whnf
     repeat' (first|(refine gC ?_;first|refine cY ?_|refine .not ?_|(refine gD ?_;first|refine cI ?_|refine cJ ?_))|refine gL (.map ?_)|refine gI (gM (iE ?_))|refine ai.nrm ?_)<;>conv=>whnf
     all_goals rfl
   .obtain rfl:j=l.length:=by omega
    have e:samIts l m=true:=td ⟨hlm,λk a b ha hb=>q2 k a b (zB.1 ha).1 ha hb⟩;rw[e]
    conv=>whnf
    repeat' (first|refine gC (gD (cJ ?_))|refine gL (.map ?_)|refine ai.nrm ?_)<;>conv=>whnf
    all_goals rfl
 .have e:samIts l m=false:=ql λh=>hlm h.1;rw[e];refine Fun.of (eh (by simp) ?_) rfl rfl
  conv=>whnf
  repeat' (first|(refine gC ?_;first|refine .not ?_|refine gD (cJ ?_))|refine gL (.map ?_)|refine ai.nrm ?_)<;>conv=>whnf
  all_goals rfl
theorem dv.keep{V:Nat->Prop}{bs b2:List Box}{p:Nat}{acc:List Ac}{its:List It}(h:dv V bs p acc its)(hp:b2[p]? =bs[p]?)(hb:∀b,b<bs.length->¬V b->b2[b]? =bs[b]?):dv V b2 p acc its:=by
 obtain⟨bi,ki,t,kt,cs,h1,h2,h3,h4,h5⟩:=h;obtain⟨l1,l2,l3,l4⟩:=h1.lt;refine⟨bi,ki,t,kt,cs,h1.mono λb hb'=>?_,h2,h3,h4,h5⟩;rcases hb' with rfl|rfl|rfl|hb'
 .exact hp
 .exact hb _ l2 h2
 .exact hb _ l3 h3
 .exact hb _ (l4 _ hb') (h4 _ hb')
theorem dv.wkV{V V':Nat->Prop}{bs:List Box}{p:Nat}{acc:List Ac}{its:List It}(h:dv V' bs p acc its)(hV:∀b,V b->V' b):dv V bs p acc its:=by
 obtain⟨bi,ki,t,kt,cs,h1,h2,h3,h4,h5⟩:=h;exact⟨bi,ki,t,kt,cs,h1,λh=>h2 (hV _ h),λh=>h3 (hV _ h),λc hc h=>h4 c hc (hV _ h),h5⟩
theorem dv.upV{V V':Nat->Prop}{bs:List Box}{p:Nat}{acc:List Ac}{its:List It}(h:dv V bs p acc its)(hV:∀b,b<bs.length->V' b->V b):dv V' bs p acc its:=by
 obtain⟨bi,ki,t,kt,cs,h1,h2,h3,h4,h5⟩:=h;obtain⟨l1,l2,l3,l4⟩:=h1.lt;exact⟨bi,ki,t,kt,cs,h1,λh=>h2 (hV _ l2 h),λh=>h3 (hV _ l3 h),λc hc h=>h4 c hc (hV _ (l4 c hc) h),h5⟩
theorem dv.lt{V:Nat->Prop}{bs:List Box}{p:Nat}{acc:List Ac}{its:List It}(h:dv V bs p acc its):p<bs.length:=by
 obtain⟨bi,ki,t,kt,cs,h1,h2,h3,h4,h5⟩:=h;exact h1.lt.1
set_option maxHeartbeats 2000000 in
theorem Fe{V:Nat->Prop}{bs:List Box}{p q:Nat}{acc acc2:List Ac}{its its2:List It}{o:cP}(h:dv V bs p acc its)(hV:∀b,V b->b<bs.length)(hp:V p)(hq:V q)(hpq:p≠q)(h2:fT bs q acc2 its2)(hs:Iz acc its o)(ho:LF o)(ha2:c7 acc2 its2)(hal2:∀i∈its2,Tm.aD i.atom.args<=100000):
  AM.Sem Tryz.prog 32 [.ptr p 0,.ptr q 0,o.av] bs λr bs'=>(∃b,r=.bool b/\(acc=acc2->its=its2->b=true))/\dv V bs' p acc (eB its o)/\fT bs' q acc2 (eB its2 o)/\bs.length<=bs'.length/\∀c,c<bs.length->V c->c≠p->c≠q->bs'[c]? =bs[c]?:=by
 have hfew:=ha2.few;have hoa:=ho.args;have hpl:=h.lt;have hql:=(zB.1 h2).1;obtain⟨B1,hB1⟩:∃B1,B1=bs++[Box.cells [AV.int IntKind.i64 o.kind,AV.int IntKind.i64 o.n,AV.int IntKind.i64 o.item.id,AV.str o.item.atom.name,AV.sl Cap.no (List.map Tm.av o.item.atom.args),AV.sl Cap.no (List.map Tm.av o.key),AV.sl Cap.no (List.map Bnd.av o.binds)]]:=⟨_,rfl⟩;obtain⟨V',hV'⟩:∃V':Nat->Prop,V'=λb=>V b\/b=bs.length:=⟨_,rfl⟩;have hVi:∀b,V b->V' b:=λb hb=>by rw[hV'];exact .inl hb
 have hVn:V' bs.length:=by rw[hV'];exact .inr rfl
 have hl1:B1.length=bs.length+1:=by rw[hB1];simp
 have hV1:∀b,V' b->b<B1.length:=λb hb=>by
  rw[hV'] at hb;rcases hb with hb|rfl
  .have:=hV b hb;omega
  .omega
 have hI1:dv V' B1 p acc its:=by
  rw[hB1];refine(h.upV λb hb hVb=>?_).app _;rw[hV'] at hVb;rcases hVb with hVb|rfl
  .exact hVb
  .omega
 have hold:∀c,c<bs.length->B1[c]? =bs[c]?:=λc hc=>by rw[hB1,zK hc]
 have hR1:fT B1 q acc2 its2:=by rw[fT,hold q hql];exact h2
 have hbx1:B1[bs.length]? =some (.cells [AV.int IntKind.i64 o.kind,AV.int IntKind.i64 o.n,AV.int IntKind.i64 o.item.id,AV.str o.item.atom.name,AV.sl Cap.no (List.map Tm.av o.item.atom.args),AV.sl Cap.no (List.map Tm.av o.key),AV.sl Cap.no (List.map Bnd.av o.binds)]):=by rw[hB1];simp
 have hcel:∀{b:List Box},b[bs.length]? =B1[bs.length]?->aa b bs.length=some [AV.int IntKind.i64 o.kind,AV.int IntKind.i64 o.n,AV.int IntKind.i64 o.item.id,AV.str o.item.atom.name,AV.sl Cap.no (List.map Tm.av o.item.atom.args),AV.sl Cap.no (List.map Tm.av o.key),AV.sl Cap.no (List.map Bnd.av o.binds)]:=λe=>by rw[hbx1] at e;simp[aa,e,Box.cs?]
 have hb1:=hcel (b:=B1) rfl;have hnp:bs.length≠p:=by omega
 have fin:∀{b4 b5:List Box} {its' its2':List It},dv V' b4 p acc its'->B1.length<=b4.length->(∀c,c<B1.length->V' c->c≠p->b4[c]? =B1[c]?)->fT b5 q acc2 its2'->b4.length<=b5.length->(∀c,c<b4.length->c≠q->b5[c]? =b4[c]?)->
   dv V b5 p acc its'/\fT b5 q acc2 its2'/\bs.length<=b5.length/\∀c,c<bs.length->V c->c≠p->c≠q->b5[c]? =bs[c]?:=λhI4 hl4 hP4 hR5 hl5 hP5=>by
  refine⟨(hI4.keep (hP5 p (by omega) hpq) λc hc hv=>hP5 c hc λe=>hv (by rw[e];exact hVi q hq)).wkV hVi,hR5,by omega,λc hc hv h1 h2=>?_⟩
  rw[hP5 c (by omega) h2,hP4 c (by omega) (hVi c hv) h1,hold c hc]
 have hRf:∀{b4:List Box},(∀c,c<B1.length->V' c->c≠p->b4[c]? =B1[c]?)->fT b4 q acc2 its2:=λhP4=>by rw[fT,hP4 q (by omega) (hVi q hq) (Ne.symm hpq)];exact hR1
 have hcdl:∀{b4:List Box},b4[bs.length]? =B1[bs.length]?->cellsD b4 bs.length=cellsD B1 bs.length:=λe=>by
  have h1:=hcel e;simp only[cellsD,h1,hb1]
 have oK:∀{b4:List Box} {X:Box},b4.length<=(b4.set q X).length/\∀c,c<b4.length->c≠q->(b4.set q X)[c]? =b4[c]?:=λ{b4 X}=>⟨by rw[zn];exact zG _,λc hc hne=>Zh (Ne.symm hne)⟩
 refine j8 (by simp) ?_
 by_cases k1:o.kind=1
 .have e:eB its o=if ed its o.item=0 then aY its o.item else its:=by rw[eB,if_pos k1]
  have e2:eB its2 o=if ed its2 o.item=0 then aY its2 o.item else its2:=by rw[eB,if_pos k1]
  rw[e,e2]
  conv=>whnf
  try dsimp only
  repeat' (first|refine gC (gD (cI ?_))|refine gB (.last ?_))<;>(conv=>whnf;try dsimp only)
  rw[<-hB1];refine ah.raw (nu (V:=V') (i:=o.item) hI1 hV1 hs.all hs.ent (by omega)) ?_
  rintro r b4 ⟨rfl,hI4,hl4,hP4⟩;have hb4:=hcel (b:=b4) (hP4 _ (by omega) hVn hnp)
  have hR4:fT b4 q acc2 its2:=by rw[fT,hP4 q (by omega) (hVi q hq) (Ne.symm hpq)];exact hR1
  have hcd:cellsD b4 bs.length=cellsD B1 bs.length:=by simp only[cellsD,hb4,hb1]
  conv=>whnf
  refine⟨.inr ?_,?_⟩
  .conv=>whnf
   repeat' first|exact True.intro|refine And.intro hcd ?_
  conv=>whnf
  try dsimp only
  skip;refine ah.raw (xP (i:=o.item) hR4 (by omega) ha2.asc (by have:=ho.nodes;omega) (by omega)) ?_
  rintro r b5 ⟨rfl,hR5,hl5,hP5⟩
  conv=>whnf
  try dsimp only
  skip;exact ai.slot ⟨⟨_,rfl,λe1 e2=>by rw[e2];simp⟩,fin hI4 hl4 hP4 hR5 hl5 hP5⟩
 .by_cases k2:o.kind=2
  .have e:∀l,eB l o=dN l o.n:=λl=>by rw[eB,if_neg k1,if_pos k2]
   rw[e,e]
   conv=>whnf
   try dsimp only
   repeat' (first|(refine gC ?_;(refine gD ?_;first|refine cI ?_|refine cJ ?_))|refine gB (.last ?_))<;>(conv=>whnf;try dsimp only)
   rw[<-hB1];refine ah.raw (nv (V:=V') (id:=o.n) hI1 hV1 hs.all) ?_;rintro r b4 ⟨rfl,hI4,hl4,hP4⟩;have hb4:=hcel (b:=b4) (hP4 _ (by omega) hVn hnp)
   have hcd:=hcdl (hP4 _ (by omega) hVn hnp)
   have hR4:=hRf hP4
   conv=>whnf
   refine⟨.inr ?_,?_⟩
   .conv=>whnf
    repeat' first|exact True.intro|refine And.intro hcd ?_
   conv=>whnf
   try dsimp only
   skip;refine ah.raw (xQ (id:=o.n) hR4 hfew ha2.asc) ?_;rintro r b5 ⟨rfl,rfl⟩
   conv=>whnf
   try dsimp only
   skip;refine ai.slot ⟨⟨_,rfl,λe1 e2=>by rw[e2];simp⟩,fin hI4 hl4 hP4 ?_ oK.1 oK.2⟩
   rw[fT,List.getElem?_set_self (by omega)]
  .by_cases k3:o.kind=3
   .have e:∀l,eB l o=l:=λl=>by rw[eB,if_neg k1,if_neg k2,if_neg (by omega)]
    rw[e,e];have hsi:=mW (a:=js acc its o.n o.key) (b:=ot acc2 its2 o.n o.key)
    conv=>whnf
    try dsimp only
    repeat' (first|(refine gC ?_;(refine gD ?_;first|refine cI ?_|refine cJ ?_))|refine gB (.last ?_))<;>(conv=>whnf;try dsimp only)
    rw[<-hB1];refine ah.raw (dZ (k:=o.n) (key:=o.key) hI1 hs.all ho.key ho.keyT (by have:=ho.keyN;omega)) ?_
    rintro r b4 ⟨rfl,rfl⟩
    conv=>whnf
    try dsimp only
    repeat' refine gPr (pE ?_)<;>(conv=>whnf;try dsimp only)
    refine ah.raw (CZ (k:=o.n) (key:=o.key) hR1 ha2 (by have:=ho.keyN;omega) (fun i hi=>by have:=hal2 i hi;have:=cD i.atom.args;omega)) ?_
    rintro r b5 ⟨rfl,rfl⟩
    conv=>whnf
    try dsimp only
    repeat' refine gG (bO.fn (hsi) ?_)<;>(conv=>whnf;try dsimp only)
    refine ai.slot ⟨⟨_,rfl,λe1 e2=>by rw[e1,e2,find_eq];simp⟩,fin hI1 (zG _) (λ_ _ _ _=>rfl) hR1 (zG _) λ_ _ _=>rfl⟩
   .by_cases k4:o.kind=4
    .have e:∀l,eB l o=ia o.binds l:=λl=>by rw[eB,if_neg k1,if_neg k2,if_pos k4]
     rw[e,e]
     conv=>whnf
     try dsimp only
     repeat' (first|(refine gC ?_;(refine gD ?_;first|refine cI ?_|refine cJ ?_))|refine gB (.last ?_))<;>(conv=>whnf;try dsimp only)
     rw[<-hB1];refine ah.raw (Dl (V:=V') (b:=o.binds) hI1 hV1 hs.all hs.app (by have:=ho.binds;omega) hs.vss (fun i hi=>by have:=hs.nds i hi;omega)) ?_
     rintro r b4 ⟨rfl,hI4,hl4,hP4⟩;have hb4:=hcel (b:=b4) (hP4 _ (by omega) hVn hnp)
     have hR4:=hRf hP4
     conv=>whnf
     try dsimp only
     repeat' refine gB (.of (by assumption) ?_)<;>(conv=>whnf;try dsimp only)
     refine ah.raw (AO (b:=o.binds) hR4 hfew (fun i hi=>by have:=hal2 i hi;omega)) ?_;rintro r b5 ⟨rfl,rfl⟩
     conv=>whnf
     try dsimp only
     skip;refine ai.slot ⟨⟨_,rfl,λe1 e2=>rfl⟩,fin hI4 hl4 hP4 ?_ oK.1 oK.2⟩;rw[fT,List.getElem?_set_self (by omega)]
    .have e:∀l,eB l o=l:=λl=>by rw[eB,if_neg k1,if_neg k2,if_neg k4]
     rw[e,e]
     by_cases k5:o.kind=5
     .have hsm:=CT its its2 (by have:=hs.all.few;omega)
      conv=>whnf
      try dsimp only
      repeat' (first|(refine gC ?_;(refine gD ?_;first|refine cI ?_|refine cJ ?_))|refine gB (.last ?_))<;>(conv=>whnf;try dsimp only)
      rw[<-hB1];refine ah.raw (oU hI1 hs.all) ?_;rintro r b4 ⟨rfl,hP4⟩;have hP4':∀c,c<B1.length->V' c->c≠p->b4[c]? =B1[c]?:=λc hc _ _=>hP4.2 c hc
      have hl4:B1.length<=b4.length:=by
       obtain⟨X,rfl⟩:=hP4.app;simp
      have hb4:=hcel (b:=b4) (hP4.2 _ (by omega))
      have hR4:=hRf hP4'
      conv=>whnf
      try dsimp only
      skip;refine ah.raw (AN hR4 hfew) ?_;rintro r b5 ⟨rfl,rfl⟩
      conv=>whnf
      try dsimp only
      repeat' refine gF (ah.fn (hsm) ?_)<;>(conv=>whnf;try dsimp only)
      refine ai.slot ⟨⟨_,rfl,λe1 e2=>by rw[e2];exact Az _⟩,fin (hI1.pre hP4) hl4 hP4' hR4 (zG _) λ_ _ _=>rfl⟩
     .conv=>whnf
      try dsimp only
      repeat' (first|refine gC (gD (cJ ?_))|refine gB (.last ?_))<;>(conv=>whnf;try dsimp only)
      rw[<-hB1];refine ai.slot ⟨⟨_,rfl,λe1 e2=>rfl⟩,fin hI1 (zG _) (λ_ _ _ _=>rfl) hR1 (zG _) λ_ _ _=>rfl⟩
end Go.CK
namespace Go.CK
open Go.AM Go.Proofs
def apN(ops:List cP):Nat:=(ops.filter λo=>decide (o.kind=4)).length
theorem Cp(ops:List cP)(o:cP):apN (ops++[o])=apN ops+if o.kind=4 then 1 else 0:=by
 unfold apN;rw[yO,zC];congr 1
 by_cases h:o.kind=4
 .rw [yP (by simpa using h),if_pos h];rfl
 .rw [Zv (by simpa using h),if_neg h];rfl
theorem K4(ops:List cP):apN ops<=ops.length:=yB _ _
theorem DM(ops:List cP)(hl:ops.length<=9223372036854775807):Fun Tryz.prog 30 [slA cP.av ops] (.int .i64 (apN ops)):=by
 refine Fun.of (iM (by simp) ?_) rfl rfl
 conv=>whnf
 skip;refine aJ.by (fb:=true) (λ_ (j:Nat)=>⟨[(0,slA cP.av ops),(3,.int .i64 (apN (ops.take j):Int)),(4,.int .i64 (j:Int))],[],0⟩) (λj=>j<=ops.length) (λj=>ops.length-j) 0 (zJ _) ?_ ?_
 .rw [ZM,show apN []=0 from rfl];exact bH
 .intro j hj0
  by_cases hj:j<ops.length
  .obtain ⟨x,hx⟩:∃x,ops[j]? =some x:=⟨_,zA hj⟩;have htk:ops.take (j+1)=ops.take j++[x]:=by rw[ZD,hx];rfl
   have hle:=K4 (ops.take j);rw[zo] at hle;have hsn:=Cp (ops.take j) x;rw[<-htk] at hsn
   by_cases h4:x.kind=4
   .rw [if_pos h4] at hsn
    conv=>whnf
    repeat' (first|refine gC (gD (cI ?_))|refine gW (wI ?_)|refine gL (.map ?_)|refine gI (gM (iE ?_)))<;>conv=>whnf
    refine⟨j+1,⟨hj,by omega⟩,?_⟩
    rw[hsn,Int.natCast_add];exact bH
   .rw [if_neg h4,Zi] at hsn
    conv=>whnf
    repeat' (first|(refine gC ?_;(refine gD ?_;first|refine cI ?_|refine cJ ?_))|refine gW (wI ?_)|refine gL (.map ?_)|refine gI (gM (iE ?_)))<;>conv=>whnf
    refine⟨j+1,⟨hj,by omega⟩,?_⟩
    rw[hsn];exact bH
  .obtain rfl:j=ops.length:=by omega
   rw[ZA]
   conv=>whnf
   repeat' (first|refine gC (gD (cJ ?_))|refine gL (.map ?_)|refine ai.nrm ?_)<;>conv=>whnf
theorem LP{bs:List Box}{l:List Ac}{its:List It}(hl:its.length<=100000)(hal:l.length<=100000)(hap:∀a∈l,a.positions.length<=10000000)(hi:∀i∈its,i.atom.args.length<=10000000/\Tm.aD i.atom.args<=100000000)(hr:l.all Ac.right=true)(hs:dz its=true):
  AM.Sem Tryz.prog 31 [slA It.av its,slA Ac.av l] bs λr bs'=>r=.tup [.ptr bs.length 0,.int .i64 0]/\bs'=bs++[.cells [slA Ac.av l,slA It.av its]]:=by
 have h19:=vg (l:=its) (by omega) hi
 rw[hs] at h19;refine LH (by simp) ?_
 conv=>whnf
 try dsimp only
 repeat' (first|refine gF (ah.fn (h19) ?_)|(refine gC ?_;first|refine cY ?_|refine .not ?_))<;>(conv=>whnf;try dsimp only)
 refine aJ.by (fb:=false) (λ_ (j:Nat)=>⟨[(0,slA It.av its),(1,slA Ac.av l),(6,.int .i64 (j:Int))],bs,bs.length⟩) (λj=>j<=l.length) (λj=>l.length-j) 0 (zJ _) ?_ ?_
 .refine az.atS ?_ rfl rfl
  conv=>whnf
  repeat' (first|(refine gV ?_;first|refine vE ?_|refine vI ?_)|exact True.intro)<;>conv=>whnf
 .intro j hj0
  by_cases hj:j<l.length
  .obtain ⟨x,hx⟩:∃x,l[j]? =some x:=⟨_,zA hj⟩;have hxm:=zE hx;have h20:=LN (hap x hxm);rw[zT.1 hr x hxm] at h20
   conv=>whnf
   try dsimp only
   repeat' (first|refine gF (ah.fn (h20) ?_)|(refine gC ?_;first|refine cY ?_|refine .not ?_|refine gD (cI ?_))|refine gW (wI ?_)|refine gL (.map ?_)|refine gI (gM (iE ?_)))<;>(conv=>whnf;try dsimp only)
   refine⟨j+1,⟨hj,by omega⟩,?_⟩
   refine az.atS ?_ rfl rfl
   conv=>whnf
   repeat' (first|(refine gV ?_;first|refine vE ?_|refine vI ?_)|exact True.intro)<;>conv=>whnf
  .obtain rfl:j=l.length:=by omega
   conv=>whnf
   try dsimp only
   repeat' (first|refine gC (gD (cJ ?_))|refine gL (.map ?_)|refine gN (nS ?_)|refine gB (.last ?_)|refine dG.last ?_)<;>(conv=>whnf;try dsimp only)
   refine ai.A0 0 (q:=bs.length) (cs:=[.sl (.own 3) ([]++l.map Ac.av),.sl (.own 3) ([]++its.map It.av)]) (by simp) rfl ?_
   rw[yV _ _ (zG _),yR];refine ai.A0 1 (q:=bs.length) (cs:=[.sl .no ([]++l.map Ac.av),.sl (.own 3) ([]++its.map It.av)]) (by simp;rfl) rfl ?_
   rw[yV _ _ (zG _),yR];exact⟨_,au.refl _,.inl ⟨rfl,rfl⟩⟩
theorem LO{bs:List Box}{l:List Ac}{its:List It}(hl:its.length<=100000)(hal:l.length<=100000)(hap:∀a∈l,a.positions.length<=10000000)(hi:∀i∈its,i.atom.args.length<=10000000/\Tm.aD i.atom.args<=100000000)(h:(dz its&&l.all Ac.right)=false):
  AM.Sem Tryz.prog 31 [slA It.av its,slA Ac.av l] bs λr bs'=>r=.tup [.cU,.int .i64 2]/\bs'=bs:=by
 have h19:=vg (l:=its) (by omega) hi
 refine LH (by simp) ?_
 cases hs:dz its with
 |false=>
  rw[hs] at h19
  conv=>whnf
  try dsimp only
  repeat' (first|refine gF (ah.fn (h19) ?_)|(refine gC ?_;first|refine cN ?_|refine .not ?_))<;>(conv=>whnf;try dsimp only)
  exact⟨_,au.refl _,.inl ⟨rfl,rfl⟩⟩
 |true=>
  rw[hs] at h19 h;rw[zb] at h
  conv=>whnf
  try dsimp only
  repeat' (first|refine gF (ah.fn (h19) ?_)|(refine gC ?_;first|refine cY ?_|refine .not ?_))<;>(conv=>whnf;try dsimp only)
  refine aJ.by (fb:=false) (λ_ (j:Nat)=>⟨[(0,slA It.av its),(1,slA Ac.av l),(6,.int .i64 (j:Int))],bs,bs.length⟩) (λj=>j<=l.length/\(l.take j).all Ac.right=true) (λj=>l.length-j) 0 ⟨zJ _,rfl⟩ ?_ ?_
  .refine az.atS ?_ rfl rfl
   conv=>whnf
   repeat' (first|(refine gV ?_;first|refine vE ?_|refine vI ?_)|exact True.intro)<;>conv=>whnf
  .rintro j ⟨hj0,q2⟩
   by_cases hj:j<l.length
   .obtain ⟨x,hx⟩:∃x,l[j]? =some x:=⟨_,zA hj⟩;have hxm:=zE hx;have h20:=LN (hap x hxm)
    cases hr:x.right with
    |true=>
     rw[hr] at h20
     conv=>whnf
     try dsimp only
     repeat' (first|refine gF (ah.fn (h20) ?_)|(refine gC ?_;first|refine cY ?_|refine .not ?_|refine gD (cI ?_))|refine gW (wI ?_)|refine gL (.map ?_)|refine gI (gM (iE ?_)))<;>(conv=>whnf;try dsimp only)
     refine⟨j+1,⟨⟨hj,?_⟩,by omega⟩,?_⟩
     .rw [ZD,hx,List.all_append,q2];simp[hr]
     refine az.atS ?_ rfl rfl
     conv=>whnf
     repeat' (first|(refine gV ?_;first|refine vE ?_|refine vI ?_)|exact True.intro)<;>conv=>whnf
    |false=>
     rw[hr] at h20
     conv=>whnf
     try dsimp only
     repeat' (first|refine gF (ah.fn (h20) ?_)|(refine gC ?_;first|refine cN ?_|refine .not ?_|refine gD (cI ?_))|refine gL (.map ?_)|refine gI (gM (iE ?_)))<;>(conv=>whnf;try dsimp only)
     exact⟨_,au.refl _,.inl ⟨rfl,rfl⟩⟩
   .obtain rfl:j=l.length:=by omega
    rw[ZA,h] at q2;cases q2
def AD(l:List It)(ops:List cP):List It:=ops.foldl eB l
theorem vL(l:List It)(ops:List cP)(o:cP):AD l (ops++[o])=eB (AD l ops) o:=by simp[AD]
structure DT(o:cP):Prop where
 item:Tm.ios o.item.atom.args
 key:Tm.ios o.key
 binds:∀x∈o.binds,x.t.io
theorem G0{o:cP}(h:ly o=true)(hio:DT o):LF o:=by
 obtain⟨h1,h2,h3⟩:=oY h hio.key;have h4:=(sq h1 hio.item).nodes;have h5:=cD o.item.atom.args;have h6:=(xz h hio.binds).len;exact⟨by omega,by omega,hio.key,h2,by omega,by omega⟩
theorem SzL.ins{n m:Nat}{l:List It}{i:It}(h:SzL n m l)(hi:SzI n i)(hh:hO l i.id=false):SzL n (m+1) (aY l i):=
 ⟨wz h.asc λx hx e=>by simpa[e] using List.any_eq_false.1 hh x hx,by rw[nX];have:=h.few;omega,λx hx=>by
  rcases wy.1 hx with rfl|hx
  .exact hi
  .exact h.each x hx⟩
theorem SzL.step{n m:Nat}{l:List It}{o:cP}(h:SzL n m l)(hn:30<=n)(hf:ly o=true)(hio:DT o):SzL (if o.kind=4 then 4*n else n) (m+1) (eB l o):=by
 have hb:=xz hf hio.binds;have hi:=sq (oY hf hio.key).1 hio.item;unfold eB
 by_cases k1:o.kind=1
 .rw [if_pos k1,if_neg (by omega)]
  split
  .rename_i h0;exact h.ins (hi.mono hn) (Fx h0).1
  .exact h.mono (zG _) (by omega)
 .rw [if_neg k1]
  by_cases k2:o.kind=2
  .rw [if_pos k2,if_neg (by omega)]
   exact(h.del _).mono (zG _) (by omega)
  .rw [if_neg k2]
   by_cases k4:o.kind=4
   .rw [if_pos k4,if_pos k4];exact(h.app hb).mono (zG _) (by omega)
   .rw [if_neg k4,if_neg k4];exact h.mono (zG _) (by omega)
theorem Fc{n m:Nat}{l:List It}{o:cP}{acc:List Ac}(h:SzL n m l)(h0:30<=n)(hn:n<=2500)(hm:m<=100000)(hf:ly o=true)(hio:DT o)(hr:∀c∈acc,c.right=true)(ha:∀c∈acc,jh c=true)(hal:acc.length<=1000000):Iz acc l o:=by
 have hb:=xz hf hio.binds;have hi:=sq (oY hf hio.key).1 hio.item;refine⟨h.all (by omega) hm hr ha hal,hi.ent (by omega) hr ha,(h.app hb).all (by omega) hm hr ha hal,λi hi=>by have h1:=(h.each i hi).nodes;have h2:=sJ i.atom.args;omega,λi hi=>by have h1:=(h.each i hi).nodes;omega⟩
theorem Co(ops:List cP)(j:Nat):apN (ops.take j)<=apN ops:=by
 conv=>rhs;rw[<-List.take_append_drop j ops]
 unfold apN;rw[yO,zC];omega
theorem Ei{k:Nat}(h:k<=3):30<=30*4^k/\30*4^k<=2500:=by
 match k,h with
 |0,_=>decide
 |1,_=>decide
 |2,_=>decide
 |3,_=>decide
theorem GO{l:List It}{ops:List cP}(h0:SzL 30 15 l)(hf:∀o∈ops,ly o=true)(hio:∀o∈ops,DT o)(h3:apN ops<=3):∀j,j<=ops.length->SzL (30*4^apN (ops.take j)) (15+j) (AD l (ops.take j))
 |0,_=>by rw[ZM];exact h0
 |j+1,hj=>by
  obtain⟨o,ho⟩:∃o,ops[j]? =some o:=⟨_,zA (by omega)⟩
  have hom:=zE ho;have ih:=GO h0 hf hio h3 j (by omega)
  have htk:ops.take (j+1)=ops.take j++[o]:=by rw[ZD,ho];rfl
  have h4:=Ei (ZP (Co ops j) h3);have hs:=ih.step h4.1 (hf o hom) (hio o hom);rw[htk,vL,Cp];refine hs.mono ?_ (by omega)
  split
  .rw [Nat.pow_succ];omega
  .rw [Zi];exact zG _
theorem I7{n:Nat}{K:Nat->Prop}(h:K n):yf n K:=by rw[ye];exact h
set_option maxHeartbeats 4000000 in
theorem LM{l:List It}{acc:List Ac}{ops:List cP}(hl:∀i∈l,Tm.ios i.atom.args)(hop:∀o∈ops,DT o)(hol:ops.length<=9223372036854775807):Fun Tryz.prog 6 [slA It.av l,slA Ac.av acc,slA cP.av ops] (.bool true):=by
 have hfw:=KK l acc ops;have hap:=DM ops hol;have hex:=yq
 cases hb:HZ l acc ops with
 |false=>
  rw[hb] at hfw;refine Fun.of (yc (by simp) ?_) rfl rfl
  conv=>whnf
  try dsimp only
  repeat' (first|(refine gF ?_;first|refine ah.fn (hfw) ?_|refine ah.fn (hex) ?_)|(refine gC ?_;first|refine cY ?_|refine cN ?_|refine .not ?_))<;>(conv=>whnf;try dsimp only)
  exact⟨_,au.refl _,.inl rfl⟩
 |true=>
  rw[hb] at hfw;obtain⟨p1,p2,p3,p4,p5,p6⟩:=DB hb
  by_cases h3:3<apN ops
  .refine Fun.of (yc (by simp) ?_) rfl rfl
   conv=>whnf
   try dsimp only
   repeat' (first|(refine gF ?_;first|refine ah.fn (hfw) ?_|refine ah.fn (hap) ?_|refine ah.fn (hex) ?_)|(refine gC ?_;first|refine cY ?_|refine .not ?_|refine gD (cI ?_)))<;>(conv=>whnf;try dsimp only)
   exact⟨_,au.refl _,.inl rfl⟩
  .have hsz:∀i∈l,SzI 30 i:=λi hi=>sq (p4 i hi) (hl i hi);have hargs:∀i∈l,i.atom.args.length<=10000000:=λi hi=>by have:=FF (p4 i hi);omega
   have hi19:∀i∈l,i.atom.args.length<=10000000/\Tm.aD i.atom.args<=100000000:=λi hi=>⟨hargs i hi,by have:=(hsz i hi).nodes;omega⟩
   have hpos:∀a∈acc,a.positions.length<=1000000:=λa ha=>by
    have:=p5 a ha;simp only[jh,zD,decide_eq_true_eq] at this;omega
   have hpos2:∀a∈acc,a.positions.length<=10000000:=λa ha=>by have:=hpos a ha;omega
   cases hR:dz l&&acc.all Ac.right with
   |false=>
    have hbad:=qC (by omega) hargs (by omega) hpos hR
    refine Fun.of (yc (by simp) ?_) rfl rfl
    conv=>whnf
    try dsimp only
    repeat' (first|(refine gF ?_;first|refine ah.fn (hfw) ?_|refine ah.fn (hap) ?_|refine ah.fn (hbad) ?_)|(refine gC ?_;first|refine cY ?_|refine .not ?_|refine gD (cJ ?_)))<;>(conv=>whnf;try dsimp only)
    refine ah.raw (LO (by omega) (by omega) hpos2 hi19 hR) ?_
    rintro r b1 ⟨rfl,rfl⟩
    conv=>whnf
    try dsimp only
    repeat' (refine gC ?_;first|refine .not ?_|(refine gD ?_;first|refine cI ?_|refine cId ?_))<;>(conv=>whnf;try dsimp only)
    refine aJ.by (fb:=false) (λ_ (j:Nat)=>⟨[(2,slA cP.av ops),(7,.cU),(9,.cU),(11,.int .i64 0)],[],0⟩) (λ_=>True) (λj=>j) 0 trivial ?_ ?_
    .refine az.atS ?_ rfl rfl
     conv=>whnf
     repeat' (first|refine gV (vE ?_)|exact True.intro)<;>conv=>whnf
    .rintro j-
     conv=>whnf
     try dsimp only
     repeat' (first|refine gF (ah.fn (hex) ?_)|(refine gC ?_;first|refine cY ?_|refine cN ?_|(refine gD ?_;first|refine cI ?_|refine cJ ?_)|refine aj.lt (λhc=>?_) (λhc=>?_))|refine gL (.map ?_))<;>(conv=>whnf;try dsimp only)
     .exact ⟨_,au.refl _,.inl rfl⟩
     .exact ⟨_,au.refl _,.inl rfl⟩
   |true=>
    rw[zD] at hR;have hr:∀a∈acc,a.right=true:=λa ha=>zT.1 hR.2 a ha;have hA0:c7 acc l:=w9 hr p5 (λi hi=>⟨p4 i hi,hl i hi⟩) (mY hR.1) (by omega) (by omega)
    refine Fun.of (yc (by simp) ?_) rfl rfl
    conv=>whnf
    try dsimp only
    repeat' (first|(refine gF ?_;first|refine ah.fn (hfw) ?_|refine ah.fn (hap) ?_)|(refine gC ?_;first|refine cY ?_|refine .not ?_|refine gD (cJ ?_)))<;>(conv=>whnf;try dsimp only)
    refine ah.raw (tJ (V:=λb=>b=0) (its:=l) (l:=acc) (λb h=>by simp[h]) hA0 hr hR.1 hargs) ?_
    rintro r b1 ⟨rfl,hI1,hP1⟩
    conv=>whnf
    try dsimp only
    skip;refine ah.raw (LP (by omega) (by omega) hpos2 hi19 hR.2 hR.1) ?_
    rintro r b2 ⟨rfl,hb2⟩;obtain⟨q,hq⟩:∃q,q=b1.length:=⟨_,rfl⟩;rw[<-hq,St.cX]
    conv=>whnf
    try dsimp only
    skip
    repeat (refine I7 ?_;conv=>whnf)
    conv=>whnf
    try dsimp only
    repeat' (refine gC ?_;first|refine .not ?_|(refine gD ?_;first|refine cI ?_|refine cId ?_))<;>(conv=>whnf;try dsimp only)
    have hq0:0<q:=by rw[hq];exact hI1.lt
    have hI2:dv (λb=>b=0\/b=q) b2 0 acc l:=by
     rw[hb2];refine(hI1.upV λb hb h=>?_).app _;rcases h with h|h
     .exact h
     .omega
    have hR2:fT b2 q acc l:=by rw[fT,hb2,hq];simp
    have hs0:SzL 30 15 l:=⟨mY hR.1,p1,hsz⟩;have hszj:=GO hs0 p6 hop (by omega)
    refine aJ.by (fb:=false) (λ_ (a:Nat×List Box)=>⟨[(2,slA cP.av ops),(7,.ptr 0 0),(9,.ptr q 0),(11,.int .i64 (a.1:Int))],a.2,0⟩) (λa=>a.1<=ops.length/\dv (λb=>b=0\/b=q) a.2 0 acc (AD l (ops.take a.1))/\fT a.2 q acc (AD l (ops.take a.1))) (λa=>ops.length-a.1) (0,b2) ⟨zJ _,hI2,hR2⟩ ?_ ?_
    .refine az.atS ?_ rfl rfl
     conv=>whnf
     repeat' (first|(refine gV ?_;first|refine vE ?_|refine vI ?_)|exact True.intro)<;>conv=>whnf
    .rintro ⟨j,B⟩ ⟨q1,q2,q3⟩;dsimp only at q1 q2 q3;have hzj:=hszj j q1;have h4:=Ei (ZP (Co ops j) (show apN ops<=3 by omega))
     have hAj:=hzj.all (acc:=acc) (by omega) (by omega) hr p5 (by omega)
     have hVj:∀b,b=0\/b=q->b<B.length:=λb hb=>by
      rcases hb with rfl|rfl
      .exact q2.lt
      .exact (zB.1 q3).1
     by_cases hj:j<ops.length
     .obtain ⟨o,ho⟩:∃o,ops[j]? =some o:=⟨_,zA hj⟩;have hom:=zE ho;have htk:ops.take (j+1)=ops.take j++[o]:=by rw[ZD,ho];rfl
      conv=>whnf
      try dsimp only
      repeat' (first|(refine gC ?_;first|refine cY ?_|refine gD (cI ?_))|refine gL (.map ?_)|refine gI (gM (iE ?_)))<;>(conv=>whnf;try dsimp only)
      refine ah.raw (Fe (o:=o) q2 hVj (.inl rfl) (.inr rfl) (by omega) q3 (Fc hzj h4.1 h4.2 (by omega) (p6 o hom) (hop o hom) hr p5 (by omega)) (G0 (p6 o hom) (hop o hom)) hAj λi hi=>by
       have:=(hzj.each i hi).nodes;have:=cD i.atom.args;omega) ?_
      rintro r B2 ⟨⟨b,rfl,hbt⟩,hI3,hR3,_,_⟩;obtain rfl:=hbt rfl rfl
      conv=>whnf
      try dsimp only
      repeat' (first|(refine gC ?_;first|refine cY ?_|refine .not ?_)|refine gW (wI ?_)|fail)<;>(conv=>whnf;try dsimp only)
      rw[<-vL,<-htk] at hI3 hR3;refine⟨(j+1,B2),⟨⟨hj,hI3,hR3⟩,by dsimp only;omega⟩,?_⟩
      refine az.atS ?_ rfl rfl
      conv=>whnf
      repeat' (first|(refine gV ?_;first|refine vE ?_|refine vI ?_)|exact True.intro)<;>conv=>whnf
     .obtain rfl:j=ops.length:=by omega
      have hsm:=CT (AD l (ops.take ops.length)) (AD l (ops.take ops.length)) (by have:=hzj.few;omega)
      rw[Az] at hsm
      conv=>whnf
      try dsimp only
      repeat' (first|(refine gC ?_;first|refine cN ?_|refine gD (cJ ?_))|refine gL (.map ?_))<;>(conv=>whnf;try dsimp only)
      refine ah.raw (oU q2 hAj) ?_;rintro r B4 ⟨rfl,hP4⟩;have hR4:fT B4 q acc (AD l (ops.take ops.length)):=by rw[fT,hP4.2 q (hVj q (.inr rfl))];exact q3
      conv=>whnf
      try dsimp only
      repeat' refine gC (cN ?_)<;>(conv=>whnf;try dsimp only)
      refine ah.raw (AN hR4 (by have:=hzj.few;omega)) ?_
      rintro r B5 ⟨rfl,rfl⟩
      conv=>whnf
      try dsimp only
      repeat' (first|(refine gF ?_;first|refine ah.fn (hsm) ?_|refine ah.fn (hex) ?_)|(refine gC ?_;first|refine cY ?_|refine cN ?_))<;>(conv=>whnf;try dsimp only)
      exact⟨_,au.refl _,.inl rfl⟩
end Go.CK
namespace Go.CK
end Go.CK
namespace Go.CK
open Go.RowKit Go.AM
def rQ(M:Hp):List AV->List Value->Prop
 |[],[]=>True
 |x::xs,v::vs=>FV M x v/\rQ M xs vs
 |_,_=>False
theorem rQ.len{M:Hp}:∀{xs:List AV} {vs:List Value},rQ M xs vs->vs.length=xs.length
 |[],[],_=>rfl
 |_::xs,_::vs,h=>by simp[rQ.len h.2]
 |[],_::_,h=>h.elim
 |_::_,[],h=>h.elim
theorem rQ.get{M:Hp}:∀{xs:List AV} {vs:List Value},rQ M xs vs->∀j (h:j<xs.length) v,vs[j]? =some v->FV M xs[j] v
 |[],[],_,j,h,_,_=>by cases h
 |_::xs,_::vs,h,0,_,v,hv=>by
  simp only[Zo,zO] at hv
  subst hv;exact h.1
 |_::xs,_::vs,h,j+1,hj,v,hv=>rQ.get h.2 j (by simpa using hj) v (by simpa using hv)
 |[],_::_,h,_,_,_,_=>h.elim
 |_::_,[],h,_,_,_,_=>h.elim
theorem Fun.calls{P:Program}{f:FuncId}{ae:List AV}{b:Bool}(h:Fun P f ae (.bool b)){w:World}(ht:∃T fz,w.heap[KB]? =some (.cells KV.toArray T fz)){args:List Value}(ha:rQ (Hp.of w) ae args):
  Calls P f args.toArray w λe w'=>e=.returned (.bool b)/\Ext w w':=by
 refine(((h []).mono (Q':=λr _=>r=.bool b) λr bs hq=>hq.1).calls (Hp.le_refl _) (Kn.of ht) ha.len ha.get).mono ?_;rintro e w' ⟨v,r,bs',M',σ,n,rfl,rfl,hv,hx,_⟩;exact⟨by rw[hv.dm],hx⟩
end Go.CK
namespace Go.CK
open Go.RowKit Go.Proofs Go.ChangeShapes Go.WideShapes Go.ChangeAt
open Go.Proofs.YtcjfkbdbcgmomaaGreatDoor.Rows (uptoBulk uptoBulkAll uptoSmall)
theorem Cd{H:Type}(d:DataW H):1<=uptoBulk d:=by
 cases d with
 |lit l=>cases l<;>simp[uptoBulk]
 |nil=>simp[uptoBulk]
 |ptr d=>simp[uptoBulk]
 |slice elems spare=>simp[uptoBulk]
 |agg parts=>simp[uptoBulk]
 |iface t d=>simp[uptoBulk]
 |map entries=>simp[uptoBulk]
 |held h=>simp[uptoBulk]
theorem fD{H:Type}{d:DataW H}{l:List (DataW H)}(h:d∈l):uptoBulk d<=uptoBulkAll l:=by
 induction l with
 |nil=>cases h
 |cons x r ih=>
  simp only[uptoBulkAll]
  cases zI.1 h with
  |inl e=>subst e;omega
  |inr e=>have:=ih e;omega
theorem Ih{H:Type}(l:List (DataW H)):l.length<=uptoBulkAll l:=by
 induction l with
 |nil=>simp[uptoBulkAll]
 |cons x r ih=>have:=Cd x;simp only[uptoBulkAll,zY];omega
theorem uP{H:Type}{l:List (DataW H)}(hk:uptoSmall H l=true):uptoBulkAll l<=1048576:=of_decide_eq_true hk
section
variable{H:Type}{enc:TypeId×Value->H}{P:Program}{W:World}{spare:Nat->Bool}{held:Bool}
theorem sZ{α:Type}{T e:TypeId}{sz N:Nat}(hu:P.underlying T=some (.slice e))(hsz:P.cellsOf e=sz)(hp:0<sz)(R:List Value->α->Prop)(hN:0 ≤ N)
  (ih:∀(cs:List Value) (d:DataW H) (ps:List MemPlace) (fuel:Nat),DataW.trod enc P W 0 spare held fuel e cs=some (d,ps)->uptoBulk d<N->∃x,R cs x)
  {fuel:Nat} {cs:List Value} {d:DataW H} {ps:List MemPlace} (h:DataW.trod enc P W 0 spare held fuel T cs=some (d,ps)) (hb:uptoBulk d<=N):
  ∃(a:Option Addr) (l:List α) (cap:Nat),cs=[.slice a l.length cap]/\l.length<=cap/\Sl (Hp.of W) sz R a l/\l.length<=N:=by
 subst hsz;rcases Deep.open_slice hu h with ⟨rfl,_⟩|⟨a,len,cap,m,n,D,Pl,rfl,_,hlc,hcm,hm,hx,hel⟩
 .exact ⟨none,[],0,rfl,by simp,Sl.nil,by simp⟩
 .simp only[Prod.mk.injEq] at hx;obtain⟨rfl,_⟩:=hx;have hlm:len<=m:=by rw[hm];split<;>omega
  simp only[uptoBulk] at hb;have hlen:=Ih ((List.range len).map D);rw[zF,List.length_range] at hlen
  have hD:∀i,i<len->∃x cs',W.cells? 0 (a.add (i*P.cellsOf e)) (P.cellsOf e)=some cs'/\R cs' x:=λi hi=>by
   obtain⟨cs',h1,h2⟩:=hel i (by omega)
   have hbi:uptoBulk (D i)<=uptoBulkAll ((List.range len).map D):=fD (zl.2 ⟨i,by simpa using hi,rfl⟩)
   obtain⟨x,hx⟩:=ih cs' (D i) (Pl i) n h2 (by omega)
   exact⟨x,cs',h1,hx⟩
  refine⟨some a,List.ofFn (λi:Fin len=>(hD i.1 i.2).choose),cap,by simp,by simpa using hlc,⟨by simp only [List.length_ofFn];unfold maxLen at hcm;unfold lim;omega,λi hi=>?_⟩,by simp;omega⟩
  rw[List.length_ofFn] at hi
  have hspot:a.spot=none:=by
   obtain⟨cs',h1,_⟩:=hel 0 (by omega)
   obtain⟨_,h2,h3⟩:=World.cells?_some h1;have h4:=h3 0 hp;rw[zA (by omega)] at h4
   simp only[Nat.zero_mul] at h4;have h5:(a.add 0).add 0=a:=by simp[Addr.add]
   rw[h5] at h4
   cases hs:a.spot with
   |none=>rfl
   |some k=>
    simp only[World.cell?,hs] at h4;split at h4<;>simp at h4
  obtain⟨cs',h1,h2⟩:=(hD i hi).choose_spec;obtain⟨_,h3,h4⟩:=World.cells?_some h1;have ha:a=⟨a.block,a.off,none⟩:=by cases a;simp only at hspot;subst hspot;rfl
  refine⟨a.block,a.off,cs',by rw[<-ha],h3,λj x hj=>?_,by simpa using h2⟩
  have hj2:j<P.cellsOf e:=by rw[<-h3];exact(zB.1 hj).1
  have h5:=h4 j hj2;rw[Deep.add_add] at h5
  have h6:a.add (i*P.cellsOf e+j)=⟨a.block,a.off+i*P.cellsOf e+j,none⟩:=by
   unfold Addr.add;split
   .rename_i h0;rw[ha];simp;omega
   .simp
  rw[h6,hj] at h5;exact h5
end
theorem lA:Tryz.prog.cellsOf 3=1:=by kernel_rfl
theorem uD:Tryz.prog.cellsOf 9=1:=by kernel_rfl
theorem Ca:Tryz.prog.cellsOf 24=1:=by kernel_rfl
theorem sC:Tryz.prog.cellsOf 81=4:=by kernel_rfl
section
variable{H:Type}{enc:TypeId×Value->H}{W:World}{spare:Nat->Bool}{held:Bool}
theorem ny{fuel:Nat}{cs:List Value}{d:DataW H}{ps:List MemPlace}(h:DataW.trod enc Tryz.prog W 0 spare held fuel 3 cs=some (d,ps)):∃n,cs=[.int .i64 n]/\cz n:=by
 obtain⟨n,h1,_,h3⟩:=DataW.trod_int Tryz.underlying3 h;exact⟨n,h1,cz.Lm h3⟩
theorem CI{N fuel:Nat}{cs:List Value}{d:DataW H}{ps:List MemPlace}(h:DataW.trod enc Tryz.prog W 0 spare held fuel 9 cs=some (d,ps))(hb:uptoBulk d<=N):∃s:ByteArray,cs=[.string s]/\s.size<=lim:=by
 obtain⟨s,h1,_,h3⟩:=DataW.trod_string Tryz.underlying9 h;exact ⟨s,h1,by unfold maxLen at h3;unfold lim;omega⟩
theorem JH:∀(N:Nat),0 ≤ N->∀(cs:List Value) (d:DataW H) (ps:List MemPlace) (fuel:Nat),DataW.trod enc Tryz.prog W 0 spare held fuel 81 cs=some (d,ps)->uptoBulk d<=N->∃t,RTm (Hp.of W) cs t:=by
 intro N
 induction N using Nat.strongRecOn with
 |_ N ih=>
 intro hN cs d ps fuel h hb;obtain⟨y0,y1,y2,y3,n,hx,hl,h0,h1,h2,h3⟩:=Joins.trod_struct4 Tryz.underlying81 h;simp only[Prod.mk.injEq] at hx;obtain⟨rfl,_⟩:=hx;rw[sC] at hl
 match cs,hl with
 |[c0,c1,c2,c3],_=>
  simp only[lA,uD,Ca,yU,List.drop_succ_cons,yG,ZM] at h0 h1 h2 h3;simp only[uptoBulk,uptoBulkAll] at hb;have:=Cd y3.1;obtain⟨k,e0,ik⟩:=ny h0;obtain⟨m,e1,im⟩:=ny h1;obtain⟨s,e2,is⟩:=CI (N:=N) h2 (by omega)
  obtain⟨a,l,cap,e3,hlc,hsl,_⟩:=sZ (N:=N-1) Tryz.underlying24 sC (by omega) (RTm (Hp.of W)) (by omega) (λcs d ps fuel h hb=>ih (N-1) (by omega) (by omega) cs d ps fuel h (by omega)) h3 (by omega)
  simp only[yA,and_true] at e0 e1 e2 e3;subst e0;subst e1;subst e2;subst e3;exact⟨.mk k m s l,RTm.intro ik im is hlc hsl⟩
end
end Go.CK
