/-
  By an AI agent.
-/
import Derived.Test.YtcjfkbdbcgmomaaGreatDoorQat
set_option linter.unusedSimpArgs false
set_option linter.unusedVariables false
set_option maxRecDepth 100000
namespace Go.CK
open Go.AM Go.Proofs
theorem n5{x:At}(a:(Tm.vss x.args).length<=100000):Fun Tryz.prog 71 [x.av] (slA aG (aV (Tm.vss x.args))):=by
 refine Fun.of (rJ (by simp) ?_) rfl rfl
 conv=>whnf
 repeat' (first|(refine gF ?_;first|refine ae.fn (Bm) ?_|refine ae.fn (A1 a) ?_)|refine ag.nrm ?_)<;>conv=>whnf
theorem KZ{t:Tm}:Fun Tryz.prog 134 [.sl .no [t.avw]] (.fn (.func 182) [] [.ept [.sl .no [t.avw]]]):=by
 have:=Bm (l:=[t]);simp only[slA,zP,Zb,Tm.pM] at this;exact this
theorem JS{t:Tm}(a:t.vs.length<=100000):Fun Tryz.prog 133 [.fn (.func 182) [] [.ept [.sl .no [t.avw]]]] (slA aG (aV t.vs)):=by
 have:=A1 (l:=[t]) (by simpa[Tm.vss] using a)
 simp only[slA,zP,Zb,Tm.pM,Tm.vss,zy] at this;exact this
theorem Gd{t:Tm}(a:t.vs.length<=100000):Fun Tryz.prog 73 [t.avw] (slA aG (aV t.vs)):=by
 refine Fun.of (AU (by simp) ?_) rfl rfl
 conv=>whnf
 repeat' (first|(refine gF ?_;first|refine ae.fn (KZ) ?_|refine ae.fn (JS a) ?_)|refine ag.nrm ?_)<;>conv=>whnf
theorem Gt{k n:Nat}{l:List Int}:aj n [aJ (AV.int .i64) 1 k l]=true:=by
 simp only[aJ,aj,Bool.and_true,zS];exact λx a=>(rH.JG l _ n x a).2
theorem al.refl(s:St):al s s:=⟨aD.refl s⟩
def O5(own:List Box)(l:List Int)(r:AV)(bs':List Box):Prop:=∃(J:List Box) (k':Nat),l.length<=k'/\aj (own.length+J.length) J=true/\r=.bsl (own.length+J.length) l.length k'/\bs'=own++(J++[aJ (AV.int .i64) 1 k' l])
theorem JE(a:Tm):∀(own:List Box) (l:List Int) (k:Nat),aj own.length own=true->l.length<=k->l.length+a.vs.length<=1000000->
  AM.Sem Tryz.prog 204 [.bsl own.length l.length k,a.avw] (own++[aJ (AV.int .i64) 1 k l]) (O5 own (bT l a.vs)):=by
 induction a using Tm.bA with
 |h k n s l ih=>
 intro own b k0 v o hb;generalize C:Tm.mk k n s l=a at hb|-
 have ih:∀t∈a.args,∀(own:List Box) (l:List Int) (k:Nat),aj own.length own=true->l.length<=k->l.length+t.vs.length<=1000000->
  AM.Sem Tryz.prog 204 [.bsl own.length l.length k,t.avw] (own++[aJ (AV.int .i64) 1 k l]) (O5 own (bT l t.vs)):=by subst C;exact ih
 clear C;refine Sem.assume λy _=>?_;have G:=(ox (y a.avw (by simp) rfl)).2.1
 have F:a.use.length<=4294967296:=by unfold Tm.use;split<;>simp[G]
 refine kA (by simp) ?_
 conv=>whnf
 repeat' (first|refine gF (ae.fn (iw) ?_)|(refine gC ?_;first|refine cN ?_|(refine gD ?_;first|refine cI ?_|refine cJ ?_)|refine ak.dec (λe=>?_) (λe=>?_))|refine gB (.last ?_))<;>conv=>whnf
 .have A:=Tm.Ou e;have hu:a.use.length=0:=by unfold Tm.use;rw[if_neg (by omega)];rfl
  refine ae.view (KA (l:=b) (n:=a.num)) rfl ?_ ?_
  .refine .cons (.row (l:=b) rH ?_ rfl) (.cons (.same rfl) .nil);simp[aJ]
  conv=>whnf
  repeat' (first|refine gF (ae.fn (iw) ?_)|(refine gC ?_;first|refine .not ?_|refine gD (cI ?_)|refine ak.dec (λe=>?_) (λe=>?_))|refine gB (.last ?_))<;>conv=>whnf
  .rw [A,show bT b [a.num]=b from Hc e];refine ax.count (fb:=false) 0 (λc _=>c) (λ_=>True) trivial (al.refl _) (λj E=>by omega) (λ_=>?_)
   conv=>whnf
   repeat' (first|refine gC (gD (cJ ?_))|refine gL (.map ?_))<;>conv=>whnf
   refine ag.qU (own:=own++[aJ (AV.int .i64) 1 k0 b]) rfl (zG _) ?_ ?_ ?_
   .simp [fO,AV.lt,AV.lt1,AV.lt0,AV.aZ]
   .exact aY (bc (by simp) v) Gt
   .exact ag.slot ⟨[],k0,o,rfl,rfl,rfl⟩
  .refine oe.one (l:=b) rH (by simp[aJ]) rfl o (by omega) (λk2 g=>?_)
   rw[Jz]
   conv=>whnf
   skip;refine gi.of (cs:=[.int .i64 a.kind,.int .i64 a.num,.str a.name,.sl .no (a.args.map Tm.av)]) (by simp[aa,Box.cs?]) ?_
   conv=>whnf
   repeat' refine gF (ae.fn (iw) ?_)<;>conv=>whnf
   rw[A,show bT b [a.num]=b++[a.num] from Ec e];refine ax.count (fb:=false) 0 (λc _=>c) (λ_=>True) trivial (al.refl _) (λj E=>by omega) (λ_=>?_)
   conv=>whnf
   repeat' (first|refine gC (gD (cJ ?_))|refine gL (.map ?_))<;>conv=>whnf
   refine ag.slot ⟨[.dead,.cells [.int .i64 a.kind,.int .i64 a.num,.str a.name,.sl .no (a.args.map Tm.av)]],k2,g,rfl,?_,?_⟩
   .simp [St.get,au]
   .simp
 .refine ax.by (fb:=false) (λc (q:Nat×Nat×List Box)=>⟨[(0,.bsl (own.length+q.2.2.length) (bT (b) (Tm.vss (a.use.take q.1))).length q.2.1),(5,slA Tm.av a.use),(6,.int .i64 q.1)],own++(q.2.2++[aJ (AV.int .i64) 1 q.2.1 (bT (b) (Tm.vss (a.use.take q.1)))]),c.lo⟩) (λq=>q.1<=a.use.length/\(bT (b) (Tm.vss (a.use.take q.1))).length<=q.2.1/\aj (own.length+q.2.2.length) q.2.2=true) (λq=>a.use.length-q.1) (0,k0,[]) ⟨zJ _,by simp[Tm.vss,bT, *],rfl⟩ ?_ ?_
  .refine al.qU (own:=own++[aJ (AV.int .i64) 1 k0 b]) rfl (zG _) ?_ ?_ ?_
   .simp [fO,AV.lt,AV.lt1,AV.lt0,AV.aZ]
   .exact aY (bc (by simp) v) Gt
   .refine al.atS ?_ rfl rfl
    conv=>whnf
    repeat' (first|(refine gV ?_;first|refine vE ?_|refine vI ?_|(refine WkN.norm ?_ ?_;(focus (simp[AV.norm,AV.ay,Tm.vss,bT];done))))|exact True.intro)<;>conv=>whnf
  .rintro ⟨j,z,J⟩ ⟨w,d,hJ⟩;dsimp only at w d hJ|-
   by_cases m:j<a.use.length
   .obtain ⟨x,f⟩:∃x,a.use[j]? =some x:=⟨_,zA m⟩;have u:=Tm.kH f;have i:=Tm.mZ f;have hle:=congrArg List.length u;simp only[zC] at hle;have B:=cU (Tm.vss (a.use.take j)) (b);have D:=ih x (GJ (zE f)) (own++J) (bT (b) (Tm.vss (a.use.take j))) z (by rw[zC];exact aY (bc (yA _ _) v) hJ) d (by rw[Tm.M4 e] at hb;omega)
    rw[zC,zg] at D
    conv=>whnf
    repeat' (first|refine gC (gD (cI ?_))|refine gL (.map ?_)|refine gI (gT (iA ?_)))<;>conv=>whnf
    refine ae.raw D ?_;rintro r bs' ⟨J2,k2,g,p,rfl,rfl⟩
    conv=>whnf
    repeat' refine gW (wI ?_)<;>conv=>whnf
    refine⟨(j+1,k2,J++J2),⟨⟨m,?_,?_⟩,by simp only;omega⟩,?_⟩
    .dsimp only;rw[i,oC];exact g
    .dsimp only;rw[zC,<-Zk];rw[zC] at p;exact aY (bc (yA _ _) hJ) p
    .dsimp only;rw[i,oC];refine al.atS ?_ (by simp) rfl
     conv=>whnf
     repeat' (first|(refine gV ?_;first|refine vE ?_|refine vI ?_|(refine WkN.norm ?_ ?_;(focus (simp[AV.norm,AV.ay,Zk];done))))|exact True.intro)<;>conv=>whnf
   .obtain rfl:j=a.use.length:=by omega
    rw[zz] at d
    conv=>whnf
    repeat' (first|refine gC (gD (cJ ?_))|refine gL (.map ?_))<;>conv=>whnf
    rw[zz,Tm.M4 e];exact ag.slot ⟨J,z,d,hJ,rfl,rfl⟩
theorem rb{l:List Tm}(hb:(Tm.vss l).length<=100000):Fun Tryz.prog 164 [slA Tm.av l] (slA aG (aV (Tm.vss l))):=by
 refine Fun.assume rfl λk=>?_;have o:=(aS (k (slA Tm.av l) (by simp))).1
 refine Fun.of (iR (by simp) ?_) rfl rfl
 conv=>whnf
 skip;refine ax.by (fb:=false) (λf (q:Nat×Nat×List Box)=>⟨[(0,slA Tm.av l),(3,.bsl q.2.2.length (bT [] (Tm.vss (l.take q.1))).length q.2.1),(4,.int .i64 q.1)],q.2.2++[aJ (AV.int .i64) 1 q.2.1 (bT [] (Tm.vss (l.take q.1)))],f.lo⟩) (λq=>q.1<=l.length/\(bT [] (Tm.vss (l.take q.1))).length<=q.2.1/\aj q.2.2.length q.2.2=true) (λq=>l.length-q.1) (0,0,[]) ⟨zJ _,by simp[Tm.vss,bT],rfl⟩ ?_ ?_
 .refine al.sE 3 rfl ?_;refine al.atS ?_ rfl rfl
  conv=>whnf
  repeat' (first|(refine gV ?_;first|refine vE ?_|refine vI ?_|(refine WkN.norm ?_ ?_;(focus (simp[AV.norm,AV.ay,Tm.vss,bT];done))))|exact True.intro)<;>conv=>whnf
 .rintro ⟨j,n,J⟩ ⟨i,a,hJ⟩;dsimp only at i a hJ|-
  by_cases d:j<l.length
  .obtain ⟨x,b⟩:∃x,l[j]? =some x:=⟨_,zA d⟩;have g:=Tm.kH b;have c:=Tm.mZ b;have hle:=congrArg List.length g;simp only[zC] at hle;have e:=cU (Tm.vss (l.take j)) [];simp only[ZP] at e
   conv=>whnf
   repeat' (first|refine gC (gD (cI ?_))|refine gL (.map ?_)|refine gI (gT (iA ?_)))<;>conv=>whnf
   refine ae.raw (JE x J (bT [] (Tm.vss (l.take j))) n hJ a (by omega)) ?_
   rintro r bs' ⟨J2,k2,h,m,rfl,rfl⟩
   conv=>whnf
   repeat' refine gW (wI ?_)<;>conv=>whnf
   refine⟨(j+1,k2,J++J2),⟨⟨d,?_,?_⟩,by simp only;omega⟩,?_⟩
   .dsimp only;rw[c,oC];exact h
   .dsimp only;rw[zC];exact aY (bc (yA _ _) hJ) m
   .dsimp only;rw[c,oC];refine al.atS ?_ (by simp) rfl
    conv=>whnf
    repeat' (first|(refine gV ?_;first|refine vE ?_|refine vI ?_|(refine WkN.norm ?_ ?_;(focus (simp[AV.norm,AV.ay,];done))))|exact True.intro)<;>conv=>whnf
  .obtain rfl:j=l.length:=by omega
   rw[zz] at a
   conv=>whnf
   repeat' (first|refine gC (gD (cJ ?_))|refine gL (.map ?_))<;>conv=>whnf
   refine ag.froze (l:=bT [] (Tm.vss l)) rH rfl (by simp[aJ]) (by rw[zz]) ?_
   exact ag.slot rfl
end Go.CK
namespace Go.CK
open Go.AM Go.Proofs
variable{ab:List AV}{bs:List Box}{Q:AV->List Box->Prop}
def lR:RC:=
 (.seq (rR [0,2,4] [oQ 4 (.box 1),oQ 6 (.mov (.c (.bool false)))]) (.seq (rR [0,2,4] [qM 7 0,qK 8 7,qF 9 0 8,qL 10 9,oQ 11 (.bin .sub 10 (.c (.int .i64 1))),qK 12 7,qF 13 0 12,oN (.store 1 13 11)]) (.seq (.seq (rR [0,2,4,22] [qM 14 0,qK 15 14,qF 16 0 15,qL 17 16,oQ 18 (.bin .lss 17 (.c (.int .i64 0))),qM 19 18,oG 20 19 false (.mov 2),oG 21 19 false (.bin .lss 20 (.c (.int .i64 1))),oQ 22 (.pick 19 (.c (.bool true)) 21)]) (.cond 22 (.seq (rR [6] [oQ 6 (.mov (.c (.bool false)))]) .ret) .skip)) (.seq (.seq (rR [0,2,4,24] [qF 23 0 4,qL 24 23]) (.block 0 (.seq (rR [0,2,4,24,25] [oQ 26 (.bin .eql 24 (.c (.int .i64 0))),qM 25 26]) (.cond 25 (.seq (rR [6] [qF 27 1 4,qL 28 27,oQ 29 (.bin .geq 28 (.c (.int .i64 (-2147483648)))),qM 30 29,oG 31 30 true (.aL 1 4),oG 32 30 true (.load false 1 31),oG 33 30 true (.bin .leq 32 (.c (.int .i64 2147483648))),oQ 34 (.pick 30 33 (.c (.bool false))),qM 35 34,oG 36 35 true (.aL 2 4),oG 37 35 true (.load false 1 36),oG 38 35 true (.bin .eql 37 (.c (.str ⟨⟨[]⟩⟩))),oQ 39 (.pick 35 38 (.c (.bool false))),qM 40 39,oG 41 40 true (.aL 3 4),oG 42 40 true (.load false 1 41),oG 43 40 true (.len false 42),oG 44 40 true (.bin .eql 43 (.c (.int .i64 0))),oQ 45 (.pick 40 44 (.c (.bool false))),qM 6 45])
 .ret) (.seq (rR [0,2,4,24,46] [oQ 47 (.bin .eql 24 (.c (.int .i64 1))),qM 46 47]) (.cond 46 (.seq (rR [6] [qF 48 1 4,qL 49 48,oQ 50 (.bin .geq 49 (.c (.int .i64 0))),qM 51 50,oG 52 51 true (.aL 1 4),oG 53 51 true (.load false 1 52),oG 54 51 true (.bin .leq 53 (.c (.int .i64 1048576))),oQ 55 (.pick 51 54 (.c (.bool false))),qM 56 55,oG 57 56 true (.aL 2 4),oG 58 56 true (.load false 1 57),oG 59 56 true (.bin .eql 58 (.c (.str ⟨⟨[]⟩⟩))),oQ 60 (.pick 56 59 (.c (.bool false))),qM 61 60,oG 62 61 true (.aL 3 4),oG 63 61 true (.load false 1 62),oG 64 61 true (.len false 63),oG 65 61 true (.bin .eql 64 (.c (.int .i64 0))),oQ 66 (.pick 61 65 (.c (.bool false))),qM 6 66]) .ret) (.seq (rR [0,2,4,67] [oQ 68 (.bin .eql 24 (.c (.int .i64 2))),qM 67 68]) (.cond 67 (.seq (.seq (rR [0,2,4,77] [qF 69 1 4,qL 70 69,oQ 71 (.bin .neq 70 (.c (.int .i64 0))),qM 72 71,oG 73 72 false (.aL 3 4),oG 74 72 false (.load false 1 73),oG 75 72 false (.len false 74),oG 76 72 false (.bin .gtr 75 (.c (.int .i64 6))),oQ 77 (.pick 72 (.c (.bool true)) 76)])
 (.cond 77 (.seq (rR [6] [oQ 6 (.mov (.c (.bool false)))]) .ret) .skip)) (.seq (.seq (rR [0,2,4,93] [qF 78 2 4,qL 79 78,oQ 80 (cF 95 [79]),oQ 81 (.un .not 80),qM 82 81,oG 83 82 true (.aL 2 4),oG 84 82 true (.load false 1 83),oG 85 82 true (cF 200 [84]),oG 86 82 true (.mov 85),oG 87 86 true (.aL 3 4),oG 88 86 true (.load false 1 87),oG 89 86 true (.len false 88),oG 90 86 true (.bin .eql 89 (.c (.int .i64 2))),oG 91 82 true (.pick 86 90 (.c (.bool false))),oG 92 82 true (.un .not 91),oQ 93 (.pick 82 92 (.c (.bool false)))]) (.cond 93 (.seq (rR [6] [oQ 6 (.mov (.c (.bool false)))]) .ret) .skip)) (.seq (rR [6] [qM 94 0,qF 95 3 4,qL 96 95,qM 97 2,oQ 98 (.bin .sub 97 (.c (.int .i64 1))),oQ 99 (cF 102 [94,96,98]),qM 6 99]) .ret))) .skip)))))))) (.seq (rR [6] [oQ 6 (.mov (.c (.bool false)))]) .ret)))))
theorem lZ(hn:ab.length<=100)(h:SP Tryz.prog true ab bs lR [.slot 6] Q):AM.Sem Tryz.prog 153 ab bs Q:=
 oZ (keeps:=[(0,[0,2,4]),(1,[0,2,4]),(2,[0,2,4,22]),(3,[6]),(4,[0,2,4,24]),(5,[0,2,4,24,25]),(7,[0,2,4,24,46]),(9,[0,2,4,67]),(10,[0,2,4,77]),(11,[6]),(12,[0,2,4,93]),(13,[6]),(14,[6]),(8,[6]),(6,[6]),(15,[6])]) (solo:=[]) Tryz.func153 rfl hn h
def np:RC:=
 (.seq (rR [0,1,2] [oQ 6 (.mov (.c (.bool false)))]) (.seq (.seq (rR [0,1,2,9,10] [qM 8 1,oQ 9 (.len false 8),oQ 10 (.mov (.c (.int .i64 0)))]) (.block 0 (.loop (.seq (rR [0,1,2,9,10,11] [oQ 11 (.bin .lss 10 9)]) (.seq (.cond 11 .skip (.exit 0)) (.seq (.block 1 (.seq (rR [0,1,2,7,9,10] [qM 12 10,qM 7 12]) (.seq (rR [0,1,2,9,10,20] [qM 13 0,qM 14 1,qM 15 7,qI 16 4 14 15,qA 17 4 16,qM 18 2,oQ 19 (cF 153 [13,17,18]),oQ 20 (.un .not 19)]) (.cond 20 (.seq (rR [6] [oQ 6 (.mov (.c (.bool false)))]) .ret) .skip)))) (rR [0,1,2,9,10] [oQ 21 (.bin .add 10 (.c (.int .i64 1))),qM 10 21]))))))) (.seq (rR [6] [oQ 6 (.mov (.c (.bool true)))]) .ret)))
theorem nz(hn:ab.length<=22)(h:SP Tryz.prog true ab bs np [.slot 6] Q):AM.Sem Tryz.prog 102 ab bs Q:=
 oZ (keeps:=[(0,[0,1,2]),(1,[0,1,2,9,10]),(2,[0,1,2,9,10,11]),(3,[0,1,2,7,9,10]),(4,[0,1,2,9,10,20]),(5,[6]),(6,[0,1,2,9,10]),(7,[6])]) (solo:=[]) Tryz.func102 rfl hn h
def wP:RC:=
 (.seq (rR [0] [oQ 2 (.mov (.c (.bool false)))]) (.seq (rR [2] [qM 3 0,oQ 4 (cF 148 [3,(.c (.int .u8 1))]),qM 5 4,oG 6 5 true (.mov 0),oG 7 5 true (cF 149 [6]),oG 8 5 true (.un .not 7),oQ 9 (.pick 5 8 (.c (.bool false))),qM 2 9]) .ret))
theorem w6(hn:ab.length<=10)(h:SP Tryz.prog true ab bs wP [.slot 2] Q):AM.Sem Tryz.prog 95 ab bs Q:=
 oZ (keeps:=[(0,[0]),(1,[2])]) (solo:=[]) Tryz.func95 rfl hn h
def rA:RC:=
 (.seq (rR [0] [oQ 2 (.mov (.c (.bool false)))]) (.seq (rR [2] [qM 3 0,oQ 4 (.len true 3),oQ 5 (.bin .eql 4 (.c (.int .i64 1))),qM 6 5,oG 7 6 true (.mov 0),oG 8 6 true (cF 232 [(.c (.str ⟨⟨[43,45,42,47,37]⟩⟩)),7]),oQ 9 (.pick 6 8 (.c (.bool false))),qM 2 9]) .ret))
theorem ld(hn:ab.length<=10)(h:SP Tryz.prog true ab bs rA [.slot 2] Q):AM.Sem Tryz.prog 200 ab bs Q:=
 oZ (keeps:=[(0,[0]),(1,[2])]) (solo:=[]) Tryz.func200 rfl hn h
def rz:RC:=
 (.seq (rR [0] [oQ 2 (.mov (.c (.bool false)))]) (.seq (.seq (rR [3] [qM 3 0]) (.block 0 (.seq (.seq (rR [3,4] [oQ 5 (.bin .eql 3 (.c (.str ⟨⟨[99,111,110,115,116,114,97,105,110,116]⟩⟩))),qM 4 5]) (.cond 4 .skip (.seq (rR [3,4] [oQ 6 (.bin .eql 3 (.c (.str ⟨⟨[116,114,117,101]⟩⟩))),qM 4 6]) (.cond 4 .skip (.seq (rR [3,4] [oQ 7 (.bin .eql 3 (.c (.str ⟨⟨[102,97,105,108]⟩⟩))),qM 4 7]) (.cond 4 .skip (.seq (rR [3,4] [oQ 8 (.bin .eql 3 (.c (.str ⟨⟨[105,115]⟩⟩))),qM 4 8]) (.cond 4 .skip (.seq (rR [3,4] [oQ 9 (.bin .eql 3 (.c (.str ⟨⟨[105,110,116]⟩⟩))),qM 4 9]) (.cond 4 .skip (rR [4] [oQ 10 (.bin .eql 3 (.c (.str ⟨⟨[103,114,111,117,110,100]⟩⟩))),qM 4 10]))))))))))) (.cond 4 (.seq (rR [2] [oQ 2 (.mov (.c (.bool true)))]) .ret) .skip)))) (.seq (rR [2] [oQ 2 (.mov (.c (.bool false)))]) .ret)))
theorem rK(hn:ab.length<=11)(h:SP Tryz.prog true ab bs rz [.slot 2] Q):AM.Sem Tryz.prog 149 ab bs Q:=
 oZ (keeps:=[(0,[0]),(1,[3]),(2,[3,4]),(3,[3,4]),(4,[3,4]),(5,[3,4]),(6,[3,4]),(7,[4]),(8,[2]),(9,[2])]) (solo:=[]) Tryz.func149 rfl hn h
def jY:RC:=
 (.seq (rR [1] [oQ 1 (.box 0),oQ 2 (.mov (.c (.bool false)))]) (.seq (rR [2] [qA 3 4 1,oQ 4 (cF 210 [3]),qM 5 4,oG 6 5 true (.load true 4 1),oG 7 5 true (cF 185 [6]),oG 8 5 true (.bin .leq 7 (.c (.int .i64 200))),oQ 9 (.pick 5 8 (.c (.bool false))),qM 10 9,oG 11 10 true (.load true 4 1),oG 12 10 true (cF 211 [11]),oG 13 10 true (.bin .leq 12 (.c (.int .i64 20))),oQ 14 (.pick 10 13 (.c (.bool false))),qM 2 14]) .ret))
theorem kq(hn:ab.length<=15)(h:SP Tryz.prog true ab bs jY [.slot 2] Q):AM.Sem Tryz.prog 184 ab bs Q:=
 oZ (keeps:=[(0,[1]),(1,[2])]) (solo:=[]) Tryz.func184 rfl hn h
def kV:RC:=
 (.seq (rR [1] [oQ 1 (.box 0),oQ 2 (.mov (.c (.bool false)))]) (.seq (.seq (rR [1,6] [qF 5 0 1,qL 6 5]) (.block 0 (.seq (rR [1,6,7] [oQ 8 (.bin .eql 6 (.c (.int .i64 0))),qM 7 8]) (.cond 7 (.seq (rR [2] [qF 9 1 1,qL 10 9,oQ 11 (.bin .geq 10 (.c (.int .i64 (-2147483648)))),qM 12 11,oG 13 12 true (.aL 1 1),oG 14 12 true (.load false 1 13),oG 15 12 true (.bin .leq 14 (.c (.int .i64 2147483648))),oQ 16 (.pick 12 15 (.c (.bool false))),qM 17 16,oG 18 17 true (.aL 2 1),oG 19 17 true (.load false 1 18),oG 20 17 true (.bin .eql 19 (.c (.str ⟨⟨[]⟩⟩))),oQ 21 (.pick 17 20 (.c (.bool false))),qM 22 21,oG 23 22 true (.aL 3 1),oG 24 22 true (.load false 1 23),oG 25 22 true (.len false 24),oG 26 22 true (.bin .eql 25 (.c (.int .i64 0))),oQ 27 (.pick 22 26 (.c (.bool false))),qM 2 27]) .ret) (.seq (rR [1,6,28] [oQ 29 (.bin .eql 6 (.c (.int .i64 1))),qM 28 29]) (.cond 28
 (.seq (rR [2] [qF 30 1 1,qL 31 30,oQ 32 (.bin .geq 31 (.c (.int .i64 0))),qM 33 32,oG 34 33 true (.aL 1 1),oG 35 33 true (.load false 1 34),oG 36 33 true (.bin .leq 35 (.c (.int .i64 1048576))),oQ 37 (.pick 33 36 (.c (.bool false))),qM 38 37,oG 39 38 true (.aL 2 1),oG 40 38 true (.load false 1 39),oG 41 38 true (.bin .eql 40 (.c (.str ⟨⟨[]⟩⟩))),oQ 42 (.pick 38 41 (.c (.bool false))),qM 43 42,oG 44 43 true (.aL 3 1),oG 45 43 true (.load false 1 44),oG 46 43 true (.len false 45),oG 47 43 true (.bin .eql 46 (.c (.int .i64 0))),oQ 48 (.pick 43 47 (.c (.bool false))),qM 2 48]) .ret) (.seq (rR [1,49] [oQ 50 (.bin .eql 6 (.c (.int .i64 2))),qM 49 50]) (.cond 49 (.seq (rR [1,3] [qF 51 2 1,qL 52 51,oQ 53 (cF 236 [52]),qM 54 53,oG 55 54 true (.aL 3 1),oG 56 54 true (.load false 1 55),oG 57 54 true (.len false 56),oG 58 54 true (.bin .eql 57 (.c (.int .i64 2))),oQ 59 (.pick 54 58 (.c (.bool false))),qM 3 59])
 (.seq (.seq (rR [1,78] [qF 60 1 1,qL 61 60,oQ 62 (.bin .neq 61 (.c (.int .i64 0))),qM 63 62,oG 64 63 false (.mov 3),oG 65 63 false (.un .not 64),oG 66 63 false (.mov 65),oG 67 66 true (.aL 2 1),oG 68 66 true (.load false 1 67),oG 69 66 true (cF 61 [68]),oG 70 66 true (.un .not 69),oG 71 66 true (.mov 70),oG 72 71 false (.aL 3 1),oG 73 71 false (.load false 1 72),oG 74 71 false (.len false 73),oG 75 71 false (.bin .gtr 74 (.c (.int .i64 6))),oG 76 66 true (.pick 71 (.c (.bool true)) 75),oG 77 63 false (.pick 66 76 (.c (.bool false))),oQ 78 (.pick 63 (.c (.bool true)) 77)]) (.cond 78 (.seq (rR [2] [oQ 2 (.mov (.c (.bool false)))]) .ret) .skip)) (.seq (.seq (rR [1,4] [oQ 4 (.mov (.c (.int .i64 0)))]) (.block 1 (.loop (.seq (.seq (rR [1,4,83] [qM 79 4,qF 80 3 1,qL 81 80,oQ 82 (.len false 81),oQ 83 (.bin .lss 79 82)]) (.cond 83 .skip (.exit 1))) (.seq (.block 2
 (.seq (rR [1,4,92] [qF 86 3 1,qL 87 86,qM 88 4,qI 89 4 87 88,qA 90 4 89,oQ 91 (cF 210 [90]),oQ 92 (.un .not 91)]) (.cond 92 (.seq (rR [2] [oQ 2 (.mov (.c (.bool false)))]) .ret) .skip))) (rR [1,4] [qM 84 4,oQ 85 (.bin .add 84 (.c (.int .i64 1))),qM 4 85])))))) (.seq (rR [2] [oQ 2 (.mov (.c (.bool true)))]) .ret)))) .skip)))))))) (.seq (rR [2] [oQ 2 (.mov (.c (.bool false)))]) .ret)))
theorem aH(hn:ab.length<=93)(h:SP Tryz.prog true ab bs kV [.slot 2] Q):AM.Sem Tryz.prog 210 ab bs Q:=
 oZ (keeps:=[(0,[1]),(1,[1,6]),(2,[1,6,7]),(4,[1,6,28]),(6,[1,49]),(7,[1,3]),(8,[1,78]),(9,[2]),(10,[1,4]),(11,[1,4,83]),(13,[1,4,92]),(14,[2]),(12,[1,4]),(15,[2]),(5,[2]),(3,[2]),(16,[2])]) (solo:=[]) Tryz.func210 rfl hn h
def kX:RC:=
 (.seq (rR [1] [oQ 1 (.box 0),oQ 2 (.mov (.c (.int .i64 0)))]) (.seq (rR [1,3] [oQ 3 (.mov (.c (.int .i64 1)))]) (.seq (rR [3,4] [qA 6 4 1,oQ 7 (cF 212 [6]),qM 4 7]) (.seq (.seq (rR [3,4,5] [oQ 5 (.mov (.c (.int .i64 0)))]) (.block 0 (.loop (.seq (.seq (rR [3,4,5,11] [qM 8 5,qM 9 4,oQ 10 (.len false 9),oQ 11 (.bin .lss 8 10)]) (.cond 11 .skip (.exit 0))) (.seq (.block 1 (rR [3,4,5] [qM 14 3,qM 15 4,qM 16 5,qI 17 4 15 16,qA 18 4 17,oQ 19 (cF 185 [18]),oQ 20 (.bin .add 14 19),qM 3 20])) (rR [3,4,5] [qM 12 5,oQ 13 (.bin .add 12 (.c (.int .i64 1))),qM 5 13])))))) (.seq (rR [2] [qM 21 3,qM 2 21]) .ret)))))
theorem lj(hn:ab.length<=22)(h:SP Tryz.prog true ab bs kX [.slot 2] Q):AM.Sem Tryz.prog 185 ab bs Q:=
 oZ (keeps:=[(0,[1]),(1,[1,3]),(2,[3,4]),(3,[3,4,5]),(4,[3,4,5,11]),(6,[3,4,5]),(5,[3,4,5]),(7,[2])]) (solo:=[]) Tryz.func185 rfl hn h
def jZ:RC:=
 (.seq (rR [1] [oQ 1 (.box 0),oQ 2 (.mov (.c (.int .i64 0)))]) (.seq (rR [1,3] [oQ 3 (.mov (.c (.int .i64 0)))]) (.seq (rR [3,4] [qA 6 4 1,oQ 7 (cF 212 [6]),qM 4 7]) (.seq (.seq (rR [3,4,5] [oQ 5 (.mov (.c (.int .i64 0)))]) (.block 0 (.loop (.seq (.seq (rR [3,4,5,11] [qM 8 5,qM 9 4,oQ 10 (.len false 9),oQ 11 (.bin .lss 8 10)]) (.cond 11 .skip (.exit 0))) (.seq (.block 1 (rR [3,4,5] [qM 14 3,qM 15 4,qM 16 5,qI 17 4 15 16,qA 18 4 17,oQ 19 (cF 211 [18]),oQ 20 (.iX true 14 19),qM 3 20])) (rR [3,4,5] [qM 12 5,oQ 13 (.bin .add 12 (.c (.int .i64 1))),qM 5 13])))))) (.seq (rR [2] [qM 21 3,oQ 22 (.bin .add 21 (.c (.int .i64 1))),qM 2 22]) .ret)))))
theorem kr(hn:ab.length<=23)(h:SP Tryz.prog true ab bs jZ [.slot 2] Q):AM.Sem Tryz.prog 211 ab bs Q:=
 oZ (keeps:=[(0,[1]),(1,[1,3]),(2,[3,4]),(3,[3,4,5]),(4,[3,4,5,11]),(6,[3,4,5]),(5,[3,4,5]),(7,[2])]) (solo:=[]) Tryz.func211 rfl hn h
def gP:RC:=
 (.seq (rR [0] [oQ 2 (.mov (.c (.bool false)))]) (.seq (rR [2] [qM 3 0,oQ 4 (.bin .eql 3 (.c (.str ⟨⟨[43]⟩⟩))),qM 5 4,oG 6 5 false (.mov 0),oG 7 5 false (.bin .eql 6 (.c (.str ⟨⟨[45]⟩⟩))),oQ 8 (.pick 5 (.c (.bool true)) 7),qM 9 8,oG 10 9 false (.mov 0),oG 11 9 false (.bin .eql 10 (.c (.str ⟨⟨[42]⟩⟩))),oQ 12 (.pick 9 (.c (.bool true)) 11),qM 13 12,oG 14 13 false (.mov 0),oG 15 13 false (.bin .eql 14 (.c (.str ⟨⟨[47]⟩⟩))),oQ 16 (.pick 13 (.c (.bool true)) 15),qM 17 16,oG 18 17 false (.mov 0),oG 19 17 false (.bin .eql 18 (.c (.str ⟨⟨[37]⟩⟩))),oQ 20 (.pick 17 (.c (.bool true)) 19),qM 2 20]) .ret))
theorem hG(hn:ab.length<=21)(h:SP Tryz.prog true ab bs gP [.slot 2] Q):AM.Sem Tryz.prog 236 ab bs Q:=
 oZ (keeps:=[(0,[0]),(1,[2])]) (solo:=[]) Tryz.func236 rfl hn h
def j3:RC:=
 (.seq (rR [0] [oQ 2 (.mov (.c (.bool false)))]) (.seq (rR [2] [qM 3 0,oQ 4 (cF 111 [3]),qM 5 4,oG 6 5 true (.mov 0),oG 7 5 true (.pG 6 (.c (.int .i64 0))),oG 8 5 true (cF 112 [7]),oQ 9 (.pick 5 8 (.c (.bool false))),qM 10 9,oG 11 10 true (.mov 0),oG 12 10 true (cF 113 [11]),oG 13 10 true (.un .not 12),oQ 14 (.pick 10 13 (.c (.bool false))),qM 2 14]) .ret))
theorem dK(hn:ab.length<=15)(h:SP Tryz.prog true ab bs j3 [.slot 2] Q):AM.Sem Tryz.prog 61 ab bs Q:=
 oZ (keeps:=[(0,[0]),(1,[2])]) (solo:=[]) Tryz.func61 rfl hn h
def kY:RC:=
 (.seq (rR [0] [oQ 2 (.mov (.c (.bool false)))]) (.seq (.seq (rR [0,3] [oQ 3 (.mov (.c (.int .i64 0)))]) (.block 0 (.loop (.seq (.seq (rR [0,3,7] [qM 4 3,qM 5 0,oQ 6 (.len true 5),oQ 7 (.bin .lss 4 6)]) (.cond 7 .skip (.exit 0))) (.seq (.block 1 (.seq (rR [0,3,39] [qM 10 0,qM 11 3,oQ 12 (.pG 10 11),oQ 13 (cF 112 [12]),oQ 14 (.un .not 13),qM 15 14,oG 16 15 true (.mov 0),oG 17 15 true (.mov 3),oG 18 15 true (.pG 16 17),oG 19 15 true (cF 162 [18]),oG 20 15 true (.un .not 19),oQ 21 (.pick 15 20 (.c (.bool false))),qM 22 21,oG 23 22 true (.mov 0),oG 24 22 true (.mov 3),oG 25 22 true (.pG 23 24),oG 26 22 true (.bin .lss 25 (.c (.int .u8 48))),oG 27 22 true (.mov 26),oG 28 27 false (.mov 0),oG 29 27 false (.mov 3),oG 30 27 false (.pG 28 29),oG 31 27 false (.bin .gtr 30 (.c (.int .u8 57))),oG 32 22 true (.pick 27 (.c (.bool true)) 31),oQ 33 (.pick 22 32 (.c (.bool false))),qM 34 33,oG 35 34 true (.mov 0),oG 36 34 true (.mov 3),oG 37 34 true (.pG 35 36),oG 38 34 true (.bin .neq 37 (.c (.int .u8 95))),oQ 39 (.pick 34 38 (.c (.bool false)))])
 (.cond 39 (.seq (rR [2] [oQ 2 (.mov (.c (.bool false)))]) .ret) .skip))) (rR [0,3] [qM 8 3,oQ 9 (.bin .add 8 (.c (.int .i64 1))),qM 3 9])))))) (.seq (rR [2] [qM 40 0,oQ 41 (.len true 40),oQ 42 (.bin .geq 41 (.c (.int .i64 1))),qM 43 42,oG 44 43 true (.mov 0),oG 45 43 true (.len true 44),oG 46 43 true (.bin .leq 45 (.c (.int .i64 40))),oQ 47 (.pick 43 46 (.c (.bool false))),qM 2 47]) .ret)))
theorem lk(hn:ab.length<=48)(h:SP Tryz.prog true ab bs kY [.slot 2] Q):AM.Sem Tryz.prog 111 ab bs Q:=
 oZ (keeps:=[(0,[0]),(1,[0,3]),(2,[0,3,7]),(4,[0,3,39]),(5,[2]),(3,[0,3]),(6,[2])]) (solo:=[]) Tryz.func111 rfl hn h
def j2:RC:=
 (.seq (rR [0] [oQ 2 (.mov (.c (.bool false)))]) (.seq (rR [2] [qM 3 0,oQ 4 (.bin .geq 3 (.c (.int .u8 97))),qM 5 4,oG 6 5 true (.mov 0),oG 7 5 true (.bin .leq 6 (.c (.int .u8 122))),oQ 8 (.pick 5 7 (.c (.bool false))),qM 2 8]) .ret))
theorem kx(hn:ab.length<=9)(h:SP Tryz.prog true ab bs j2 [.slot 2] Q):AM.Sem Tryz.prog 112 ab bs Q:=
 oZ (keeps:=[(0,[0]),(1,[2])]) (solo:=[]) Tryz.func112 rfl hn h
def gO:RC:=
 (.seq (rR [0] [oQ 2 (.mov (.c (.bool false)))]) (.seq (rR [2] [qM 3 0,oQ 4 (.bin .eql 3 (.c (.str ⟨⟨[99,111,110,115,116,114,97,105,110,116]⟩⟩))),qM 5 4,oG 6 5 false (.mov 0),oG 7 5 false (.bin .eql 6 (.c (.str ⟨⟨[116,114,117,101]⟩⟩))),oQ 8 (.pick 5 (.c (.bool true)) 7),qM 9 8,oG 10 9 false (.mov 0),oG 11 9 false (.bin .eql 10 (.c (.str ⟨⟨[102,97,105,108]⟩⟩))),oQ 12 (.pick 9 (.c (.bool true)) 11),qM 13 12,oG 14 13 false (.mov 0),oG 15 13 false (.bin .eql 14 (.c (.str ⟨⟨[105,115]⟩⟩))),oQ 16 (.pick 13 (.c (.bool true)) 15),qM 17 16,oG 18 17 false (.mov 0),oG 19 17 false (.bin .eql 18 (.c (.str ⟨⟨[105,110,116]⟩⟩))),oQ 20 (.pick 17 (.c (.bool true)) 19),qM 21 20,oG 22 21 false (.mov 0),oG 23 21 false (.bin .eql 22 (.c (.str ⟨⟨[103,114,111,117,110,100]⟩⟩))),oQ 24 (.pick 21 (.c (.bool true)) 23),qM 2 24]) .ret))
theorem gZ(hn:ab.length<=25)(h:SP Tryz.prog true ab bs gO [.slot 2] Q):AM.Sem Tryz.prog 113 ab bs Q:=
 oZ (keeps:=[(0,[0]),(1,[2])]) (solo:=[]) Tryz.func113 rfl hn h
def j1:RC:=
 (.seq (rR [0] [oQ 2 (.mov (.c (.bool false)))]) (.seq (rR [2] [qM 3 0,oQ 4 (.bin .geq 3 (.c (.int .u8 65))),qM 5 4,oG 6 5 true (.mov 0),oG 7 5 true (.bin .leq 6 (.c (.int .u8 90))),oQ 8 (.pick 5 7 (.c (.bool false))),qM 2 8]) .ret))
theorem kv(hn:ab.length<=9)(h:SP Tryz.prog true ab bs j1 [.slot 2] Q):AM.Sem Tryz.prog 162 ab bs Q:=
 oZ (keeps:=[(0,[0]),(1,[2])]) (solo:=[]) Tryz.func162 rfl hn h
def ej:RC:=
 (.seq (rR [0] [oQ 2 (.mov (.c (.sl .full [])))]) (.seq (.seq (rR [0,4] [qM 3 0,oQ 4 (.eff (.A5 false) [3])]) (.cond 4 (.seq (rR [2] [oQ 2 (.mov (.c (.sl .full [])))]) .ret) .skip)) (.seq (rR [2] [oQ 5 (.aM 4 []),qM 6 0,oQ 7 (.eff (.oP 4) [5,6]),qM 2 7]) .ret)))
theorem ek(hn:ab.length<=8)(h:SP Tryz.prog true ab bs ej [.slot 2] Q):AM.Sem Tryz.prog 150 ab bs Q:=
 oZ (keeps:=[(0,[0]),(1,[0,4]),(2,[2]),(3,[2]),(1000000,[7])]) (solo:=[]) Tryz.func150 rfl hn h
end Go.CK
namespace Go.CK
open Go.AM Go.Proofs
variable{ab:List AV}{bs:List Box}{Q:AV->List Box->Prop}
def qb:RC:=
 (.seq (rR [1] [oQ 1 (.box 0),oQ 2 (.mov (.c (.bool false)))]) (.seq (rR [1,3] [oQ 4 (.build [(.int .i64 0)] [(0,1,(.c (.int .i64 200)))]),oQ 5 (.box 4),qM 3 5]) (.seq (rR [2] [qF 6 0 1,qL 7 6,oQ 8 (cF 95 [7]),qM 9 8,oG 10 9 true (.aL 1 1),oG 11 9 true (.load false 1 10),oG 12 9 true (.len false 11),oG 13 9 true (.bin .leq 12 (.c (.int .i64 6))),oQ 14 (.pick 9 13 (.c (.bool false))),qM 15 14,oG 16 15 true (.mov 3),oG 17 15 true (.aL 1 1),oG 18 15 true (.load false 1 17),oG 19 15 true (cF 102 [16,18,(.c (.int .i64 20))]),oQ 20 (.pick 15 19 (.c (.bool false))),qM 2 20]) .ret)))
theorem ew(hn:ab.length<=21)(h:SP Tryz.prog true ab bs qb [.slot 2] Q):AM.Sem Tryz.prog 49 ab bs Q:=
 oZ (keeps:=[(0,[1]),(1,[1,3]),(2,[2])]) (solo:=[]) Tryz.func49 rfl hn h
def fY:RC:=
 (.seq (rR [1] [oQ 1 (.box 0),oQ 2 (.mov (.c (.bool false)))]) (.seq (.seq (rR [1,5] [qF 3 0 1,qL 4 3,oQ 5 (.bin .eql 4 (.c (.int .i64 0)))]) (.cond 5 (.seq (rR [2] [qF 6 1 1,qL 7 6,qF 8 2 1,qL 9 8,oQ 10 (.build [(.str ⟨⟨[]⟩⟩),(.sl .full [])] [(0,1,7),(1,1,9)]),oQ 11 (cF 75 [10]),qM 2 11]) .ret) .skip)) (.seq (.reg true [2] [qF 12 1 1,qL 13 12,oQ 14 (.bin .eql 13 (.c (.str ⟨⟨[]⟩⟩))),oQ 15 (.take 14),oG 16 15 true (.aL 0 1),oG 17 15 true (.load false 1 16),oG 18 15 true (cF 163 [17]),oG 19 15 true (.aL 2 1),oG 20 15 true (.load false 1 19),oG 21 15 true (.len false 20),oG 22 15 true (.bin .eql 18 21),oQ 23 (.pick 15 22 (.c (.bool false))),oQ 24 (.take 23),oG 25 24 true (.aL 2 1),oG 26 24 true (.load false 1 25),oG 27 24 true (cF 135 [26]),oQ 28 (.pick 24 27 (.c (.bool false))),oQ 2 (.take 28)]) .ret)))
theorem a6(hn:ab.length<=29)(h:SP Tryz.prog true ab bs fY [.slot 2] Q):AM.Sem Tryz.prog 116 ab bs Q:=
 oZ (keeps:=[(0,[1]),(1,[1,5]),(2,[2]),(3,[2])]) (solo:=[]) Tryz.func116 rfl hn h
def fZ:RC:=
 (.seq (rR [1] [oQ 1 (.box 0),oQ 2 (.mov (.c (.bool false)))]) (.seq (rR [2] [qF 3 0 1,qL 4 3,oQ 5 (cF 61 [4]),qM 6 5,oG 7 6 true (.aL 1 1),oG 8 6 true (.load false 1 7),oG 9 6 true (.len false 8),oG 10 6 true (.bin .leq 9 (.c (.int .i64 6))),oQ 11 (.pick 6 10 (.c (.bool false))),qM 12 11,oG 13 12 true (.aL 1 1),oG 14 12 true (.load false 1 13),oG 15 12 true (cF 135 [14]),oQ 16 (.pick 12 15 (.c (.bool false))),qM 2 16]) .ret))
theorem bO(hn:ab.length<=17)(h:SP Tryz.prog true ab bs fZ [.slot 2] Q):AM.Sem Tryz.prog 75 ab bs Q:=
 oZ (keeps:=[(0,[1]),(1,[2])]) (solo:=[]) Tryz.func75 rfl hn h
def fW:RC:=
 (.seq (rR [0] [oQ 2 (.mov (.c (.bool false)))]) (.seq (rR [0,3] [oQ 3 (.mov (.c (.int .i64 0)))]) (.seq (.seq (rR [0,3,4] [oQ 4 (.mov (.c (.int .i64 0)))]) (.block 0 (.loop (.seq (.seq (rR [0,3,4,8] [qM 5 4,qM 6 0,oQ 7 (.len false 6),oQ 8 (.bin .lss 5 7)]) (.cond 8 .skip (.exit 0))) (.seq (.block 1 (.seq (.seq (rR [0,3,4,16] [qM 11 0,qM 12 4,qI 13 4 11 12,qA 14 4 13,oQ 15 (cF 184 [14]),oQ 16 (.un .not 15)]) (.cond 16 (.seq (rR [2] [oQ 2 (.mov (.c (.bool false)))]) .ret) .skip)) (rR [0,3,4] [qM 17 3,qM 18 0,qM 19 4,qI 20 4 18 19,qA 21 4 20,oQ 22 (cF 185 [21]),oQ 23 (.bin .add 17 22),qM 3 23]))) (rR [0,3,4] [qM 9 4,oQ 10 (.bin .add 9 (.c (.int .i64 1))),qM 4 10])))))) (.seq (rR [2] [qM 24 3,oQ 25 (.bin .leq 24 (.c (.int .i64 200))),qM 2 25]) .ret))))
theorem ga(hn:ab.length<=26)(h:SP Tryz.prog true ab bs fW [.slot 2] Q):AM.Sem Tryz.prog 135 ab bs Q:=
 oZ (keeps:=[(0,[0]),(1,[0,3]),(2,[0,3,4]),(3,[0,3,4,8]),(5,[0,3,4,16]),(6,[2]),(7,[0,3,4]),(4,[0,3,4]),(8,[2])]) (solo:=[]) Tryz.func135 rfl hn h
def j0:RC:=
 (.seq (rR [0] [oQ 2 (.mov (.c (.int .i64 0)))]) (.seq (.block 0 (.seq (rR [0,3] [qM 4 0,oQ 5 (.bin .eql 4 (.c (.int .i64 1))),qM 6 5,oG 7 6 false (.mov 0),oG 8 6 false (.bin .eql 7 (.c (.int .i64 2))),oQ 9 (.pick 6 (.c (.bool true)) 8),qM 3 9]) (.cond 3 (.seq (rR [2] [oQ 2 (.mov (.c (.int .i64 0)))]) .ret) (.seq (rR [0,10] [qM 11 0,oQ 12 (.bin .eql 11 (.c (.int .i64 11))),qM 13 12,oG 14 13 false (.mov 0),oG 15 13 false (.bin .eql 14 (.c (.int .i64 12))),oQ 16 (.pick 13 (.c (.bool true)) 15),qM 10 16]) (.cond 10 (.seq (rR [2] [oQ 2 (.mov (.c (.int .i64 1)))]) .ret) (.seq (rR [17] [qM 18 0,oQ 19 (.bin .gtr 18 (.c (.int .i64 2))),qM 20 19,oG 21 20 true (.mov 0),oG 22 20 true (.bin .lss 21 (.c (.int .i64 11))),oQ 23 (.pick 20 22 (.c (.bool false))),qM 17 23]) (.cond 17 (.seq (rR [2] [oQ 2 (.mov (.c (.int .i64 2)))]) .ret) .skip))))))) (.seq (rR [2] [oQ 2 (.mov (.c (.int .i64 (-1))))])
 .ret)))
theorem ku(hn:ab.length<=24)(h:SP Tryz.prog true ab bs j0 [.slot 2] Q):AM.Sem Tryz.prog 163 ab bs Q:=
 oZ (keeps:=[(0,[0]),(1,[0,3]),(3,[0,10]),(5,[17]),(6,[2]),(4,[2]),(2,[2]),(7,[2])]) (solo:=[]) Tryz.func163 rfl hn h
def fD:RC:=
 (.seq (rR [0,1] [oQ 4 (.mov (.c (.bool false)))]) (.seq (.seq (rR [0,1,5] [oQ 5 (.mov (.c (.int .i64 0)))]) (.block 0 (.loop (.seq (.seq (rR [0,1,5,13] [qM 6 5,qM 7 0,oQ 8 (.len false 7),oQ 9 (.bin .lss 6 8),qM 10 9,oG 11 10 true (.mov 1),oG 12 10 true (.bin .geq 11 (.c (.int .i64 0))),oQ 13 (.pick 10 12 (.c (.bool false)))]) (.cond 13 .skip (.exit 0))) (.seq (.block 1 (.reg true [0,1,5] [qM 16 0,qM 17 5,qI 18 3 16 17,qF 19 2 18,qL 20 19,qM 21 1,oQ 22 (.bin .sub 21 (.c (.int .i64 1))),qM 23 0,qM 24 5,qI 25 3 23 24,qF 26 1 25,qL 27 26,oQ 28 (.len true 27),oQ 29 (.bin .quo 28 (.c (.int .i64 8))),oQ 30 (.bin .sub 22 29),oQ 31 (cF 93 [20,30,(.c (.int .i64 64))]),oQ 1 (.take 31)])) (rR [0,1,5] [qM 14 5,oQ 15 (.bin .add 14 (.c (.int .i64 1))),qM 5 15])))))) (.seq (rR [4] [qM 32 1,oQ 33 (.bin .lss 32 (.c (.int .i64 0))),qM 4 33]) .ret)))
theorem fG(hn:ab.length<=34)(h:SP Tryz.prog true ab bs fD [.slot 4] Q):AM.Sem Tryz.prog 171 ab bs Q:=
 oZ (keeps:=[(0,[0,1]),(1,[0,1,5]),(2,[0,1,5,13]),(4,[0,1,5]),(3,[0,1,5]),(5,[4])]) (solo:=[]) Tryz.func171 rfl hn h
def lV:RC:=
 (.seq (rR [0,2] [oQ 2 (.box (.c (.agg [(.int .i64 0),(.int .i64 0),(.str ⟨⟨[]⟩⟩),(.sl .full [])])))]) (.seq (rR [2] [qM 3 0,oQ 4 (.build [(.int .i64 0),(.int .i64 0),(.str ⟨⟨[]⟩⟩),(.sl .full [])] [(0,1,(.c (.int .i64 0))),(1,1,3)]),oN (.store 4 2 4)]) .ret))
theorem l3(hn:ab.length<=5)(h:SP Tryz.prog true ab bs lV [.cell 2 true 4] Q):AM.Sem Tryz.prog 60 ab bs Q:=
 oZ (keeps:=[(0,[0,2]),(1,[2])]) (solo:=[]) Tryz.func60 rfl hn h
def lU:RC:=
 (.seq (rR [0,2] [oQ 2 (.box (.c (.agg [(.int .i64 0),(.int .i64 0),(.str ⟨⟨[]⟩⟩),(.sl .full [])])))]) (.seq (rR [2] [qM 3 0,oQ 4 (.build [(.int .i64 0),(.int .i64 0),(.str ⟨⟨[]⟩⟩),(.sl .full [])] [(0,1,(.c (.int .i64 1))),(1,1,3)]),oN (.store 4 2 4)]) .ret))
theorem l1(hn:ab.length<=5)(h:SP Tryz.prog true ab bs lU [.cell 2 true 4] Q):AM.Sem Tryz.prog 59 ab bs Q:=
 oZ (keeps:=[(0,[0,2]),(1,[2])]) (solo:=[]) Tryz.func59 rfl hn h
end Go.CK
