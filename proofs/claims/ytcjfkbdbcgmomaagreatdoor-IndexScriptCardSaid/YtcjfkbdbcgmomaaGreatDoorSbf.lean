/-
  Texts of this aV joined (wip/gen/bundle.py),those declarations only that are needed:IxLd IxLe RcIxd LayK IxIa. By an AI agent.
-/
import Derived.Test.YtcjfkbdbcgmomaaGreatDoorSbe
set_option linter.unusedSimpArgs false
set_option linter.unusedVariables false
set_option maxRecDepth 100000
namespace Go.CK
open Go.AM Go.Proofs
def ou:List Ac:=[⟨⟨⟨[101]⟩⟩,2,[0]⟩,⟨⟨⟨[101]⟩⟩,2,[]⟩]
def exL:List It:=[eI 1 ⟨⟨[97]⟩⟩ ⟨⟨[98]⟩⟩,eI 2 ⟨⟨[97]⟩⟩ ⟨⟨[99]⟩⟩,eI 4 ⟨⟨[98]⟩⟩ ⟨⟨[98]⟩⟩]
theorem exOk:(dz exL&&ou.all Ac.right)=true:=by kernel_rfl
theorem Ls:(dz []&&[(⟨⟨⟨[101]⟩⟩,2,[2]⟩:Ac)].all Ac.right)=false:=by kernel_rfl
theorem Lr:(exL.all iX&&ou.all jh)=true:=by kernel_rfl
theorem exF1:js ou exL 0 [sh ⟨⟨[97]⟩⟩]=[1,2]:=by kernel_rfl
theorem exF2:js ou exL 1 []=[1,2,4]:=by kernel_rfl
theorem exI1:ed exL (eI 3 ⟨⟨[97]⟩⟩ ⟨⟨[97]⟩⟩)=0:=by kernel_rfl
theorem exI2:ed (aY exL (eI 3 ⟨⟨[97]⟩⟩ ⟨⟨[97]⟩⟩)) (eI 3 ⟨⟨[98]⟩⟩ ⟨⟨[97]⟩⟩)=8:=by kernel_rfl
theorem exF3:js ou (aY exL (eI 3 ⟨⟨[97]⟩⟩ ⟨⟨[97]⟩⟩)) 0 [sh ⟨⟨[97]⟩⟩]=[1,2,3]:=by kernel_rfl
theorem exD1:hO (aY exL (eI 3 ⟨⟨[97]⟩⟩ ⟨⟨[97]⟩⟩)) 1=true:=by kernel_rfl
theorem exD2:hO (dN (aY exL (eI 3 ⟨⟨[97]⟩⟩ ⟨⟨[97]⟩⟩)) 1) 1=false:=by kernel_rfl
theorem exD3:(dN (dN (aY exL (eI 3 ⟨⟨[97]⟩⟩ ⟨⟨[97]⟩⟩)) 1) 1).length=3:=by kernel_rfl
theorem exIo:∀i∈exL,Tm.ios i.atom.args:=by
 intro i hi;simp[exL] at hi;rcases hi with rfl|rfl|rfl<;>simp[eI,sh,Tm.ios,Tm.io,cz]
theorem KO(id:Int):iX (eI id ⟨⟨[97]⟩⟩ ⟨⟨[97]⟩⟩)=true/\iX (eI id ⟨⟨[98]⟩⟩ ⟨⟨[97]⟩⟩)=true/\iX (eI id ⟨⟨[97]⟩⟩ ⟨⟨[98]⟩⟩)=true:=by
 have h1:iX (eI 0 ⟨⟨[97]⟩⟩ ⟨⟨[97]⟩⟩)=true:=by kernel_rfl
 have h2:iX (eI 0 ⟨⟨[98]⟩⟩ ⟨⟨[97]⟩⟩)=true:=by kernel_rfl
 have h3:iX (eI 0 ⟨⟨[97]⟩⟩ ⟨⟨[98]⟩⟩)=true:=by kernel_rfl
 exact⟨h1,h2,h3⟩
theorem JT(id:Int)(a b:ByteArray):Tm.ios (eI id a b).atom.args:=by simp[eI,sh,Tm.ios,Tm.io,cz]
set_option maxHeartbeats 2000000 in
theorem yq:Fun Tryz.prog 10 [] (.bool true):=by
 have hal:=exOk;rw[zD] at hal;have hfw:=Lr;rw[zD] at hfw;have hr:∀a∈ou,a.right=true:=λa ha=>zT.1 hal.2 a ha;have hfa:∀a∈ou,jh a=true:=λa ha=>zT.1 hfw.2 a ha;have hA0:c7 ou exL:=w9 hr hfa (λi hi=>⟨zT.1 hfw.1 i hi,exIo i hi⟩) (mY hal.1) (by decide) (by decide)
 have e1:=uq 1 ⟨⟨[97]⟩⟩ ⟨⟨[98]⟩⟩;have e2:=uq 2 ⟨⟨[97]⟩⟩ ⟨⟨[99]⟩⟩;have e4:=uq 4 ⟨⟨[98]⟩⟩ ⟨⟨[98]⟩⟩;have ha:=Ae ⟨⟨[97]⟩⟩ [] (by simp)
 refine Fun.of (eM (by simp) ?_) rfl rfl
 conv=>whnf
 try dsimp only
 repeat' (refine gF ?_;first|refine ah.fn (e1) ?_|refine ah.fn (e2) ?_|refine ah.fn (e4) ?_)<;>(conv=>whnf;try dsimp only)
 refine ah.of (tJ (V:=λ_=>False) (bs:=[]) (its:=exL) (l:=ou) (λ_ h=>h.elim) hA0 hr hal.1 (by intro i hi;simp[exL] at hi;rcases hi with rfl|rfl|rfl<;>simp[eI])) ?_
 rintro r b1 ⟨rfl,hI1,_⟩
 have hs:∀a:List Int,Fun Tryz.prog 17 [slA bF a,slA bF a] (.bool true):=λa=>by
  have:=mW (a:=a) (b:=a);simpa using this
 have hs1:=hs [1,2];have hs2:=hs [1,2,4];have hs3:=hs [1,2,3];have hbad:=qC (l:=[]) (acc:=[⟨⟨⟨[101]⟩⟩,2,[2]⟩]) (by decide) (by simp) (by decide) (by simp) Ls
 have hio:Tm.ios [sh ⟨⟨[97]⟩⟩]:=by simp[sh,Tm.ios,Tm.io,cz]
 have hkl:(bh [sh ⟨⟨[97]⟩⟩]).length<=100000000:=by
  have h:Nat.ble (bh [sh ⟨⟨[97]⟩⟩]).length 100=true:=by kernel_rfl
  have:=zt h;omega
 conv=>whnf
 try dsimp only
 repeat' (first|refine gF (ah.fn (ha) ?_)|(refine gC ?_;first|refine cN ?_|refine .not ?_|refine gD (cI ?_)))<;>(conv=>whnf;try dsimp only)
 refine ah.of (dZ (k:=0) (key:=[sh ⟨⟨[97]⟩⟩]) hI1 hA0 hio hkl (by simp)) ?_
 rintro r b2 ⟨rfl,rfl⟩;rw[exF1]
 conv=>whnf
 try dsimp only
 repeat' (first|refine gF (ah.fn (hs1) ?_)|(refine gC ?_;first|refine cY ?_|refine .not ?_|refine gD (cI ?_)))<;>(conv=>whnf;try dsimp only)
 refine ah.of (dZ (k:=1) (key:=[]) hI1 hA0 trivial (by simp[bh]) (by simp)) ?_
 rintro r b3 ⟨rfl,rfl⟩;rw[exF2];have e3:=uq 3 ⟨⟨[97]⟩⟩ ⟨⟨[97]⟩⟩;have e3b:=uq 3 ⟨⟨[98]⟩⟩ ⟨⟨[97]⟩⟩;obtain⟨f3,f3b,_⟩:=KO 3;have hE3:=qU hr hfa f3 (JT 3 ⟨⟨[97]⟩⟩ ⟨⟨[97]⟩⟩);have hE3b:=qU hr hfa f3b (JT 3 ⟨⟨[98]⟩⟩ ⟨⟨[97]⟩⟩);have hA1:c7 ou (aY exL (eI 3 ⟨⟨[97]⟩⟩ ⟨⟨[97]⟩⟩)):=hA0.ins hE3 (by kernel_rfl) (by decide)
 conv=>whnf
 try dsimp only
 repeat' (first|(refine gF ?_;first|refine ah.fn (hs2) ?_|refine ah.fn (hbad) ?_|refine ah.fn (e3) ?_)|(refine gC ?_;first|refine cY ?_|refine .not ?_))<;>(conv=>whnf;try dsimp only)
 refine ah.of (nu (V:=λ_=>False) hI1 (λ_ h=>h.elim) hA0 hE3 (by simp[eI])) ?_
 rintro r b4 ⟨rfl,hI4,_,_⟩;rw[exI1] at hI4|-;rw[if_pos rfl] at hI4
 conv=>whnf
 try dsimp only
 repeat' (first|refine gF (ah.fn (e3b) ?_)|refine gC (gD (cI ?_)))<;>(conv=>whnf;try dsimp only)
 refine ah.of (nu (V:=λ_=>False) hI4 (λ_ h=>h.elim) hA1 hE3b (by simp[eI])) ?_
 rintro r b5 ⟨rfl,hI5,_,_⟩;rw[exI2] at hI5|-;rw[if_neg (by decide)] at hI5
 conv=>whnf
 try dsimp only
 repeat' (first|refine gF (ah.fn (ha) ?_)|refine gC (gD (cI ?_)))<;>(conv=>whnf;try dsimp only)
 refine ah.of (dZ (k:=0) (key:=[sh ⟨⟨[97]⟩⟩]) hI5 hA1 hio hkl (by simp)) ?_
 rintro r b6 ⟨rfl,rfl⟩;rw[exF3]
 conv=>whnf
 try dsimp only
 repeat' (first|refine gF (ah.fn (hs3) ?_)|(refine gC ?_;first|refine cY ?_|refine gD (cI ?_)))<;>(conv=>whnf;try dsimp only)
 refine ah.of (nv (V:=λ_=>False) (id:=1) hI5 (λ_ h=>h.elim) hA1) ?_;rintro r b7 ⟨rfl,hI7,_,_⟩;rw[exD1]
 conv=>whnf
 try dsimp only
 repeat' refine gC (cY ?_)<;>(conv=>whnf;try dsimp only)
 refine ah.of (nv (V:=λ_=>False) (id:=1) hI7 (λ_ h=>h.elim) (hA1.del 1)) ?_;rintro r b8 ⟨rfl,hI8,_,_⟩;rw[exD2]
 conv=>whnf
 try dsimp only
 repeat' (refine gC ?_;first|refine cY ?_|refine cN ?_|refine .not ?_)<;>(conv=>whnf;try dsimp only)
 refine ah.of (oU hI8 ((hA1.del 1).del 1)) ?_;rintro r b9 ⟨rfl,_⟩;have hl3:=exD3
 conv=>whnf
 try dsimp only
 repeat' (first|(refine gC ?_;first|refine cN ?_|refine .not ?_|refine gD (cI ?_))|refine gL (.map ?_))<;>(conv=>whnf;try dsimp only)
 exact⟨_,au.refl _,.inl rfl⟩
end Go.CK
namespace Go.CK
open Go.AM Go.Proofs
theorem Fx{l:List It}{i:It}(h:ed l i=0):hO l i.id=false/\l.length<500:=by
 unfold ed at h;split at h
 .cases h
 .split at h
  .cases h
  .split at h
   .cases h
   .split at h
    .cases h
    .rename_i h1 h2 h3 h4;exact⟨by simpa using h3,by omega⟩
theorem DB{l:List It}{acc:List Ac}{ops:List cP}(h:HZ l acc ops=true):l.length<=15/\acc.length<=6/\ops.length<=30/\(∀i∈l,iX i=true)/\(∀a∈acc,jh a=true)/\∀o∈ops,ly o=true:=by
 simp only[HZ,zD,decide_eq_true_eq,zT] at h;exact⟨h.1,h.2.1,h.2.2.1,h.2.2.2.1,h.2.2.2.2.1,h.2.2.2.2.2⟩
theorem oY{o:cP}(h:ly o=true)(hio:Tm.ios o.key):iX o.item=true/\(bh o.key).length<=100000000/\o.key.length<=30:=by
 simp only[ly,zD,decide_eq_true_eq,zc,decide_eq_false_iff_not] at h;have h1:=Int.not_lt.1 h.2.2.1;have h2:=vA hio (by omega) h1
 refine⟨h.2.1,by omega,?_⟩
 unfold bg at h1;split at h1
 .omega
 .rename_i hc;omega
end Go.CK
namespace Go.CK
open Go.AM Go.Proofs
variable{ae:List AV}{bs:List Box}{Q:AV->List Box->Prop}
def lP:RC:=
 (.seq (rR [2,3,4] [oQ 3 (.box 0),oQ 4 (.box 1),oQ 6 (.mov (.c (.bool false)))]) (.seq (.seq (rR [2,3,4,28] [qF 8 0 4,qL 9 8,qF 10 0 3,qL 11 10,oQ 12 (.bin .neq 9 11),qM 13 12,oG 14 13 false (.bn 1 4),oG 15 13 false (.load false 1 14),oG 16 13 false (.len false 15),oG 17 13 false (.bn 1 3),oG 18 13 false (.load false 1 17),oG 19 13 false (.bin .neq 16 18),oQ 20 (.pick 13 (.c (.bool true)) 19),qM 21 20,oG 22 21 false (.mov 2),oG 23 21 false (.len false 22),oG 24 21 false (.bn 2 3),oG 25 21 false (.load false 1 24),oG 26 21 false (.len false 25),oG 27 21 false (.bin .neq 23 26),oQ 28 (.pick 21 (.c (.bool true)) 27)]) (.cond 28 (.seq (rR [6] [oQ 6 (.mov (.c (.bool false)))]) .ret) .skip)) (.seq (.seq (rR [2,3,4,7] [oQ 7 (.mov (.c (.int .i64 0)))]) (.block 0 (.loop (.seq (.seq (rR [2,3,4,7,32] [qM 29 7,qM 30 2,oQ 31 (.len false 30),oQ 32 (.bin .lss 29 31)])
 (.cond 32 .skip (.exit 0))) (.seq (.block 1 (.seq (.reg true [2,3,4,7,49] [qF 35 1 4,qL 36 35,qF 37 2 3,qL 38 37,qM 39 7,qI 40 1 38 39,qL 41 40,qI 42 4 36 41,qA 43 4 42,qM 44 2,qM 45 7,qI 46 4 44 45,qA 47 4 46,oQ 48 (cF 189 [43,47]),oQ 49 (.un .not 48)]) (.cond 49 (.seq (rR [6] [oQ 6 (.mov (.c (.bool false)))]) .ret) .skip))) (rR [2,3,4,7] [qM 33 7,oQ 34 (.bin .add 33 (.c (.int .i64 1))),qM 7 34])))))) (.seq (rR [6] [oQ 6 (.mov (.c (.bool true)))]) .ret))))
theorem bI(hn:ae.length<=50)(h:SP Tryz.prog true ae bs lP [.slot 6] Q):AM.Sem Tryz.prog 142 ae bs Q:=
 oZ (keeps:=[(0,[2,3,4]),(1,[2,3,4,28]),(2,[6]),(3,[2,3,4,7]),(4,[2,3,4,7,32]),(6,[2,3,4,7,49]),(7,[6]),(5,[2,3,4,7]),(8,[6])]) (solo:=[]) Tryz.func142 rfl hn h
def LL:RC:=
 (.seq (rR [0,1] [oQ 4 (.mov (.c .cU)),oQ 5 (.mov (.c (.int .i64 0)))]) (.seq (.seq (rR [0,1,10] [qM 8 0,oQ 9 (cF 26 [8]),oQ 10 (.un .not 9)]) (.cond 10 (.seq (rR [4,5] [oQ 4 (.mov (.c .cU)),oQ 5 (.mov (.c (.int .i64 2)))]) .ret) .skip)) (.seq (.seq (rR [0,1,6] [oQ 6 (.mov (.c (.int .i64 0)))]) (.block 0 (.loop (.seq (.seq (rR [0,1,6,14] [qM 11 6,qM 12 1,oQ 13 (.len false 12),oQ 14 (.bin .lss 11 13)]) (.cond 14 .skip (.exit 0))) (.seq (.block 1 (.seq (rR [0,1,6,22] [qM 17 1,qM 18 6,qI 19 3 17 18,qA 20 3 19,oQ 21 (cF 84 [20]),oQ 22 (.un .not 21)]) (.cond 22 (.seq (rR [4,5] [oQ 4 (.mov (.c .cU)),oQ 5 (.mov (.c (.int .i64 2)))]) .ret) .skip))) (rR [0,1,6] [qM 15 6,oQ 16 (.bin .add 15 (.c (.int .i64 1))),qM 6 16])))))) (.seq (rR [0,1,7] [oQ 23 (.build [(.sl .full []),(.sl .full [])] []),oQ 24 (.box 23),qM 7 24]) (.seq (rR [0,7] [qM 25 7,qM 26 7,qK 27 26,qF 28 0 27,qL 29 28,qM 30 1,oQ 31 (.append 3 29 30),qK 32 25,qF 33 0 32,oN (.store 1 33 31)])
 (.seq (rR [7] [qM 34 7,qM 35 7,qK 36 35,qF 37 1 36,qL 38 37,qM 39 0,oQ 40 (.append 3 38 39),qK 41 34,qF 42 1 41,oN (.store 1 42 40)]) (.seq (rR [4,5] [qM 43 7,qM 4 43,oQ 5 (.mov (.c (.int .i64 0)))]) .ret)))))))
def eD:RC:=
 (.seq (rR [0,1] [oQ 4 (.mov (.c (.int .i64 0)))]) (.seq (rR [0,1,5] [oQ 5 (.mov (.c (.int .i64 0)))]) (.seq (.block 0 (.loop (.seq (.seq (rR [0,1,5,24] [qM 6 5,qM 7 0,qK 8 7,qF 9 1 8,qL 10 9,oQ 11 (.len false 10),oQ 12 (.bin .lss 6 11),qM 13 12,oG 14 13 true (.mov 0),oG 15 13 true (.mJ 14),oG 16 13 true (.bn 1 15),oG 17 13 true (.load false 1 16),oG 18 13 true (.mov 5),oG 19 13 true (.idx 3 17 18),oG 20 13 true (.bn 0 19),oG 21 13 true (.load false 1 20),oG 22 13 true (.mov 1),oG 23 13 true (.bin .lss 21 22),oQ 24 (.pick 13 23 (.c (.bool false)))]) (.cond 24 .skip (.exit 0))) (.block 1 (rR [0,1,5] [qM 25 5,oQ 26 (.bin .add 25 (.c (.int .i64 1))),qM 5 26]))))) (.seq (rR [4] [qM 27 5,qM 4 27]) .ret))))
def eo:RC:=
 (.seq (rR [0,3] [oQ 3 (.box 1),oQ 4 (.mov (.c (.int .i64 0)))]) (.seq (.seq (rR [0,3,8] [qM 7 0,oQ 8 (.more (.eqP false) [7,(.c .cU)])]) (.cond 8 (.seq (rR [4] [oQ 4 (.mov (.c (.int .i64 1)))]) .ret) .skip)) (.seq (.seq (rR [0,3,17] [qF 9 0 3,qL 10 9,oQ 11 (.bin .lss 10 (.c (.int .i64 1))),qM 12 11,oG 13 12 false (.bn 1 3),oG 14 12 false (.load true 2 13),oG 15 12 false (cF 75 [14]),oG 16 12 false (.un .not 15),oQ 17 (.pick 12 (.c (.bool true)) 16)]) (.cond 17 (.seq (rR [4] [oQ 4 (.mov (.c (.int .i64 2)))]) .ret) .skip)) (.seq (rR [0,3,5] [qM 18 0,qF 19 0 3,qL 20 19,oQ 21 (cF 140 [18,20]),qM 5 21]) (.seq (.seq (.reg true [0,3,5,41] [oQ 22 (.take 5),oQ 23 (.take 0),qK 24 23,qF 25 1 24,qL 26 25,oQ 27 (.len false 26),oQ 28 (.bin .lss 22 27),oQ 29 (.take 28),oG 30 29 true (.take 0),oG 31 29 true (.mJ 30),oG 32 29 true (.bn 1 31),oG 33 29 true (.load false 1 32),oG 34 29 true (.take 5),oG 35 29 true (.idx 3 33 34),oG 36 29 true (.bn 0 35),oG 37 29 true (.load false 1 36),oG 38 29 true (.bn 0 3),oG 39 29 true (.load false 1 38),oG 40 29 true (.bin .eql 37 39),oQ 41 (.pick 29 40 (.c (.bool false)))])
 (.cond 41 (.seq (rR [4] [oQ 4 (.mov (.c (.int .i64 8)))]) .ret) .skip)) (.seq (.seq (rR [0,3,5,47] [qM 42 0,qK 43 42,qF 44 1 43,qL 45 44,oQ 46 (.len false 45),oQ 47 (.bin .geq 46 (.c (.int .i64 500)))]) (.cond 47 (.seq (rR [4] [oQ 4 (.mov (.c (.int .i64 6)))]) .ret) .skip)) (.seq (rR [0,3,5,6] [oQ 6 (.mov (.c (.sl .full [])))]) (.seq (rR [0,3,5,6] [qM 48 6,qM 49 0,qK 50 49,qF 51 1 50,qL 52 51,qM 53 5,oQ 54 (.slc 3 52 none (some 53) none),oQ 55 (.append 3 48 54),qM 6 55]) (.seq (rR [0,5,6] [qM 56 6,qA 57 3 3,oQ 58 (.aZ 3 [57]),oQ 59 (.append 3 56 58),qM 6 59]) (.seq (rR [] [qM 60 0,qM 61 6,qM 62 0,qK 63 62,qF 64 1 63,qL 65 64,qM 66 5,oQ 67 (.slc 3 65 (some 66) none none),oQ 68 (.append 3 61 67),qK 69 60,qF 70 1 69,oN (.store 1 70 68)]) (.seq (rR [4] [oQ 4 (.mov (.c (.int .i64 0)))]) .ret)))))))))))
def ep:RC:=
 (.seq (rR [0,1] [oQ 4 (.mov (.c (.bool false)))]) (.seq (.seq (rR [0,1,8] [qM 7 0,oQ 8 (.more (.eqP false) [7,(.c .cU)])]) (.cond 8 (.seq (rR [4] [oQ 4 (.mov (.c (.bool false)))]) .ret) .skip)) (.seq (rR [0,5,6] [qM 10 0,qK 11 10,qF 12 1 11,qL 13 12,qM 14 1,oQ 15 (cF 141 [13,14]),qM 9 15,oQ 16 (.ext 0 9),oQ 17 (.ext 1 9),qM 5 16,qM 6 17]) (.seq (rR [6] [qM 18 0,qM 19 5,qK 20 18,qF 21 1 20,oN (.store 1 21 19)]) (.seq (rR [4] [qM 22 6,qM 4 22]) .ret)))))
def e8:RC:=
 (.seq (rR [0,1,2] [oQ 6 (.mov (.c (.sl .full [])))]) (.seq (.seq (rR [0,1,2,23] [qM 9 0,oQ 10 (.more (.eqP false) [9,(.c .cU)]),qM 11 10,oG 12 11 false (.mov 1),oG 13 11 false (.bin .lss 12 (.c (.int .i64 0))),oQ 14 (.pick 11 (.c (.bool true)) 13),qM 15 14,oG 16 15 false (.mov 1),oG 17 15 false (.mov 0),oG 18 15 false (.mJ 17),oG 19 15 false (.bn 0 18),oG 20 15 false (.load false 1 19),oG 21 15 false (.len false 20),oG 22 15 false (.bin .geq 16 21),oQ 23 (.pick 15 (.c (.bool true)) 22)]) (.cond 23 (.seq (rR [6] [oQ 6 (.mov (.c (.sl .full [])))]) .ret) .skip)) (.seq (rR [0,1,2,7] [oQ 7 (.mov (.c (.sl .full [])))]) (.seq (.seq (rR [0,1,2,7,8] [oQ 8 (.mov (.c (.int .i64 0)))]) (.block 0 (.loop (.seq (.seq (rR [0,1,2,7,8,30] [qM 24 8,qM 25 0,qK 26 25,qF 27 1 26,qL 28 27,oQ 29 (.len false 28),oQ 30 (.bin .lss 24 29)]) (.cond 30 .skip (.exit 0)))
 (.seq (.block 1 (.seq (.reg true [0,1,2,7,8,49] [qM 33 0,qK 34 33,qF 35 0 34,qL 36 35,qM 37 1,qI 38 3 36 37,qA 39 3 38,qM 40 0,qK 41 40,qF 42 1 41,qL 43 42,qM 44 8,qI 45 3 43 44,qF 46 1 45,qA 47 2 46,qM 48 2,oQ 49 (cF 142 [39,47,48])]) (.cond 49 (rR [0,1,2,7,8] [qM 50 7,qM 51 0,qK 52 51,qF 53 1 52,qL 54 53,qM 55 8,qI 56 3 54 55,qF 57 0 56,qL 58 57,oQ 59 (.aZ 1 [58]),oQ 60 (.append 1 50 59),qM 7 60]) .skip))) (rR [0,1,2,7,8] [qM 31 8,oQ 32 (.bin .add 31 (.c (.int .i64 1))),qM 8 32])))))) (.seq (rR [6] [qM 61 7,qM 6 61]) .ret)))))
def eF:RC:=
 (.seq (.seq (rR [0,1,7] [qM 6 0,oQ 7 (.more (.eqP false) [6,(.c .cU)])]) (.cond 7 .ret .skip)) (.seq (rR [0,1,4] [oQ 4 (.mov (.c (.sl .full [])))]) (.seq (.seq (rR [0,1,4,5] [oQ 5 (.mov (.c (.int .i64 0)))]) (.block 0 (.loop (.seq (.seq (rR [0,1,4,5,14] [qM 8 5,qM 9 0,qK 10 9,qF 11 1 10,qL 12 11,oQ 13 (.len false 12),oQ 14 (.bin .lss 8 13)]) (.cond 14 .skip (.exit 0))) (.seq (.block 1 (.reg true [0,1,4,5] [oQ 17 (.take 4),qM 18 0,qK 19 18,qF 20 1 19,qL 21 20,qM 22 5,qI 23 3 21 22,qF 24 0 23,qL 25 24,qM 26 1,qM 27 0,qK 28 27,qF 29 1 28,qL 30 29,qM 31 5,qI 32 3 30 31,qF 33 1 32,qA 34 2 33,oQ 35 (cF 143 [26,34]),oQ 36 (.build [(.int .i64 0),(.str ⟨⟨[]⟩⟩),(.sl .full [])] [(0,1,25),(1,2,35)]),oQ 37 (.aZ 3 [36]),oQ 38 (.append 3 17 37),oQ 4 (.take 38)])) (rR [0,1,4,5] [qM 15 5,oQ 16 (.bin .add 15 (.c (.int .i64 1))),qM 5 16]))))))
 (rR [] [qM 39 0,qM 40 4,qK 41 39,qF 42 1 41,oN (.store 1 42 40)]))))
def eE:RC:=
 (.seq (rR [0] [oQ 2 (.mov (.c (.sl .full [])))]) (.seq (rR [0,3] [oQ 3 (.mov (.c (.sl .full [])))]) (.seq (.seq (rR [0,3,5] [qM 4 0,oQ 5 (.more (.eqP true) [4,(.c .cU)])]) (.cond 5 (rR [3] [qM 6 3,qM 7 0,qK 8 7,qF 9 1 8,qL 10 9,oQ 11 (.append 3 6 10),qM 3 11]) .skip)) (.seq (rR [2] [qM 12 3,qM 2 12]) .ret))))
def fX:RC:=
 (.seq (rR [0,3,4] [oQ 3 (.box 1),oQ 4 (.box (.c (.agg [(.str ⟨⟨[]⟩⟩),(.sl .full [])])))]) (.seq (.reg true [4] [qF 5 0 3,qL 6 5,oQ 7 (.take 0),qF 8 1 3,qL 9 8,oQ 10 (cF 190 [7,9]),oQ 11 (.build [(.str ⟨⟨[]⟩⟩),(.sl .full [])] [(0,1,6),(1,1,10)]),oN (.store 2 4 11)]) .ret))
theorem ga(hn:ae.length<=12)(h:SP Tryz.prog true ae bs fX [.cell 4 true 2] Q):AM.Sem Tryz.prog 143 ae bs Q:=
 oZ (keeps:=[(0,[0,3,4]),(1,[4])]) (solo:=[]) Tryz.func143 rfl hn h
def oM:RC:=
 (.seq (rR [0,3,4] [oQ 3 (.box 1),oQ 4 (.box (.c (.agg [(.str ⟨⟨[]⟩⟩),(.sl .full [])])))]) (.seq (rR [3,4] [qM 5 0,qF 6 1 3,qL 7 6,oQ 8 (cF 144 [5,7]),qF 9 1 3,oN (.store 1 9 8)]) (.seq (rR [4] [qA 10 2 3,oN (.store 2 4 10)]) .ret)))
theorem oP(hn:ae.length<=11)(h:SP Tryz.prog true ae bs oM [.cell 4 true 2] Q):AM.Sem Tryz.prog 90 ae bs Q:=
 oZ (keeps:=[(0,[0,3,4]),(1,[3,4]),(2,[4])]) (solo:=[]) Tryz.func90 rfl hn h
def jH:RC:=
 (.seq (rR [0,1] [oQ 3 (.mov (.c (.bool false)))]) (.seq (rR [3] [qL 4 1,qM 5 0,oQ 6 (.eff (.getM false (.bool false)) [4,5]),qM 3 6]) .ret))
def lO:RC:=
 (.seq (.seq (rR [0,1,13] [qM 12 0,oQ 13 (.more (.eqP false) [12,(.c .cU)])]) (.cond 13 .ret .skip)) (.seq (rR [0,1,4] [oQ 14 (.eff .mkM []),oQ 4 (.box (.c .nmp)),oN (.store 1 4 14)]) (.seq (.seq (rR [0,1,4,15,16,17] [qM 15 1,oQ 16 (.len false 15),oQ 17 (.mov (.c (.int .i64 0)))]) (.block 0 (.loop (.seq (rR [0,1,4,15,16,17,18] [oQ 18 (.bin .lss 17 16)]) (.seq (.cond 18 .skip (.exit 0)) (.seq (.block 1 (.seq (rR [0,1,4,6,15,16,17] [qI 19 5 15 17,qA 20 5 19,oQ 6 (.box (.c (.agg [(.int .i64 0),(.int .i64 0),(.int .i64 0),(.str ⟨⟨[]⟩⟩),(.sl .full [])]))),oN (.store 5 6 20)]) (rR [0,1,4,15,16,17] [qL 21 4,qF 22 0 6,qL 23 22,oN (.eff .GK [21,23,(.c (.bool true))])]))) (rR [0,1,4,15,16,17] [oQ 24 (.bin .add 17 (.c (.int .i64 1))),qM 17 24]))))))) (.seq (rR [0,1,4,7] [oQ 25 (.eff .mkM []),qM 7 25]) (.seq (.seq (rR [0,1,4,7,29,30,31] [
 qM 26 0,qK 27 26,qF 28 1 27,qL 29 28,oQ 30 (.len false 29),oQ 31 (.mov (.c (.int .i64 0)))]) (.block 2 (.loop (.seq (rR [0,1,4,7,29,30,31,32] [oQ 32 (.bin .lss 31 30)]) (.seq (.cond 32 .skip (.exit 2)) (.seq (.block 3 (.seq (rR [0,1,4,7,8,9,29,30,31] [qM 33 31,qI 34 3 29 31,qA 35 3 34,oQ 9 (.box (.c (.agg [(.int .i64 0),(.str ⟨⟨[]⟩⟩),(.sl .full [])]))),qM 8 33,oN (.store 3 9 35)]) (.seq (rR [0,1,4,7,8,9,29,30,31,40] [qF 36 1 9,qA 37 2 36,oQ 38 (cF 71 [37]),oQ 39 (.sd (.func 89) [] [4]),oQ 40 (cF 72 [38,39])]) (.cond 40 (rR [0,1,4,7,29,30,31] [qM 41 7,qM 42 8,qM 43 1,qF 44 1 9,qA 45 2 44,oQ 46 (cF 90 [43,45]),oN (.eff (.tab .C1) [41,42,46])]) .skip)))) (rR [0,1,4,7,29,30,31] [oQ 47 (.bin .add 31 (.c (.int .i64 1))),qM 31 47]))))))) (.seq (.seq (rR [0,7,50,51,52] [qM 48 7,oQ 49 (cF 92 [48]),oQ 50 (cF 91 [49]),oQ 51 (.len false 50),oQ 52 (.mov (.c (.int .i64 0)))])
 (.block 4 (.loop (.seq (rR [0,7,50,51,52,53] [oQ 53 (.bin .lss 52 51)]) (.seq (.cond 53 .skip (.exit 4)) (.seq (.block 5 (.seq (rR [0,7,11,50,51,52] [qI 54 1 50 52,qL 55 54,qM 11 55]) (.mult [0,7,50,51,52] [(0,qM 56 0),(0,qK 57 56),(0,qF 58 1 57),(0,qL 59 58),(0,qM 60 11),(0,qM 61 0),(0,qK 62 61),(0,qF 63 1 62),(0,qL 64 63),(0,qM 65 11),(0,qI 66 3 64 65),(0,qF 67 0 66),(0,qL 68 67),(0,qM 69 7),(0,qM 70 11),(2,oQ 71 (.eff (.tab .Dx) [69,70])),(0,oQ 72 (.build [(.int .i64 0),(.str ⟨⟨[]⟩⟩),(.sl .full [])] [(0,1,68),(1,2,71)])),(0,oQ 73 (cF 45 [72])),(0,qI 74 3 59 60),(1,oN (.store 3 74 73))]))) (rR [0,7,50,51,52] [oQ 75 (.bin .add 52 (.c (.int .i64 1))),qM 52 75]))))))) (.seq (rR [0,78] [qM 76 7,oQ 77 (.eff (.tab .Dg) [76]),oQ 78 (.bin .gtr 77 (.c (.int .i64 0)))]) (.cond 78 (rR [] [qM 79 0,oQ 80 (cF 46 [79])])
 .skip))))))))
def cB:RC:=
 (.seq (rR [1] [oQ 1 (.box 0),oQ 2 (.mov (.c .nfn))]) (.seq (rR [2] [oQ 3 (.sd (.func 147) [] [1]),qM 2 3]) .ret))
def iy:RC:=
 (.seq (rR [0] [oQ 2 (.mov (.c (.int .i64 0)))]) (.seq (rR [0,3] [oQ 3 (.mov (.c (.int .i64 0)))]) (.seq (.seq (rR [0,3,4] [oQ 4 (.mov (.c (.int .i64 0)))]) (.block 0 (.loop (.seq (.seq (rR [0,3,4,8] [qM 5 4,qM 6 0,oQ 7 (.len false 6),oQ 8 (.bin .lss 5 7)]) (.cond 8 .skip (.exit 0))) (.seq (.block 1 (.seq (rR [0,3,4,16] [qM 11 0,qM 12 4,qI 13 7 11 12,qF 14 0 13,qL 15 14,oQ 16 (.bin .eql 15 (.c (.int .i64 4)))]) (.cond 16 (rR [0,3,4] [qM 17 3,oQ 18 (.bin .add 17 (.c (.int .i64 1))),qM 3 18]) .skip))) (rR [0,3,4] [qM 9 4,oQ 10 (.bin .add 9 (.c (.int .i64 1))),qM 4 10])))))) (.seq (rR [2] [qM 19 3,qM 2 19]) .ret))))
theorem iM(hn:ae.length<=20)(h:SP Tryz.prog true ae bs iy [.slot 2] Q):AM.Sem Tryz.prog 30 ae bs Q:=
 oZ (keeps:=[(0,[0]),(1,[0,3]),(2,[0,3,4]),(3,[0,3,4,8]),(5,[0,3,4,16]),(6,[0,3,4]),(4,[0,3,4]),(7,[2])]) (solo:=[]) Tryz.func30 rfl hn h
def kP:RC:=
 (.seq (rR [0,1,5] [oQ 5 (.box 2),oQ 6 (.mov (.c (.bool false)))]) (.seq (.seq (rR [0,1,5,8] [qF 7 0 5,qL 8 7]) (.block 0 (.seq (rR [0,1,5,8,9] [oQ 10 (.bin .eql 8 (.c (.int .i64 1))),qM 9 10]) (.cond 9 (.seq (.mult [6] [(0,qM 11 0),(0,qF 12 2 5),(0,qA 13 3 12),(0,qM 15 1),(0,qF 16 2 5),(0,qA 17 3 16),(2,oQ 14 (cF 14 [11,13])),(1,oQ 18 (cF 85 [15,17])),(0,oQ 19 (.bin .eql 14 18)),(0,qM 6 19)]) .ret) (.seq (rR [0,1,5,8,20] [oQ 21 (.bin .eql 8 (.c (.int .i64 2))),qM 20 21]) (.cond 20 (.seq (.mult [6] [(0,qM 22 0),(0,qF 23 1 5),(0,qL 24 23),(0,qM 26 1),(0,qF 27 1 5),(0,qL 28 27),(2,oQ 25 (cF 16 [22,24])),(1,oQ 29 (cF 86 [26,28])),(0,oQ 30 (.more (.eqB false) [25,29])),(0,qM 6 30)]) .ret) (.seq (rR [0,1,5,8,31] [oQ 32 (.bin .eql 8 (.c (.int .i64 3))),qM 31 32]) (.cond 31 (.seq (.mult [6] [(0,qM 33 0),(0,qF 34 1 5),(0,qL 35 34),(0,qF 36 5 5),(0,qL 37 36),(0,qM 39 1),(0,qF 40 1 5),(0,qL 41 40),(0,qF 42 5 5),(0,qL 43 42),(2,oQ 38 (cF 13 [33,35,37])),(1,oQ 44 (cF 87 [39,41,43])),(0,oQ 45 (cF 17 [38,44])),(0,oQ 6 (.take 45))])
 .ret) (.seq (rR [0,1,5,8,46] [oQ 47 (.bin .eql 8 (.c (.int .i64 4))),qM 46 47]) (.cond 46 (.seq (rR [1,5] [qM 48 0,qF 49 6 5,qL 50 49,oQ 51 (cF 36 [48,50])]) (rR [] [qM 52 1,qF 53 6 5,qL 54 53,oQ 55 (cF 88 [52,54])])) (.seq (rR [0,1,56] [oQ 57 (.bin .eql 8 (.c (.int .i64 5))),qM 56 57]) (.cond 56 (.seq (rR [6] [qM 58 0,oQ 59 (cF 12 [58]),qM 60 1,oQ 61 (cF 33 [60]),oQ 62 (cF 15 [59,61]),qM 6 62]) .ret) .skip)))))))))))) (.seq (rR [6] [oQ 6 (.mov (.c (.bool true)))]) .ret)))
def LI:RC:=
 (.seq (rR [0,1,2] [oQ 6 (.mov (.c (.bool false)))]) (.seq (.seq (rR [0,1,2,21] [qM 12 0,qM 13 1,qM 14 2,oQ 15 (cF 9 [12,13,14]),oQ 16 (.un .not 15),qM 17 16,oG 18 17 false (.mov 2),oG 19 17 false (cF 30 [18]),oG 20 17 false (.bin .gtr 19 (.c (.int .i64 3))),oQ 21 (.pick 17 (.c (.bool true)) 20)]) (.cond 21 (.seq (rR [6] [oQ 22 (cF 10 []),qM 6 22]) .ret) .skip)) (.seq (rR [0,1,2,7,8] [qM 24 0,qM 25 1,oQ 26 (cF 11 [24,25]),qM 23 26,oQ 27 (.ext 0 23),oQ 28 (.ext 1 23),qM 7 27,qM 8 28]) (.seq (rR [2,7,8,9,10] [qM 30 0,qM 31 1,oQ 32 (cF 31 [30,31]),qM 29 32,oQ 33 (.ext 0 29),oQ 34 (.ext 1 29),qM 9 33,qM 10 34]) (.seq (.seq (rR [2,7,9,44] [qM 35 8,qM 36 10,oQ 37 (.bin .neq 35 36),qM 38 37,oG 39 38 false (.mov 7),oG 40 38 false (.more (.eqP false) [39,(.c .cU)]),oG 41 38 false (.mov 8),oG 42 38 false (.bin .neq 41 (.c (.int .i64 0))),oG 43 38 false (.more (.eqB true) [40,42]),oQ 44 (.pick 38 (.c (.bool true)) 43)])
 (.cond 44 (.seq (rR [6] [oQ 6 (.mov (.c (.bool false)))]) .ret) .skip)) (.seq (.seq (rR [2,7,9,11] [oQ 11 (.mov (.c (.int .i64 0)))]) (.block 0 (.loop (.seq (.seq (rR [2,7,9,11,52] [qM 45 11,qM 46 2,oQ 47 (.len false 46),oQ 48 (.bin .lss 45 47),qM 49 48,oG 50 49 true (.mov 7),oG 51 49 true (.more (.eqP true) [50,(.c .cU)]),oQ 52 (.pick 49 51 (.c (.bool false)))]) (.cond 52 .skip (.exit 0))) (.seq (.block 1 (.seq (rR [2,7,9,11,62] [qM 55 7,qM 56 9,qM 57 2,qM 58 11,qI 59 7 57 58,qA 60 7 59,oQ 61 (cF 32 [55,56,60]),oQ 62 (.un .not 61)]) (.cond 62 (.seq (rR [6] [oQ 6 (.mov (.c (.bool false)))]) .ret) .skip))) (rR [2,7,9,11] [qM 53 11,oQ 54 (.bin .add 53 (.c (.int .i64 1))),qM 11 54])))))) (.seq (rR [6] [qM 63 7,oQ 64 (.more (.eqP false) [63,(.c .cU)]),qM 65 64,oG 66 65 false (.mov 7),oG 67 65 false (cF 12 [66]),oG 68 65 false (.mov 9),oG 69 65 false (cF 33 [68]),oG 70 65 false (cF 15 [67,69]),oQ 71 (.pick 65 (.c (.bool true)) 70),qM 72 71,oG 73 72 true (cF 10 []),oQ 74 (.pick 72 73 (.c (.bool false))),qM 6 74])
 .ret)))))))
theorem LH(hn:ae.length<=44)(h:SP Tryz.prog false ae bs LL [.slot 4,.slot 5] Q):AM.Sem Tryz.prog 31 ae bs Q:=
 oZ (keeps:=[(0,[0,1]),(1,[0,1,10]),(2,[4,5]),(3,[0,1,6]),(4,[0,1,6,14]),(6,[0,1,6,22]),(7,[4,5]),(5,[0,1,6]),(8,[0,1,7]),(9,[0,7]),(10,[7]),(11,[4,5])]) (solo:=[]) Tryz.func31 rfl hn h
theorem eu(hn:ae.length<=28)(h:SP Tryz.prog false ae bs eD [.slot 4] Q):AM.Sem Tryz.prog 140 ae bs Q:=
 oZ (keeps:=[(0,[0,1]),(1,[0,1,5]),(2,[0,1,5,24]),(3,[0,1,5]),(4,[4])]) (solo:=[]) Tryz.func140 rfl hn h
theorem dX(hn:ae.length<=71)(h:SP Tryz.prog false ae bs eo [.slot 4] Q):AM.Sem Tryz.prog 85 ae bs Q:=
 oZ (keeps:=[(0,[0,3]),(1,[0,3,8]),(2,[4]),(3,[0,3,17]),(4,[4]),(5,[0,3,5]),(6,[0,3,5,41]),(7,[4]),(8,[0,3,5,47]),(9,[4]),(10,[0,3,5,6]),(11,[0,3,5,6]),(12,[0,5,6]),(13,[]),(14,[4])]) (solo:=[]) Tryz.func85 rfl hn h
theorem dY(hn:ae.length<=23)(h:SP Tryz.prog false ae bs ep [.slot 4] Q):AM.Sem Tryz.prog 86 ae bs Q:=
 oZ (keeps:=[(0,[0,1]),(1,[0,1,8]),(2,[4]),(3,[0,5,6]),(4,[6]),(5,[4])]) (solo:=[]) Tryz.func86 rfl hn h
theorem eK(hn:ae.length<=62)(h:SP Tryz.prog false ae bs e8 [.slot 6] Q):AM.Sem Tryz.prog 87 ae bs Q:=
 oZ (keeps:=[(0,[0,1,2]),(1,[0,1,2,23]),(2,[6]),(3,[0,1,2,7]),(4,[0,1,2,7,8]),(5,[0,1,2,7,8,30]),(7,[0,1,2,7,8,49]),(8,[0,1,2,7,8]),(6,[0,1,2,7,8]),(9,[6])]) (solo:=[]) Tryz.func87 rfl hn h
theorem ez(hn:ae.length<=43)(h:SP Tryz.prog false ae bs eF [] Q):AM.Sem Tryz.prog 88 ae bs Q:=
 oZ (keeps:=[(0,[0,1,7]),(1,[0,1,4]),(2,[0,1,4,5]),(3,[0,1,4,5,14]),(5,[0,1,4,5]),(4,[0,1,4,5]),(6,[])]) (solo:=[]) Tryz.func88 rfl hn h
theorem ew(hn:ae.length<=13)(h:SP Tryz.prog false ae bs eE [.slot 2] Q):AM.Sem Tryz.prog 33 ae bs Q:=
 oZ (keeps:=[(0,[0]),(1,[0,3]),(2,[0,3,5]),(3,[3]),(4,[2])]) (solo:=[]) Tryz.func33 rfl hn h
theorem jg(hn:ae.length<=7)(h:SP Tryz.prog false ae bs jH [.slot 3] Q):AM.Sem Tryz.prog 89 ae bs Q:=
 oZ (keeps:=[(0,[0,1]),(1,[3])]) (solo:=[]) Tryz.func89 rfl hn h
theorem ld(hn:ae.length<=81)(h:SP Tryz.prog false ae bs lO [] Q):AM.Sem Tryz.prog 36 ae bs Q:=
 oZ (keeps:=[(0,[0,1,13]),(1,[0,1,4]),(2,[0,1,4,15,16,17]),(3,[0,1,4,15,16,17,18]),(4,[0,1,4,6,15,16,17]),(5,[0,1,4,15,16,17]),(6,[0,1,4,15,16,17]),(7,[0,1,4,7]),(8,[0,1,4,7,29,30,31]),(9,[0,1,4,7,29,30,31,32]),(10,[0,1,4,7,8,9,29,30,31]),(11,[0,1,4,7,8,9,29,30,31,40]),(12,[0,1,4,7,29,30,31]),(13,[0,1,4,7,29,30,31]),(14,[0,7,50,51,52]),(15,[0,7,50,51,52,53]),(16,[0,7,11,50,51,52]),(17,[0,7,50,51,52]),(18,[0,7,50,51,52]),(19,[0,78]),(20,[]),(2000017,[0,1,2,3,4,5,6,7,8,9,10,11,12,13,14,15,16,17,18,19]),(3000017,[0,0,0,0,0,0,0,0,0,0,0,0,0,0,0,2,0,0,0,1])]) (solo:=[]) Tryz.func36 rfl hn h
theorem cw(hn:ae.length<=4)(h:SP Tryz.prog false ae bs cB [.slot 2] Q):AM.Sem Tryz.prog 92 ae bs Q:=
 oZ (keeps:=[(0,[1]),(1,[2])]) (solo:=[]) Tryz.func92 rfl hn h
theorem j8(hn:ae.length<=63)(h:SP Tryz.prog false ae bs kP [.slot 6] Q):AM.Sem Tryz.prog 32 ae bs Q:=
 oZ (keeps:=[(0,[0,1,5]),(1,[0,1,5,8]),(2,[0,1,5,8,9]),(4,[0,1,5,8,20]),(6,[0,1,5,8,31]),(8,[0,1,5,8,46]),(11,[0,1,56]),(12,[6]),(9,[1,5]),(10,[]),(7,[6]),(5,[6]),(3,[6]),(13,[6]),(2000003,[0,1,2,4,5,6,3,7,8,9]),(3000003,[0,0,0,2,0,0,0,1,0,0]),(2000005,[0,1,2,4,5,6,3,7,8,9]),(3000005,[0,0,0,2,0,0,0,1,0,0]),(2000007,[0,1,2,3,4,6,7,8,9,10,5,11,12,13]),(3000007,[0,0,0,0,0,2,0,0,0,0,0,1,0,0])]) (solo:=[]) Tryz.func32 rfl hn h
theorem yc(hn:ae.length<=75)(h:SP Tryz.prog false ae bs LI [.slot 6] Q):AM.Sem Tryz.prog 6 ae bs Q:=
 oZ (keeps:=[(0,[0,1,2]),(1,[0,1,2,21]),(2,[6]),(3,[0,1,2,7,8]),(4,[2,7,8,9,10]),(5,[2,7,9,44]),(6,[6]),(7,[2,7,9,11]),(8,[2,7,9,11,52]),(10,[2,7,9,11,62]),(11,[6]),(9,[2,7,9,11]),(12,[6])]) (solo:=[]) Tryz.func6 rfl hn h
end Go.CK
namespace Go.Proofs
open Go.Shelf
def Tryz.laysKeys_ren:Go.Shelf.Ren:=⟨λ|7=>92|10=>147|n=>n,λ|23=>148|26=>3|3=>26|28=>152|0=>0|27=>151|33=>45|4=>4|n=>n,λ|n=>n⟩
theorem Tryz.Hk:Go.Proofs.SlLaysZI.n7 Tryz.prog Tryz.laysKeys_ren:={
 mixed:=by kernel_rfl,
 f7 := ⟨ "maps.Keys[map[int]constraint/api.Atom,int,constraint/api.Atom]", by decide, Tryz.func92.trans (congrArg some (by kernel_rfl))⟩,
 f10 := ⟨ "maps.Keys[map[int]constraint/api.Atom,int,constraint/api.Atom]$1", by decide, Tryz.func147.trans (congrArg some (by kernel_rfl))⟩,
 t0:=Tryz.underlying0,
 a0:=Tryz.isAgg0,
 z0:=Tryz.sizeOf0,
 v0:=Tryz.zeroValue0,
 t4:=Tryz.underlying4,
 a4:=Tryz.isAgg4,
 z4:=Tryz.sizeOf4,
 v4:=Tryz.zeroValue4,
 t23:=Tryz.underlying148,
 a23:=Tryz.isAgg148,
 z23:=Tryz.sizeOf148,
 v23:=Tryz.zeroValue148,
 t26:=Tryz.underlying3,
 a26:=Tryz.isAgg3,
 z26:=Tryz.sizeOf3,
 v26:=Tryz.zeroValue3,
 t27:=Tryz.underlying151,
 a27:=Tryz.isAgg151,
 z27:=Tryz.sizeOf151,
 v27:=Tryz.zeroValue151,
 t28:=Tryz.underlying152,
 a28:=Tryz.isAgg152,
 z28:=Tryz.sizeOf152,
 v28:=Tryz.zeroValue152,
 t33:=Tryz.underlying45,
 a33:=Tryz.isAgg45,
 z33:=Tryz.sizeOf45,
 v33:=Tryz.zeroValue45}
end Go.Proofs
namespace Go.CK
open Go.Lib
def Ew(b:UInt8):Bool:=decide (48<=b.toNat)&&decide (b.toNat<=57)
theorem pd{n:Nat}(h:n<256):(UInt8.ofNat n).toNat=n:=by rw[UInt8.toNat_ofNat'];exact Nat.mod_eq_of_lt h
theorem mn:∀(k u:Nat),u<=k->∀b∈decDigits u,Ew b=true
 |k,u,hk,b,hb=>by
  rw[decDigits] at hb;split at hb
  .rename_i h;simp only[zq] at hb;subst hb;simp only[Ew,pd (show 48+u<256 by omega),zD,decide_eq_true_eq];omega
  .rename_i h;rcases zZ.1 hb with h1|h1
   .match k,hk with
    |0,hk=>omega
    |k+1,hk=>exact mn k (u/10) (by omega) b h1
   .simp only[zq] at h1;subst h1;simp only[Ew,pd (show 48+u %10<256 by omega),zD,decide_eq_true_eq];omega
def nH(l:List UInt8):Nat:=l.foldl (λn b=>10*n+(b.toNat-48)) 0
theorem BL(l:List UInt8)(b:UInt8):nH (l++[b])=10*nH l+(b.toNat-48):=by simp[nH]
theorem oA:∀(k u:Nat),u<=k->nH (decDigits u)=u
 |k,u,hk=>by
  rw[decDigits];split
  .rename_i h;simp only[nH,Zy,List.foldl_nil,pd (show 48+u<256 by omega)];omega
  .rename_i h
   match k,hk with
   |0,hk=>omega
   |k+1,hk=>
    rw[BL,oA k (u/10) (by omega),pd (by omega)];omega
theorem ju(u:Nat):nH (decDigits u)=u:=oA u u (zG _)
theorem BQ{u v:Nat}{x:List UInt8}(h:45::x=decDigits v):False:=by
 have:=mn v v (zG _) 45 (by rw[<-h];simp)
 revert this;decide
theorem Hr{n m:Int}(h:itoa n=itoa m):n=m:=by
 unfold itoa at h;split at h
 .split at h
  .have:=congrArg nH (List.cons.inj h).2;rw[ju,ju] at this;omega
  .exact (BQ (u:=0) h).elim
 .split at h
  .exact (BQ (u:=0) h.symm).elim
  .have:=congrArg nH h;rw[ju,ju] at this;omega
def isNum(b:UInt8):Bool:=Ew b||decide (b=45)
theorem Bm(n:Int):∀b∈itoa n,isNum b=true:=λb hb=>by
 unfold itoa at hb;unfold isNum;split at hb
 .rcases zI.1 hb with rfl|hb
  .simp
  .rw [mn _ _ (zG _) b hb];rfl
 .rw [mn _ _ (zG _) b hb];rfl
def fU(x:List UInt8):Prop:=∀b r,x=b::r->isNum b=false
theorem Ao{l x:List UInt8}(hl:∀b∈l,isNum b=true)(hx:fU x):(l++x).takeWhile isNum=l:=by
 induction l with
 |nil=>
  cases x with
  |nil=>rfl
  |cons b r=>rw[Zl,List.takeWhile_cons_of_neg (by rw[hx b r rfl];simp)]
 |cons a l ih=>
  rw[zf,List.takeWhile_cons_of_pos (hl a (by simp)),ih λb hb=>hl b (by simp[hb])]
theorem Hq{n m:Int}{x y:List UInt8}(hx:fU x)(hy:fU y)(h:itoa n++x=itoa m++y):n=m/\x=y:=by
 have h1:=congrArg (List.takeWhile isNum) h;rw[Ao (Bm n) hx,Ao (Bm m) hy] at h1;obtain rfl:=Hr h1;exact⟨rfl,List.append_cancel_left h⟩
theorem lg{s t:UInt8}{n m:Int}{x y:List UInt8}(hx:fU x)(hy:fU y)(h:di s n++x=di t m++y):s=t/\n=m/\x=y:=by
 simp only[di,zf,yA] at h;exact⟨h.1,Hq hx hy h.2⟩
theorem ma{t:UInt8}(ht:isNum t=false)(n:Int)(x:List UInt8):fU (di t n++x):=λb r e=>by
 simp only[di,zf,yA] at e;rw[<-e.1];exact ht
theorem pb(s:ByteArray)(x:List UInt8):fU (dE s++x):=by
 rw[dE,zh];exact ma (by decide) _ _
theorem Af{s t:ByteArray}{x y:List UInt8}(h:dE s++x=dE t++y):s=t/\x=y:=by
 simp only[dE,zh,zf] at h;obtain⟨_,h1,h2⟩:=lg (λb r e=>by rw[<-(List.cons.inj e).1];decide) (λb r e=>by rw[<-(List.cons.inj e).1];decide) h
 have h2:=(List.cons.inj h2).2
 have h3:s.data.toList.length=t.data.toList.length:=by
  have e1:=size_data s;have e2:=size_data t;omega
 obtain⟨h4,h5⟩:=List.append_inj h2 h3;refine⟨?_,h5⟩;obtain⟨⟨s⟩⟩:=s;obtain⟨⟨t⟩⟩:=t;simp only at h4;subst h4;rfl
theorem IG(t:Tm)(x:List UInt8):fU (bT t++x):=by
 obtain⟨k,n,s,l⟩:=t;rw[bT];split
 .exact ma (by decide) _ _
 .split
  .exact ma (by decide) _ _
  .split
   .rw [zh,zh];exact ma (by decide) _ _
   .rw [zh,zh];exact ma (by decide) _ _
theorem D1(l:List Tm){x:List UInt8}(hx:fU x):fU (bh l++x):=by
 cases l with
 |nil=>exact hx
 |cons t l=>rw[bh,zh];exact IG _ _
theorem G7:fU []:=λ_ _ h=>by cases h
def EU(l m:List Tm):Prop:=∀(i:Nat) (x y:Tm),l[i]? =some x->m[i]? =some y->x.cmp y=0
theorem il:∀{l m:List Tm},l.length=m.length->(Tm.gg l m=0↔EU l m)
 |[],[],_=>⟨λ_ i x y h=>by simp at h,λ_=>by simp[Tm.gg,dO]⟩
 |a::l,b::m,h=>by
  have ih:=il (l:=l) (m:=m) (by simpa using h)
  rw[Tm.gg];constructor
  .intro e i x y hx hy
   by_cases hc:a.cmp b=0
   .rw [hc,vY] at e
    cases i with
    |zero=>simp at hx hy;subst hx hy;exact hc
    |succ i=>exact ih.1 e i x y (by simpa using hx) (by simpa using hy)
   .rw [JM hc] at e;exact absurd e hc
  .intro hs;rw[hs 0 a b rfl rfl,vY];exact ih.2 λi x y hx hy=>hs (i+1) x y (by simpa using hx) (by simpa using hy)
theorem xZ{a b:Int}:orI a b=0↔a=0/\b=0:=by
 unfold orI;split
 .simp [*]
 .exact ⟨λh=>absurd h (by assumption),λh=>absurd h.1 (by assumption)⟩
theorem cmp0{a b:Tm}:a.cmp b=0↔(a.kind=1/\b.kind=1/\a.num=b.num)\/(a.kind=0/\b.kind=0/\a.num=b.num)\/(a.kind=2/\b.kind=2/\a.args.length=b.args.length/\a.name=b.name/\Tm.gg a.args b.args=0)\/
  (a.kind≠0/\a.kind≠1/\a.kind≠2/\a.kind=b.kind/\a.num=b.num/\a.name=b.name):=by
 rw[Tm.cmp_eq,xZ,o9];unfold kQ
 by_cases h1:a.kind=1
 .by_cases g1:b.kind=1
  .simp [h1,g1,o9]
  .by_cases g0:b.kind=0
   .simp [h1,g0]
   .by_cases g2:b.kind=2
    .simp [h1,g2]
    .simp [h1,g1,g0,g2]
 .by_cases h0:a.kind=0
  .by_cases g1:b.kind=1
   .simp [h0,g1]
   .by_cases g0:b.kind=0
    .simp [h0,g0,o9]
    .by_cases g2:b.kind=2
     .simp [h0,g2]
     .simp [h0,g1,g0,g2]
  .by_cases h2:a.kind=2
   .by_cases g1:b.kind=1
    .simp [h2,g1]
    .by_cases g0:b.kind=0
     .simp [h2,g0]
     .by_cases g2:b.kind=2
      .simp [h2,g2];rw[xZ,xZ,o9,Ia,Int.ofNat_inj]
      .simp [h2,g1,g0,g2]
   .by_cases g1:b.kind=1
    .simp [h1,h0,h2,g1]
    .by_cases g0:b.kind=0
     .simp [h1,h0,h2,g0]
     .by_cases g2:b.kind=2
      .simp [h1,h0,h2,g2]
      .simp [h1,h0,h2,g1,g0,g2,xZ,o9,Ia]
theorem qh{l m:List Tm}(ih:∀a∈l,∀b,(a.cmp b=0->bT a=bT b)/\∀x y,fU x->fU y->bT a++x=bT b++y->a.cmp b=0/\x=y)(hlen:l.length=m.length):
  (EU l m->bh l=bh m)/\∀x y,fU x->fU y->bh l++x=bh m++y->EU l m/\x=y:=by
 induction l generalizing m with
 |nil=>
  cases m with
  |nil=>exact⟨λ_=>rfl,λx y _ _ h=>⟨λi x y h=>by simp at h,h⟩⟩
  |cons b m=>simp at hlen
 |cons a l ihl=>
  cases m with
  |nil=>simp at hlen
  |cons b m=>
   obtain⟨h1,h2⟩:=ih a (by simp) b
   obtain⟨h3,h4⟩:=ihl (m:=m) (λa ha=>ih a (by simp[ha])) (by simpa using hlen)
   constructor
   .intro hs;rw[bh,bh,h1 (hs 0 a b rfl rfl),h3 λi x y hx hy=>hs (i+1) x y (by simpa using hx) (by simpa using hy)]
   .intro x y hx hy h;rw[bh,bh,zh,zh] at h;obtain⟨h5,h6⟩:=h2 _ _ (D1 l hx) (D1 m hy) h;obtain⟨h7,h8⟩:=h4 x y hx hy h6;refine⟨λi u v hu hv=>?_,h8⟩
    cases i with
    |zero=>simp at hu hv;subst hu hv;exact h5
    |succ i=>exact h7 i u v (by simpa using hu) (by simpa using hv)
theorem Gs(a:Tm):∀b,(a.cmp b=0->bT a=bT b)/\∀x y,fU x->fU y->bT a++x=bT b++y->a.cmp b=0/\x=y:=by
 induction a using Tm.bu with
 |h k n s l ih=>
  intro b;obtain⟨k',n',s',l'⟩:=b;rw[cmp0];simp only[Tm.kind,Tm.num,Tm.name,Tm.args];constructor
  .rintro (⟨rfl,rfl,rfl⟩|⟨rfl,rfl,rfl⟩|⟨rfl,rfl,h1,rfl,h2⟩|⟨h1,h2,h3,rfl,rfl,rfl⟩)
   .simp [bT]
   .simp [bT]
   .have:=(qh ih h1).1 ((il h1).1 h2);simp[bT,h1,this]
   .simp [bT,h1,h2,h3]
  .intro x y hx hy h
   by_cases e1:k=1
   .subst e1
    by_cases f1:k'=1
    .subst f1;simp only[bT,if_true,if_neg (show¬(1:Int)=0 by decide)] at h
     obtain⟨_,h1,h2⟩:=lg hx hy h;exact⟨.inl ⟨rfl,rfl,h1⟩,h2⟩
    .exfalso;rw[bT,bT,if_neg (by decide),if_pos rfl,if_neg f1] at h
     simp only[di] at h;split at h
     .exact absurd (List.cons.inj h).1 (by decide)
     .split at h
      .exact absurd (List.cons.inj h).1 (by decide)
      .exact absurd (List.cons.inj h).1 (by decide)
   .by_cases e0:k=0
    .subst e0
     by_cases f0:k'=0
     .subst f0;simp only[bT,if_true] at h;obtain⟨_,h1,h2⟩:=lg hx hy h;exact⟨.inr (.inl ⟨rfl,rfl,h1⟩),h2⟩
     .exfalso;rw[bT,bT,if_pos rfl,if_neg f0] at h;simp only[di] at h;split at h
      .exact absurd (List.cons.inj h).1 (by decide)
      .split at h
       .exact absurd (List.cons.inj h).1 (by decide)
       .exact absurd (List.cons.inj h).1 (by decide)
    .by_cases e2:k=2
     .subst e2
      by_cases f2:k'=2
      .subst f2;simp only[bT,if_true,if_neg (show¬(2:Int)=0 by decide),if_neg (show¬(2:Int)=1 by decide),zh] at h
       obtain⟨_,h1,h2⟩:=lg (pb _ _) (pb _ _) h;have h1:l.length=l'.length:=by omega
       obtain⟨h3,h4⟩:=Af h2;obtain⟨h5,h6⟩:=(qh ih h1).2 x y hx hy h4;exact⟨.inr (.inr (.inl ⟨rfl,rfl,h1,h3,(il h1).2 h5⟩)),h6⟩
      .exfalso;rw[bT,bT,if_neg e0,if_neg e1,if_pos rfl,if_neg f2] at h;simp only[di] at h;split at h
       .exact absurd (List.cons.inj h).1 (by decide)
       .split at h
        .exact absurd (List.cons.inj h).1 (by decide)
        .exact absurd (List.cons.inj h).1 (by decide)
     .rw [bT,if_neg e0,if_neg e1,if_neg e2,bT] at h
      by_cases f0:k'=0
      .exfalso;rw[if_pos f0] at h;exact absurd (List.cons.inj h).1 (by decide)
      .by_cases f1:k'=1
       .exfalso;rw[if_neg f0,if_pos f1] at h;exact absurd (List.cons.inj h).1 (by decide)
       .by_cases f2:k'=2
        .exfalso;rw[if_neg f0,if_neg f1,if_pos f2] at h;exact absurd (List.cons.inj h).1 (by decide)
        .rw [if_neg f0,if_neg f1,if_neg f2,zh,zh,zh,zh] at h;obtain⟨_,h1,h2⟩:=lg (ma (by decide) _ _) (ma (by decide) _ _) h
         obtain⟨_,h3,h4⟩:=lg (pb _ _) (pb _ _) h2;obtain⟨h5,h6⟩:=Af h4;exact⟨.inr (.inr (.inr ⟨e0,e1,e2,h1,h3,h5⟩)),h6⟩
theorem E5{l m:List Tm}(h:l.length=m.length):bh l=bh m↔EU l m:=by
 obtain⟨h1,h2⟩:=qh (l:=l) (m:=m) (λa _ b=>Gs a b) h;exact⟨λe=>(h2 [] [] G7 G7 (by rw[e])).1,h1⟩
end Go.CK
