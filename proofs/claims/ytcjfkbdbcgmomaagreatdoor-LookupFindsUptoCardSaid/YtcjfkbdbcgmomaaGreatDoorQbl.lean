/-
  By an AI agent.
-/
import Derived.Test.YtcjfkbdbcgmomaaGreatDoorQbk
set_option linter.unusedSimpArgs false
set_option linter.unusedVariables false
set_option maxRecDepth 100000
namespace Go.CK
open Go.AM Go.Proofs
theorem wM{l:List It}(r:l.length<=10000000)(o:∀i∈l,i.atom.args.length<=10000000/\Tm.aA i.atom.args<=100000000):Fun Tryz.prog 26 [slA It.av l] (.bool (cC l)):=by
 unfold cC
 by_cases p:l.length<=500
 .rw [decide_eq_true p,za];refine Fun.of (dI (by simp) ?_) rfl rfl
  conv=>whnf
  repeat' (first|refine gC (gD (cJ ?_))|refine gL (.map ?_))<;>conv=>whnf
  refine ax.count (fb:=true) (l.length) (λh j=>h.bD [(3,.int .i64 j)]) (λj=>stB 0 l=stB (lA l j) (l.drop j)/\0<=lA l j) ?_ ?_ (λj n a=>?_) (λa=>?_)
  .exact ⟨rfl,Int.le_refl _⟩
  .exact aN
  .obtain ⟨y,g⟩:∃y,l[j]? =some y:=⟨_,zA n⟩;obtain⟨a,d⟩:=a;rw[zH n,(zB.1 g).2,stB] at a;have c:lA l (j+1)=y.id:=by simp[lA,g]
   have hr:=fU y.atom (o y (zE g)).2 (by have:=(o y (zE g)).1;omega)
   by_cases s:y.id<1
   .rw [decide_eq_false (by omega),zw] at a
    rw[a]
    conv=>whnf
    repeat' (first|(refine gC ?_;first|refine cY ?_|refine gD (cI ?_))|refine gL (.map ?_)|refine gI (gM (iE ?_))|refine ag.nrm ?_)<;>conv=>whnf
    all_goals rfl
   .cases j with
    |zero=>
     rw[show lA l 0=0 from rfl] at a d;rw[decide_eq_true (by omega),za] at a
     cases hb:y.atom.right with
     |true=>
      rw[hb] at hr;rw[hb,za] at a
      conv=>whnf
      repeat' (first|refine gG (aW.fn (hr) ?_)|(refine gC ?_;first|refine cY ?_|refine cN ?_|refine .not ?_|(refine gD ?_;first|refine cI ?_|refine cJ ?_))|refine gW (wI ?_)|refine gL (.map ?_)|refine gI (gM (iE ?_)))<;>conv=>whnf
      refine⟨⟨by rw[c];exact a,by rw[c];omega⟩,?_⟩
      exact aN
     |false=>
      rw[hb] at hr;rw[hb,zw] at a;rw[a]
      conv=>whnf
      repeat' (first|refine gG (aW.fn (hr) ?_)|(refine gC ?_;first|refine cN ?_|refine .not ?_|(refine gD ?_;first|refine cI ?_|refine cJ ?_))|refine gL (.map ?_)|refine gI (gM (iE ?_))|refine ag.nrm ?_)<;>conv=>whnf
      all_goals rfl
    |succ i=>
     obtain⟨z,k⟩:∃z,l[i]? =some z:=⟨_,zA (by omega)⟩
     have m:lA l (i+1)=z.id:=by simp[lA,k]
     rw[m] at a d
     by_cases q:z.id<y.id
     .rw [decide_eq_true q,za] at a
      cases hb:y.atom.right with
      |true=>
       rw[hb] at hr;rw[hb,za] at a
       have e:∀x,l[((i+1:Nat)-1:Int).toNat]? =some x->x=z:=λx b=>by
        rw[show ((i+1:Nat)-1:Int).toNat=i by omega,k] at b
        cases b;rfl
       conv=>whnf
       repeat' (first|refine gG (aW.fn (hr) ?_)|(refine gC ?_;first|refine cY ?_|refine .not ?_|(refine gD ?_;first|refine cI ?_|refine cJ ?_)|refine ak.le (λf=>?_) (λf=>?_))|refine gW (wI ?_)|refine gL (.map ?_)|(refine gI ?_;(refine gM ?_;first|refine iE ?_|refine iI λx b=>?_)))<;>conv=>whnf
       .obtain rfl:=e x b;omega
       .refine ⟨⟨by rw[c];exact a,by rw[c];omega⟩,?_⟩
        exact aN
      |false=>
       rw[hb] at hr;rw[hb,zw] at a;rw[a]
       conv=>whnf
       repeat' (first|refine gG (aW.fn (hr) ?_)|(refine gC ?_;first|refine cY ?_|refine cN ?_|refine .not ?_|(refine gD ?_;first|refine cI ?_|refine cJ ?_)|refine ak.le (λf=>?_) (λf=>?_))|refine gW (wI ?_)|refine gL (.map ?_)|(refine gI ?_;(refine gM ?_;first|refine iE ?_|refine iI λx b=>?_))|refine ag.nrm ?_)<;>conv=>whnf
       all_goals rfl
     .rw [decide_eq_false q,zw] at a;rw[a]
      have e:∀x,l[((i+1:Nat)-1:Int).toNat]? =some x->x=z:=λx b=>by
       rw[show ((i+1:Nat)-1:Int).toNat=i by omega,k] at b
       cases b;rfl
      conv=>whnf
      repeat' (first|(refine gC ?_;first|refine cY ?_|(refine gD ?_;first|refine cI ?_|refine cJ ?_)|refine ak.le (λf=>?_) (λf=>?_))|refine gW (wI ?_)|refine gL (.map ?_)|(refine gI ?_;(refine gM ?_;first|refine iE ?_|refine iI λx b=>?_)))<;>conv=>whnf
      .conv=>whnf
       repeat' refine ag.nrm ?_<;>conv=>whnf
      .obtain rfl:=e x b;omega
  .obtain ⟨a,_⟩:=a;rw[zj,stB] at a;rw[a]
   conv=>whnf
   repeat' (first|refine gC (gD (cJ ?_))|refine gL (.map ?_)|refine ag.nrm ?_)<;>conv=>whnf
   all_goals rfl
 .rw [decide_eq_false p];refine Fun.of (dI (by simp) ?_) rfl rfl
  conv=>whnf
  repeat' (first|refine gC (gD (cI ?_))|refine gL (.map ?_)|refine ag.nrm ?_)<;>conv=>whnf
  all_goals rfl
end Go.CK
namespace Go.CK
open Go.AM Go.Proofs
mutual
def Tm.nmo:Tm->Prop
 |.mk _ _ s l=>s.size<=300/\Tm.nD l
def Tm.nD:List Tm->Prop
 |[]=>True
 |t::l=>Tm.nmo t/\Tm.nD l
end
theorem Tm.u6:∀{l:List Tm},Tm.nD l↔∀t∈l,t.nmo
 |[]=>by simp[Tm.nD]
 |a::l=>by simp only[Tm.nD,Tm.u6 (l:=l),zI,forall_eq_or_imp]
structure SzI(n:Nat)(i:It):Prop where
 io:Tm.ios i.atom.args
 nm:Tm.nD i.atom.args
 nodes:Tm.aA i.atom.args<=n
theorem xp(t:Tm):t.io->t.nmo->t.nodes<=1000000->(ck t).length<=400*t.nodes:=by
 induction t using Tm.bA with
 |h k m s l ih=>
  intro a b o;rw[Tm.nodes] at o
  have j:∀(r:List Tm),(∀t∈r,t∈l)->Tm.ios r->Tm.nD r->Tm.aA r<=1000000->(bP r).length<=400*Tm.aA r:=λr=>by
   induction r with
   |nil=>intro _ _ _ _;simp[bP,Tm.aA]
   |cons t r c=>
    intro hm e d g;rw[Tm.aA] at g;have B:=ih t (hm t (by simp)) e.1 d.1 (by omega)
    have A:=c (λx f=>hm x (by simp[f])) e.2 d.2 (by omega)
    rw[bP,zC,Tm.aA];omega
  have z:=j l (λt h=>h) a.2.2 b.2 (by omega)
  have hs:s.size<=300:=b.1;have p:=I2 s (by omega)
  have y:=lr (t:=105) a.2.1;have w:=lr (t:=118) a.2.1;have v:=lr (t:=107) a.1;have u:=lr (t:=110) a.2.1;have i:=cG l;have q:=lr (t:=102) (n:=l.length) ⟨by omega,by omega⟩
  rw[ck,Tm.nodes];split
  .omega
  .split
   .omega
   .split
    .simp only[zC];omega
    .simp only[zC];omega
theorem CS:∀{b:List Bnd} {v:Int} {t:Tm},aX b v=some t->∃x∈b,x.t=t
 |y::b,v,t,h=>by
  rw[aX] at h;split at h
  .cases h;exact⟨y,by simp,rfl⟩
  .obtain ⟨x,c,a⟩:=CS h;exact⟨x,by simp[c],a⟩
structure SzL(n m:Nat)(l:List It):Prop where
 asc:Asc l
 few:l.length<=m
 each:∀i∈l,SzI n i
theorem SzI.ent{n:Nat}{i:It}{acc:List Ac}(h:SzI n i)(q:n<=10000)(hr:∀c∈acc,c.right=true)(j:∀c∈acc,Il c=true):Lv acc i:=by
 refine⟨h.io,λc d e=>GU (hr c d) e,λc d e=>?_⟩
 have hp:c.positions.length<=10:=by
  have:=j c d;simp only[Il,zD,decide_eq_true_eq] at this;exact this.2
 have a:=GU (hr c d) e
 have k:=pc (l:=keyOf c i.atom.args) (n:=4000000) λt g=>by
  obtain⟨p,hp,rfl⟩:=zk.1 g;obtain⟨o,m⟩:=a p hp;have b:p.toNat<i.atom.args.length:=by omega
  have hm:i.atom.args.getD p.toNat tm0∈i.atom.args:=by
   rw[List.getD_eq_getElem?_getD,zA b];exact zc b
  have f:=fc hm;have r:=h.nodes;have:=xp _ (Tm.hO.1 h.io _ hm) (Tm.u6.1 h.nm _ hm) (by omega)
  omega
 have f:(keyOf c i.atom.args).length=c.positions.length:=by simp[keyOf]
 rw[f] at k;have:c.positions.length*4000000<=10*4000000:=ZE _ hp;omega
theorem SzL.all{n m:Nat}{l:List It}{acc:List Ac}(h:SzL n m l)(d:n<=10000)(hm:m<=100000)(hr:∀c∈acc,c.right=true)(b:∀c∈acc,Il c=true)(a:acc.length<=1000000):Eg acc l:=
 ⟨h.asc,by have:=h.few;omega,λi e=>(h.each i e).ent d hr b,a,λc f=>by
  have:=b c f;simp only[Il,zD,decide_eq_true_eq] at this;omega⟩
theorem H6(c:Ac)(args:List Tm):(keyOf c args).length=c.positions.length:=by simp[keyOf]
theorem LG{l m:List Tm}:fS l=fS m↔bP l=bP m:=by
 unfold fS;constructor
 .intro h;have:=congrArg (λx:ByteArray=>x.data.toList) h;simpa using this
 .intro h;rw[h]
end Go.CK
namespace Go.CK
open Go.AM Go.Proofs
theorem Ii{acc:List Ac}{its:List It}{k:Int}{key:List Tm}:(sU acc its k key).length<=its.length:=by
 unfold sU;split
 .split
  .split
   .exact Ai _ _ _
   .exact zJ _
  .exact zJ _
 .exact zJ _
end Go.CK
namespace Go.CK
open Go.AM Go.Proofs
variable{ab:List AV}{bs:List Box}{Q:AV->List Box->Prop}
def wR:RC:=
 (.seq (rR [0,3] [oQ 3 (.box 1),oQ 4 (.mov (.c (.int .i64 0)))]) (.seq (rR [4] [qM 5 0,oQ 6 (.pD (.func 139) [] [3]),oQ 7 (cF 138 [5,6]),qM 4 7]) .ret))
theorem w7(hn:ab.length<=8)(h:SP Tryz.prog true ab bs wR [.slot 4] Q):AM.Sem Tryz.prog 79 ab bs Q:=
 oZ (keeps:=[(0,[0,3]),(1,[4])]) (solo:=[]) Tryz.func79 rfl hn h
def te:RC:=
 (.seq (rR [1,2] [oQ 2 (.box 0),oQ 3 (.mov (.c (.bool false)))]) (.seq (rR [3] [qF 4 0 2,qL 5 4,qL 6 1,oQ 7 (.bin .eql 5 6),qM 3 7]) .ret))
theorem tn(hn:ab.length<=8)(h:SP Tryz.prog true ab bs te [.slot 3] Q):AM.Sem Tryz.prog 139 ab bs Q:=
 oZ (keeps:=[(0,[1,2]),(1,[3])]) (solo:=[]) Tryz.func139 rfl hn h
def dq:RC:=
 (.seq (rR [0,1] [oQ 4 (.mov (.c (.int .i64 0)))]) (.seq (.seq (rR [0,1,7,8] [qM 6 0,oQ 7 (.len false 6),oQ 8 (.mov (.c (.int .i64 0)))]) (.block 0 (.loop (.seq (rR [0,1,7,8,9] [oQ 9 (.bin .lss 8 7)]) (.seq (.cond 9 .skip (.exit 0)) (.seq (.block 1 (.seq (rR [0,1,5,7,8] [qM 10 8,qM 5 10]) (.seq (rR [0,1,5,7,8,16] [qM 11 1,qM 12 0,qM 13 5,qI 14 5 12 13,qA 15 5 14,oQ 16 (.dM 11 [15])]) (.cond 16 (.seq (rR [4] [qM 17 5,qM 4 17]) .ret) .skip)))) (rR [0,1,7,8] [oQ 18 (.bin .add 8 (.c (.int .i64 1))),qM 8 18]))))))) (.seq (rR [4] [oQ 4 (.mov (.c (.int .i64 (-1))))]) .ret)))
theorem bL(hn:ab.length<=19)(h:SP Tryz.prog true ab bs dq [.slot 4] Q):AM.Sem Tryz.prog 138 ab bs Q:=
 oZ (keeps:=[(0,[0,1]),(1,[0,1,7,8]),(2,[0,1,7,8,9]),(3,[0,1,5,7,8]),(4,[0,1,5,7,8,16]),(5,[4]),(6,[0,1,7,8]),(7,[4])]) (solo:=[]) Tryz.func138 rfl hn h
def qc:RC:=
 (.seq (rR [0,3] [oQ 3 (.box 1),oQ 4 (.mov (.c (.sl .full [])))]) (.seq (rR [0,3,5] [qM 6 0,oQ 7 (.pD (.func 214) [] [3]),oQ 8 (cF 138 [6,7]),qM 5 8]) (.seq (.seq (rR [0,3,5,10] [qM 9 5,oQ 10 (.bin .lss 9 (.c (.int .i64 0)))]) (.cond 10 (rR [0,3,5] [qM 11 0,oQ 12 (.len false 11),qM 5 12]) .skip)) (.seq (.both [4] [(0,qM 13 0),(0,qM 15 5),(0,qA 16 5 3)] [(2,oQ 14 (cF 77 [13])),(2,oQ 17 (.eff (.bsR 5) [16])),(1,oQ 18 (cF 215 [14,15,17])),(0,oQ 4 (.take 18))] [(2,oQ 17 (.eff (.bsR 5) [16])),(2,oQ 14 (cF 77 [13])),(1,oQ 18 (cF 215 [14,15,17])),(0,oQ 4 (.take 18))]) .ret))))
def oE:RC:=
 (.seq (rR [1,2] [oQ 2 (.box 0),oQ 3 (.mov (.c (.bool false)))]) (.seq (rR [3] [qF 4 0 2,qL 5 4,qF 6 0 1,qL 7 6,oQ 8 (.bin .gtr 5 7),qM 3 8]) .ret))
theorem oJ(hn:ab.length<=9)(h:SP Tryz.prog true ab bs oE [.slot 3] Q):AM.Sem Tryz.prog 214 ab bs Q:=
 oZ (keeps:=[(0,[1,2]),(1,[3])]) (solo:=[]) Tryz.func214 rfl hn h
def bU:RC:=
 (.seq (rR [0] [oQ 2 (.mov (.c (.sl .full [])))]) (.seq (.seq (rR [0,4] [qM 3 0,oQ 4 (.eff (.A5 false) [3])]) (.cond 4 (.seq (rR [2] [oQ 2 (.mov (.c (.sl .full [])))]) .ret) .skip)) (.seq (rR [2] [oQ 5 (.aM 5 []),qM 6 0,oQ 7 (.eff (.oP 5) [5,6]),qM 2 7]) .ret)))
theorem en(hn:ab.length<=8)(h:SP Tryz.prog true ab bs bU [.slot 2] Q):AM.Sem Tryz.prog 77 ab bs Q:=
 oZ (keeps:=[(0,[0]),(1,[0,4]),(2,[2]),(3,[2]),(1000000,[7])]) (solo:=[]) Tryz.func77 rfl hn h
def df:RC:=
 (.seq (rR [0] [oQ 2 (.mov (.c (.sl .full [])))]) (.seq (rR [0,3] [oQ 3 (.mov (.c (.int .i64 0)))]) (.seq (.seq (rR [0,3,9,10,11] [qM 9 0,oQ 10 (.len false 9),oQ 11 (.mov (.c (.int .i64 0)))]) (.block 0 (.loop (.seq (rR [0,3,9,10,11,12] [oQ 12 (.bin .lss 11 10)]) (.seq (.cond 12 .skip (.exit 0)) (.seq (.block 1 (.seq (rR [0,3,5,9,10,11] [qI 13 1 9 11,qL 14 13,qM 5 14]) (.seq (rR [0,3,9,10,11] [qM 15 3,qM 16 5,oQ 17 (.len false 16),oQ 18 (.bin .add 15 17),qM 3 18]) (.seq (rR [0,3,9,10,11,20] [qM 19 3,oQ 20 (.bin .lss 19 (.c (.int .i64 0)))]) (.cond 20 (.cond (.c .top) .skip .skip) .skip))))) (rR [0,3,9,10,11] [oQ 22 (.bin .add 11 (.c (.int .i64 1))),qM 11 22]))))))) (.seq (rR [0,6] [qM 23 3,oQ 24 (cF 188 [(.c (.sl .full [])),23]),qM 6 24]) (.seq (.seq (rR [6,25,26,27] [qM 25 0,oQ 26 (.len false 25),oQ 27 (.mov (.c (.int .i64 0)))]) (.block 2
 (.loop (.seq (rR [6,25,26,27,28] [oQ 28 (.bin .lss 27 26)]) (.seq (.cond 28 .skip (.exit 2)) (.seq (.block 3 (.seq (rR [6,8,25,26,27] [qI 29 1 25 27,qL 30 29,qM 8 30]) (rR [6,25,26,27] [qM 31 6,qM 32 8,oQ 33 (.eff (.oP 8) [31,32]),qM 6 33]))) (rR [6,25,26,27] [oQ 34 (.bin .add 27 (.c (.int .i64 1))),qM 27 34]))))))) (.seq (rR [2] [qM 35 6,qM 2 35]) .ret))))))
def dC:RC:=
 (.seq (rR [0,1] [oQ 4 (.mov (.c (.sl .full [])))]) (.seq (.seq (rR [0,1,6] [qM 5 1,oQ 6 (.bin .lss 5 (.c (.int .i64 0)))]) (.cond 6 (.cond (.c .top) .skip .skip) .skip)) (.seq (.seq (rR [0,1] [qM 8 1,qM 9 0,oQ 10 (.more .cap [9]),qM 11 0,oQ 12 (.len false 11),oQ 13 (.bin .sub 10 12),oQ 14 (.bin .sub 8 13),qM 1 14]) (.seq (rR [0,1,16] [qM 15 1,oQ 16 (.bin .gtr 15 (.c (.int .i64 0)))]) (.cond 16 (rR [0] [qM 17 0,qM 18 0,oQ 19 (.more .cap [18]),oQ 20 (.eff .slN [17,19]),qM 21 1,oQ 22 (.eff (.sq 8) [20,21]),qM 23 0,oQ 24 (.len false 23),oQ 25 (.slc 8 22 none (some 24) none),qM 0 25]) .skip))) (.seq (rR [4] [qM 26 0,qM 4 26]) .ret))))
def wQ:RC:=
 (.seq (rR [0,3] [oQ 3 (.box 1),oQ 4 (.mov (.c (.sl .full []))),oQ 5 (.mov (.c (.sl .full []))),oQ 6 (.mov (.c (.bool false)))]) (.seq (.seq (rR [0,3,10] [qF 8 0 3,qF 9 0 8,qL 10 9]) (.block 0 (.seq (rR [0,3,10,11] [oQ 12 (.bin .eql 10 (.c (.int .i64 1))),qM 11 12]) (.cond 11 (.seq (.seq (rR [0,3,7] [qM 13 0,qF 14 0 3,qF 15 1 14,qL 16 15,oQ 17 (cF 79 [13,16]),qM 7 17]) (.seq (rR [0,3,7,19] [qM 18 7,oQ 19 (.bin .geq 18 (.c (.int .i64 0)))]) (.cond 19 (.seq (.reg true [4,5,6] [qM 20 0,qM 21 0,qM 22 7,qI 23 5 21 22,qF 24 1 23,qA 25 4 24,qF 26 4 3,qA 27 4 26,oQ 28 (cF 186 [25,27]),qM 4 20,oQ 5 (.mov (.c (.sl .full []))),oQ 6 (.take 28)]) .ret) .skip))) (.seq (rR [4,5,6] [qM 29 0,qF 30 0 3,qF 31 1 30,qL 32 31,qF 33 4 3,qA 34 4 33,oQ 35 (.build [(.int .i64 0),(.int .i64 0),(.int .i64 0),(.str ⟨⟨[]⟩⟩),(.sl .full [])] [(0,1,32),(1,4,34)]),oQ 36 (cF 187 [29,35]),qM 4 36,oQ 5 (.mov (.c (.sl .full []))),oQ 6 (.mov (.c (.bool true)))])
 .ret)) (.seq (rR [0,3,37] [oQ 38 (.bin .eql 10 (.c (.int .i64 2))),qM 37 38]) (.cond 37 (.seq (.seq (rR [0,3,62] [qF 39 4 3,qF 40 0 39,qL 41 40,oQ 42 (.bin .neq 41 (.c (.int .i64 2))),qM 43 42,oG 44 43 false (.aL 4 3),oG 45 43 false (.aL 2 44),oG 46 43 false (.load false 1 45),oG 47 43 false (.aL 0 3),oG 48 43 false (.aL 2 47),oG 49 43 false (.load false 1 48),oG 50 43 false (.bin .neq 46 49),oQ 51 (.pick 43 (.c (.bool true)) 50),qM 52 51,oG 53 52 false (.aL 4 3),oG 54 52 false (.aL 3 53),oG 55 52 false (.load false 1 54),oG 56 52 false (.len false 55),oG 57 52 false (.aL 0 3),oG 58 52 false (.aL 3 57),oG 59 52 false (.load false 1 58),oG 60 52 false (.len false 59),oG 61 52 false (.bin .neq 56 60),oQ 62 (.pick 52 (.c (.bool true)) 61)]) (.cond 62 (.seq (rR [4,5,6] [oQ 4 (.mov (.c (.sl .full []))),oQ 5 (.mov (.c (.sl .full []))),oQ 6 (.mov (.c (.bool false)))])
 .ret) .skip)) (.seq (rR [4,5,6] [qM 63 0,qF 64 0 3,qF 65 3 64,qL 66 65,qF 67 4 3,qF 68 3 67,qL 69 68,oQ 70 (cF 78 [66,69]),qM 4 63,qM 5 70,oQ 6 (.mov (.c (.bool true)))]) .ret)) .skip)))))) (.seq (rR [4,5,6] [qM 71 0,qF 72 0 3,qA 73 4 72,qF 74 4 3,qA 75 4 74,oQ 76 (cF 186 [73,75]),qM 4 71,oQ 5 (.mov (.c (.sl .full []))),qM 6 76]) .ret)))
theorem dH(hn:ab.length<=77)(h:SP Tryz.prog true ab bs wQ [.slot 4,.slot 5,.slot 6] Q):AM.Sem Tryz.prog 136 ab bs Q:=
 oZ (keeps:=[(0,[0,3]),(1,[0,3,10]),(2,[0,3,10,11]),(7,[0,3,37]),(8,[0,3,62]),(9,[4,5,6]),(10,[4,5,6]),(3,[0,3,7]),(4,[0,3,7,19]),(5,[4,5,6]),(6,[4,5,6]),(11,[4,5,6])]) (solo:=[]) Tryz.func136 rfl hn h
def AA:RC:=
 (.seq (rR [0,1] [oQ 4 (.mov (.c (.sl .full []))),oQ 5 (.mov (.c (.bool false)))]) (.seq (.block 0 (.loop (.seq (.seq (rR [0,1,11] [qM 9 1,oQ 10 (.len false 9),oQ 11 (.bin .gtr 10 (.c (.int .i64 0)))]) (.cond 11 .skip (.exit 0))) (.block 1 (.seq (rR [1,6,7,8] [qM 13 0,qM 14 1,oQ 15 (.idx 8 14 (.c (.int .i64 0))),qA 16 8 15,oQ 17 (cF 136 [13,16]),qM 12 17,oQ 18 (.ext 0 12),oQ 19 (.ext 1 12),oQ 20 (.ext 2 12),qM 6 18,qM 7 19,qM 8 20]) (.seq (.seq (rR [1,6,7,22] [qM 21 8,oQ 22 (.un .not 21)]) (.cond 22 (.seq (rR [4,5] [oQ 4 (.mov (.c (.sl .full []))),oQ 5 (.mov (.c (.bool false)))]) .ret) .skip)) (rR [0,1] [qM 23 6,qM 24 7,qM 25 1,oQ 26 (.slc 8 25 (some (.c (.int .i64 1))) none none),oQ 27 (.aM 1 [24,26]),oQ 28 (cF 137 [27]),qM 0 23,qM 1 28]))))))) (.seq (rR [4,5] [qM 29 0,qM 4 29,oQ 5 (.mov (.c (.bool true)))]) .ret)))
theorem AZ(hn:ab.length<=30)(h:SP Tryz.prog true ab bs AA [.slot 4,.slot 5] Q):AM.Sem Tryz.prog 76 ab bs Q:=
 oZ (keeps:=[(0,[0,1]),(1,[0,1,11]),(2,[1,6,7,8]),(3,[1,6,7,22]),(4,[4,5]),(5,[0,1]),(6,[4,5])]) (solo:=[]) Tryz.func76 rfl hn h
def wS:RC:=
 (.seq (rR [0,4,5] [oQ 4 (.box 1),oQ 5 (.box 2),oQ 6 (.mov (.c (.sl .full []))),oQ 7 (.mov (.c (.bool false)))]) (.seq (.seq (rR [0,4,5,21] [qF 8 0 4,qL 9 8,qF 10 0 5,qL 11 10,oQ 12 (.bin .neq 9 11),qM 13 12,oG 14 13 false (.aL 1 4),oG 15 13 false (.load false 1 14),oG 16 13 false (.len false 15),oG 17 13 false (.aL 1 5),oG 18 13 false (.load false 1 17),oG 19 13 false (.len false 18),oG 20 13 false (.bin .neq 16 19),oQ 21 (.pick 13 (.c (.bool true)) 20)]) (.cond 21 (.seq (rR [6,7] [oQ 6 (.mov (.c (.sl .full []))),oQ 7 (.mov (.c (.bool false)))]) .ret) .skip)) (.seq (.reg true [6,7] [oQ 22 (.take 0),oQ 23 (cF 77 [22]),qF 24 1 4,qL 25 24,qF 26 1 5,qL 27 26,oQ 28 (cF 78 [25,27]),oQ 29 (cF 76 [23,28]),oQ 30 (.ext 0 29),oQ 31 (.ext 1 29),oQ 6 (.take 30),oQ 7 (.take 31)]) .ret)))
theorem fp(hn:ab.length<=32)(h:SP Tryz.prog true ab bs wS [.slot 6,.slot 7] Q):AM.Sem Tryz.prog 28 ab bs Q:=
 oZ (keeps:=[(0,[0,4,5]),(1,[0,4,5,21]),(2,[6,7]),(3,[6,7])]) (solo:=[]) Tryz.func28 rfl hn h
def qd:RC:=
 (.seq (rR [0,1,5,6] [oQ 5 (.box 2),oQ 6 (.box (.c (.agg [(.int .i64 0),(.int .i64 0),(.str ⟨⟨[]⟩⟩),(.sl .full [])])))]) (.seq (.seq (rR [0,1,5,6,11] [qF 10 0 5,qL 11 10]) (.block 0 (.seq (rR [0,1,5,6,11,12] [oQ 13 (.bin .eql 11 (.c (.int .i64 1))),qM 12 13]) (.cond 12 (.seq (.seq (rR [0,1,5,6,7] [qM 14 0,qF 15 1 5,qL 16 15,oQ 17 (cF 79 [14,16]),qM 7 17]) (.seq (rR [0,1,5,6,7,19] [qM 18 7,oQ 19 (.bin .geq 18 (.c (.int .i64 0)))]) (.cond 19 (.seq (rR [6] [qM 20 0,qM 21 7,qI 22 5 20 21,qF 23 1 22,qA 24 4 23,oN (.store 4 6 24)]) .ret) .skip))) (.seq (rR [1,6,8] [qF 25 1 5,qL 26 25,qM 8 26]) (.seq (.seq (rR [1,6,8,9] [qM 27 1,oQ 28 (.bin .gtr 27 (.c (.int .i64 0))),qM 29 28,oG 30 29 true (.mov 8),oG 31 29 true (.mov 1),oG 32 29 true (.bin .sub (.c (.int .i64 9223372036854775807)) 31),oG 33 29 true (.bin .gtr 30 32),oQ 34 (.pick 29 33 (.c (.bool false))),qM 9 34])
 (.seq (rR [1,6,8,46] [qM 35 9,oQ 36 (.un .not 35),qM 37 36,oG 38 37 true (.mov 1),oG 39 37 true (.bin .geq 38 (.c (.int .i64 0))),oG 40 37 true (.mov 39),oG 41 40 false (.mov 8),oG 42 40 false (.mov 1),oG 43 40 false (.bin .sub (.c (.int .i64 (-9223372036854775808))) 42),oG 44 40 false (.bin .geq 41 43),oG 45 37 true (.pick 40 (.c (.bool true)) 44),oQ 46 (.pick 37 45 (.c (.bool false)))]) (.cond 46 (rR [6,8] [qM 47 8,qM 48 1,oQ 49 (.bin .add 47 48),qM 8 49]) .skip))) (.seq (rR [6] [qM 50 8,oQ 51 (cF 80 [50]),oN (.store 4 6 51)]) .ret)))) (.seq (rR [0,1,5,6,11,52] [oQ 53 (.bin .eql 11 (.c (.int .i64 0))),qM 52 53]) (.cond 52 (.seq (rR [6] [qF 54 1 5,qL 55 54,oQ 56 (cF 81 [55]),oN (.store 4 6 56)]) .ret) (.seq (rR [0,1,5,6,57] [oQ 58 (.bin .eql 11 (.c (.int .i64 2))),qM 57 58]) (.cond 57 (.seq (.reg true [6] [qF 59 2 5,qL 60 59,oQ 61 (.take 0),oQ 62 (.take 1),qF 63 3 5,qL 64 63,oQ 65 (cF 83 [61,62,64]),oQ 66 (cF 82 [60,65]),oN (.store 4 6 66)])
 .ret) .skip)))))))) (.seq (rR [6] [qA 67 4 5,oN (.store 4 6 67)]) .ret)))
theorem qm(hn:ab.length<=68)(h:SP Tryz.prog true ab bs qd [.cell 6 true 4] Q):AM.Sem Tryz.prog 29 ab bs Q:=
 oZ (keeps:=[(0,[0,1,5,6]),(1,[0,1,5,6,11]),(2,[0,1,5,6,11,12]),(11,[0,1,5,6,11,52]),(13,[0,1,5,6,57]),(14,[6]),(12,[6]),(3,[0,1,5,6,7]),(4,[0,1,5,6,7,19]),(5,[6]),(6,[1,6,8]),(7,[1,6,8,9]),(8,[1,6,8,46]),(9,[6,8]),(10,[6]),(15,[6])]) (solo:=[]) Tryz.func29 rfl hn h
def pn:RC:=
 (.seq (rR [0,1,2] [oQ 6 (.mov (.c (.sl .full [])))]) (.seq (rR [0,1,2,7] [oQ 7 (.mov (.c (.sl .full [])))]) (.seq (.seq (rR [0,1,7,10,11,12] [qM 10 2,oQ 11 (.len false 10),oQ 12 (.mov (.c (.int .i64 0)))]) (.block 0 (.loop (.seq (rR [0,1,7,10,11,12,13] [oQ 13 (.bin .lss 12 11)]) (.seq (.cond 13 .skip (.exit 0)) (.seq (.block 1 (.seq (rR [0,1,7,9,10,11,12] [qI 14 4 10 12,qA 15 4 14,oQ 9 (.box (.c (.agg [(.int .i64 0),(.int .i64 0),(.str ⟨⟨[]⟩⟩),(.sl .full [])]))),oN (.store 4 9 15)]) (rR [0,1,7,10,11,12] [qM 16 7,qM 17 0,qM 18 1,qA 19 4 9,oQ 20 (cF 29 [17,18,19]),oQ 21 (.aM 4 [20]),oQ 22 (.append 4 16 21),qM 7 22]))) (rR [0,1,7,10,11,12] [oQ 23 (.bin .add 12 (.c (.int .i64 1))),qM 12 23]))))))) (.seq (rR [6] [qM 24 7,qM 6 24]) .ret))))
theorem px(hn:ab.length<=25)(h:SP Tryz.prog true ab bs pn [.slot 6] Q):AM.Sem Tryz.prog 83 ab bs Q:=
 oZ (keeps:=[(0,[0,1,2]),(1,[0,1,2,7]),(2,[0,1,7,10,11,12]),(3,[0,1,7,10,11,12,13]),(4,[0,1,7,9,10,11,12]),(5,[0,1,7,10,11,12]),(6,[0,1,7,10,11,12]),(7,[6])]) (solo:=[]) Tryz.func83 rfl hn h
def td:RC:=
 (.seq (rR [0,1] [oQ 4 (.mov (.c (.sl .full [])))]) (.seq (rR [0,1,5] [qM 7 0,oQ 8 (.len false 7),oQ 9 (.mk 8 (.agg [(.int .i64 0),(.int .i64 0),(.str ⟨⟨[]⟩⟩),(.sl .full []),(.int .i64 0),(.int .i64 0),(.str ⟨⟨[]⟩⟩),(.sl .full [])]) (.c (.int .i64 0)) 8),qM 5 9]) (.seq (.seq (rR [0,1,5,11,12] [qM 10 0,oQ 11 (.len false 10),oQ 12 (.mov (.c (.int .i64 0)))]) (.block 0 (.loop (.seq (rR [0,1,5,11,12,13] [oQ 13 (.bin .lss 12 11)]) (.seq (.cond 13 .skip (.exit 0)) (.seq (.block 1 (.seq (rR [0,1,5,6,11,12] [qM 14 12,qM 6 14]) (.reg true [0,1,5,11,12] [oQ 15 (.take 5),qM 16 0,qM 17 6,qI 18 4 16 17,qA 19 4 18,qM 20 1,qM 21 6,qI 22 4 20 21,qA 23 4 22,oQ 24 (.build [(.int .i64 0),(.int .i64 0),(.str ⟨⟨[]⟩⟩),(.sl .full []),(.int .i64 0),(.int .i64 0),(.str ⟨⟨[]⟩⟩),(.sl .full [])] [(0,4,19),(4,4,23)]),oQ 25 (.aM 8 [24]),oQ 26 (.append 8 15 25),oQ 5 (.take 26)])))
 (rR [0,1,5,11,12] [oQ 27 (.bin .add 12 (.c (.int .i64 1))),qM 12 27]))))))) (.seq (rR [4] [qM 28 5,qM 4 28]) .ret))))
theorem tl(hn:ab.length<=29)(h:SP Tryz.prog true ab bs td [.slot 4] Q):AM.Sem Tryz.prog 78 ab bs Q:=
 oZ (keeps:=[(0,[0,1]),(1,[0,1,5]),(2,[0,1,5,11,12]),(3,[0,1,5,11,12,13]),(4,[0,1,5,6,11,12]),(5,[0,1,5,11,12]),(6,[0,1,5,11,12]),(7,[4])]) (solo:=[]) Tryz.func78 rfl hn h
def e7:RC:=
 (.seq (rR [2,3,4] [oQ 3 (.box 0),oQ 4 (.box 1),oQ 6 (.mov (.c (.bool false)))]) (.seq (.seq (rR [2,3,4,28] [oQ 27 (cF 18 []),oQ 28 (.un .not 27)]) (.cond 28 (.seq (rR [6] [oQ 6 (.mov (.c (.bool false)))]) .ret) .skip)) (.seq (rR [2,3,4,8] [qA 30 2 3,oQ 31 (cF 19 [30]),qM 29 31,oQ 32 (.ext 0 29),oQ 33 (.ext 1 29),qM 7 32,qM 8 33]) (.seq (.seq (rR [2,3,4,57] [qA 34 2 3,oQ 35 (cF 20 [34,(.c (.sl .full []))]),qM 36 35,oG 37 36 false (.mov 8),oG 38 36 false (.bin .neq 37 (.c (.int .i64 0))),oQ 39 (.pick 36 (.c (.bool true)) 38),qM 40 39,oG 41 40 false (.aL 0 4),oG 42 40 false (.load false 1 41),oG 43 40 false (.len false 42),oG 44 40 false (.bin .gtr 43 (.c (.int .i64 12))),oQ 45 (.pick 40 (.c (.bool true)) 44),qM 46 45,oG 47 46 false (.aL 0 4),oG 48 46 false (.load false 1 47),oG 49 46 false (cF 26 [48]),oG 50 46 false (.un .not 49),oQ 51 (.pick 46 (.c (.bool true)) 50),qM 52 51,oG 53 52 false (.aL 0 4),oG 54 52 false (.load false 1 53),oG 55 52 false (.len false 54),oG 56 52 false (.bin .eql 55 (.c (.int .i64 0))),oQ 57 (.pick 52 (.c (.bool true)) 56)])
 (.cond 57 (.seq (rR [6] [oQ 6 (.mov (.c (.bool true)))]) .ret) .skip)) (.seq (rR [2,3,4,9] [qA 58 2 3,oQ 59 (cF 21 [58]),qM 9 59]) (.seq (.seq (rR [2,3,4,9,62] [qM 60 9,oQ 61 (.len false 60),oQ 62 (.bin .eql 61 (.c (.int .i64 0)))]) (.cond 62 (.seq (rR [6] [oQ 6 (.mov (.c (.bool true)))]) .ret) .skip)) (.seq (rR [3,4,9,10] [qM 63 9,qM 64 2,oQ 65 (.conv (some .u64) 64),qM 66 9,oQ 67 (.len false 66),oQ 68 (.conv (some .u64) 67),oQ 69 (.bin .rem 65 68),oQ 70 (.conv (some .i64) 69),qI 71 6 63 70,qA 72 6 71,oQ 10 (.box (.c (.agg [(.int .i64 0),(.int .i64 0),(.bool false),(.sl .full []),(.sl .full []),(.sl .full [])]))),oN (.store 6 10 72)]) (.seq (.seq (rR [3,4,9,10,85] [qF 73 0 10,qF 74 0 73,qL 75 74,oQ 76 (.bin .lss 75 (.c (.int .i64 0))),qM 77 76,oG 78 77 false (.aL 0 10),oG 79 77 false (.aL 0 78),oG 80 77 false (.load false 1 79),oG 81 77 false (.aL 1 3),oG 82 77 false (.load false 1 81),oG 83 77 false (.len false 82),oG 84 77 false (.bin .geq 80 83),oQ 85 (.pick 77 (.c (.bool true)) 84)])
 (.cond 85 (.seq (rR [6] [oQ 6 (.mov (.c (.bool false)))]) .ret) .skip)) (.seq (rR [3,4,9,10,11] [qF 86 1 3,qL 87 86,qF 88 0 10,qF 89 0 88,qL 90 89,qI 91 6 87 90,qA 92 6 91,oQ 93 (cF 27 [92]),qM 11 93]) (.seq (.seq (rR [3,4,9,10,11,97] [qF 94 3 10,qL 95 94,oQ 96 (.len false 95),oQ 97 (.bin .eql 96 (.c (.int .i64 0)))]) (.cond 97 (.seq (rR [6] [oQ 6 (.mov (.c (.bool true)))]) .ret) .skip)) (.seq (.seq (rR [3,4,9,10,11,125] [qF 98 0 10,qF 99 1 98,qL 100 99,oQ 101 (.bin .lss 100 (.c (.int .i64 0))),qM 102 101,oG 103 102 false (.aL 0 10),oG 104 102 false (.aL 1 103),oG 105 102 false (.load false 1 104),oG 106 102 false (.mov 11),oG 107 102 false (.len false 106),oG 108 102 false (.bin .geq 105 107),oQ 109 (.pick 102 (.c (.bool true)) 108),qM 110 109,oG 111 110 false (.aL 3 10),oG 112 110 false (.load false 1 111),oG 113 110 false (.idx 1 112 (.c (.int .i64 0))),oG 114 110 false (.load false 1 113),oG 115 110 false (.bin .lss 114 (.c (.int .i64 0))),oQ 116 (.pick 110 (.c (.bool true)) 115),qM 117 116,oG 118 117 false (.aL 3 10),oG 119 117 false (.load false 1 118),oG 120 117 false (.idx 1 119 (.c (.int .i64 0))),oG 121 117 false (.load false 1 120),oG 122 117 false (.mov 11),oG 123 117 false (.len false 122),oG 124 117 false (.bin .geq 121 123),oQ 125 (.pick 117 (.c (.bool true)) 124)])
 (.cond 125 (.seq (rR [6] [oQ 6 (.mov (.c (.bool false)))]) .ret) .skip)) (.seq (.reg true [3,4,9,10,11,12] [qF 126 0 4,qL 127 126,qF 128 1 4,qL 129 128,oQ 130 (.conv (some .u64) 129),qF 131 0 4,qL 132 131,oQ 133 (.len false 132),oQ 134 (.conv (some .u64) 133),oQ 135 (.bin .rem 130 134),oQ 136 (.conv (some .i64) 135),qI 137 3 127 136,qA 138 3 137,oQ 12 (.box (.c (.agg [(.int .i64 0),(.str ⟨⟨[]⟩⟩),(.sl .full [])]))),oN (.store 3 12 138)]) (.seq (.reg true [3,4,9,10,11,13,14] [oQ 140 (.take 11),qF 141 0 10,qF 142 1 141,qL 143 142,qI 144 2 140 143,qA 145 2 144,qF 146 1 12,qA 147 2 146,oQ 148 (cF 28 [(.c (.sl .full [])),145,147]),oQ 139 (.take 148),oQ 149 (.ext 0 139),oQ 150 (.ext 1 139),oQ 13 (.take 149),oQ 14 (.take 150)]) (.seq (.seq (rR [3,4,9,10,11,13,152] [qM 151 14,oQ 152 (.un .not 151)]) (.cond 152 (.seq (rR [6] [oQ 6 (.mov (.c (.bool true)))])
 .ret) .skip)) (.seq (rR [3,4,10,11,13,15] [qA 153 2 3,qM 154 9,oQ 155 (cF 22 [153,154]),qM 15 155]) (.seq (rR [3,4,10,11,13,15,16,17] [qF 157 0 4,qL 158 157,qM 159 15,oQ 160 (cF 11 [158,159]),qM 156 160,oQ 161 (.ext 0 156),oQ 162 (.ext 1 156),qM 16 161,qM 17 162]) (.seq (.seq (rR [3,4,10,11,13,15,16,17,168] [qM 163 17,oQ 164 (.bin .neq 163 (.c (.int .i64 0))),qM 165 164,oG 166 165 false (.mov 16),oG 167 165 false (.more (.eqP false) [166,(.c .kB)]),oQ 168 (.pick 165 (.c (.bool true)) 167)]) (.cond 168 (.seq (rR [6] [qM 169 17,oQ 170 (.bin .eql 169 (.c (.int .i64 6))),qM 6 170]) .ret) .skip)) (.seq (rR [3,4,10,11,13,15,16,18] [qA 171 2 3,qA 172 6 10,oQ 173 (cF 25 [171,172,(.c (.int .i64 0))]),qM 18 173]) (.seq (rR [3,4,10,11,13,15,16,18,19] [oQ 19 (.mov (.c (.sl .full [])))]) (.seq (.seq (rR [3,4,10,11,13,15,16,18,19,20] [
 oQ 20 (.mov (.c (.int .i64 0)))]) (.block 0 (.loop (.seq (.seq (rR [3,4,10,11,13,15,16,18,19,20,177] [qM 174 20,qM 175 18,oQ 176 (.len false 175),oQ 177 (.bin .lss 174 176)]) (.cond 177 .skip (.exit 0))) (.seq (.block 1 (rR [3,4,10,11,13,15,16,18,19,20] [qM 180 19,qM 181 13,qM 182 18,qM 183 20,qI 184 4 182 183,qA 185 4 184,oQ 186 (cF 29 [181,(.c (.int .i64 0)),185]),oQ 187 (.aM 4 [186]),oQ 188 (.append 4 180 187),qM 19 188])) (rR [3,4,10,11,13,15,16,18,19,20] [qM 178 20,oQ 179 (.bin .add 178 (.c (.int .i64 1))),qM 20 179])))))) (.seq (rR [4,10,11,13,21] [qM 189 16,qA 190 2 3,qM 191 15,qA 192 6 10,oQ 193 (cF 23 [190,191,192,(.c (.int .i64 0))]),qM 194 19,oQ 195 (cF 13 [189,193,194]),qM 21 195]) (.seq (.seq (rR [4,10,11,13,21,22] [oQ 22 (.mov (.c (.int .i64 0)))]) (.block 2 (.loop (.seq (.seq (rR [4,10,11,13,21,22,200] [
 qM 196 22,qF 197 0 4,qL 198 197,oQ 199 (.len false 198),oQ 200 (.bin .lss 196 199)]) (.cond 200 .skip (.exit 2))) (.seq (.block 3 (.seq (.reg true [4,10,11,13,21,22,24] [oQ 204 (.take 13),oQ 205 (.take 11),qF 206 3 10,qL 207 206,oQ 208 (.idx 1 207 (.c (.int .i64 0))),qL 209 208,qI 210 2 205 209,qA 211 2 210,qF 212 0 4,qL 213 212,oQ 214 (.take 22),qI 215 3 213 214,qF 216 1 215,qA 217 2 216,oQ 218 (cF 28 [204,211,217]),oQ 203 (.take 218),oQ 219 (.ext 0 203),oQ 220 (.ext 1 203),oQ 23 (.take 219),oQ 24 (.take 220)]) (.seq (rR [4,10,11,13,21,22,24,25] [oQ 25 (.mov (.c (.bool false)))]) (.seq (.seq (rR [4,10,11,13,21,22,24,25,26] [oQ 26 (.mov (.c (.int .i64 0)))]) (.block 4 (.loop (.seq (.seq (rR [4,10,11,13,21,22,24,25,26,224] [qM 221 26,qM 222 21,oQ 223 (.len false 222),oQ 224 (.bin .lss 221 223)]) (.cond 224 .skip (.exit 4))) (.seq
 (.block 5 (.reg true [4,10,11,13,21,22,24,25,26] [oQ 227 (.take 25),oQ 228 (.take 227),oG 229 228 false (.take 21),oG 230 228 false (.take 26),oG 231 228 false (.idx 1 229 230),oG 232 228 false (.load false 1 231),oG 233 228 false (.aL 0 4),oG 234 228 false (.load false 1 233),oG 235 228 false (.take 22),oG 236 228 false (.idx 3 234 235),oG 237 228 false (.aL 0 236),oG 238 228 false (.load false 1 237),oG 239 228 false (.bin .eql 232 238),oQ 240 (.pick 228 (.c (.bool true)) 239),oQ 25 (.take 240)])) (rR [4,10,11,13,21,22,24,25,26] [qM 225 26,oQ 226 (.bin .add 225 (.c (.int .i64 1))),qM 26 226])))))) (.seq (rR [4,10,11,13,21,22,245] [qM 241 24,qM 242 241,oG 243 242 true (.mov 25),oG 244 242 true (.un .not 243),oQ 245 (.pick 242 244 (.c (.bool false)))]) (.cond 245 (.seq (rR [6] [oQ 6 (.mov (.c (.bool false)))]) .ret) .skip)))))) (rR [4,10,11,13,21,22] [
 qM 201 22,oQ 202 (.bin .add 201 (.c (.int .i64 1))),qM 22 202])))))) (.seq (rR [6] [oQ 6 (.mov (.c (.bool true)))]) .ret)))))))))))))))))))))))
def Cm:RC:=
 (.seq (rR [0,1,4] [oQ 4 (.box (.c (.agg [(.int .i64 0),(.int .i64 0),(.str ⟨⟨[]⟩⟩),(.sl .full [])])))]) (.seq (rR [4] [qM 5 0,qM 6 1,oQ 7 (.build [(.int .i64 0),(.int .i64 0),(.str ⟨⟨[]⟩⟩),(.sl .full [])] [(0,1,(.c (.int .i64 2))),(2,1,5),(3,1,6)]),oN (.store 4 4 7)]) .ret))
theorem CB(hn:ab.length<=8)(h:SP Tryz.prog true ab bs Cm [.cell 4 true 4] Q):AM.Sem Tryz.prog 82 ab bs Q:=
 oZ (keeps:=[(0,[0,1,4]),(1,[4])]) (solo:=[]) Tryz.func82 rfl hn h
theorem pz(hn:ab.length<=19)(h:SP Tryz.prog false ab bs qc [.slot 4] Q):AM.Sem Tryz.prog 187 ab bs Q:=
 oZ (keeps:=[(0,[0,3]),(1,[0,3,5]),(2,[0,3,5,10]),(3,[0,3,5]),(4,[4]),(1000000,[17]),(4000004,[1,4,0,2,3]),(5000004,[4,5,6]),(6000004,[1,5,6]),(3000004,[0,2,0,0,2,1,0])]) (solo:=[]) Tryz.func187 rfl hn h
theorem dW(hn:ab.length<=8)(h:SP Tryz.prog false ab bs bU [.slot 2] Q):AM.Sem Tryz.prog 77 ab bs Q:=
 oZ (keeps:=[(0,[0]),(1,[0,4]),(2,[2]),(3,[2]),(1000000,[7])]) (solo:=[]) Tryz.func77 rfl hn h
theorem c8(hn:ab.length<=36)(h:SP Tryz.prog false ab bs df [.slot 2] Q):AM.Sem Tryz.prog 137 ab bs Q:=
 oZ (keeps:=[(0,[0]),(1,[0,3]),(2,[0,3,9,10,11]),(3,[0,3,9,10,11,12]),(4,[0,3,5,9,10,11]),(5,[0,3,9,10,11]),(6,[0,3,9,10,11,20]),(7,[0,3,9,10,11]),(8,[0,3,9,10,11]),(9,[0,6]),(10,[6,25,26,27]),(11,[6,25,26,27,28]),(12,[6,8,25,26,27]),(13,[6,25,26,27]),(14,[6,25,26,27]),(15,[2]),(1000000,[33]),(1000001,[7])]) (solo:=[]) Tryz.func137 rfl hn h
theorem du(hn:ab.length<=27)(h:SP Tryz.prog false ab bs dC [.slot 4] Q):AM.Sem Tryz.prog 188 ab bs Q:=
 oZ (keeps:=[(0,[0,1]),(1,[0,1,6]),(2,[0,1]),(3,[0,1]),(4,[0,1,16]),(5,[0]),(6,[4]),(1000000,[20,22]),(1000001,[2])]) (solo:=[]) Tryz.func188 rfl hn h
theorem eS(hn:ab.length<=246)(h:SP Tryz.prog false ab bs e7 [.slot 6] Q):AM.Sem Tryz.prog 5 ab bs Q:=
 oZ (keeps:=[(0,[2,3,4]),(1,[2,3,4,28]),(2,[6]),(3,[2,3,4,8]),(4,[2,3,4,57]),(5,[6]),(6,[2,3,4,9]),(7,[2,3,4,9,62]),(8,[6]),(9,[3,4,9,10]),(10,[3,4,9,10,85]),(11,[6]),(12,[3,4,9,10,11]),(13,[3,4,9,10,11,97]),(14,[6]),(15,[3,4,9,10,11,125]),(16,[6]),(17,[3,4,9,10,11,12]),(18,[3,4,9,10,11,13,14]),(19,[3,4,9,10,11,13,152]),(20,[6]),(21,[3,4,10,11,13,15]),(22,[3,4,10,11,13,15,16,17]),(23,[3,4,10,11,13,15,16,17,168]),(24,[6]),(25,[3,4,10,11,13,15,16,18]),(26,[3,4,10,11,13,15,16,18,19]),(27,[3,4,10,11,13,15,16,18,19,20]),(28,[3,4,10,11,13,15,16,18,19,20,177]),(30,[3,4,10,11,13,15,16,18,19,20]),(29,[3,4,10,11,13,15,16,18,19,20]),(31,[4,10,11,13,21]),(32,[4,10,11,13,21,22]),(33,[4,10,11,13,21,22,200]),(35,[4,10,11,13,21,22,24]),(36,[4,10,11,13,21,22,24,25]),(37,[4,10,11,13,21,22,24,25,26]),(38,[4,10,11,13,21,22,24,25,26,224]),(40,[4,10,11,13,21,22,24,25,26]),(39,[4,10,11,13,21,22,24,25,26]),(41,[4,10,11,13,21,22,245]),(42,[6]),(34,[4,10,11,13,21,22]),(43,[6])]) (solo:=[]) Tryz.func5 rfl hn h
end Go.CK
