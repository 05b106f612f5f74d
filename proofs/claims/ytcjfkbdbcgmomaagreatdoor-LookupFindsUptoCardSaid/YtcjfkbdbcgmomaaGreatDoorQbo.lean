/-
  By an AI agent.
-/
import Derived.Test.YtcjfkbdbcgmomaaGreatDoorQbn
import Derived.Test.YtcjfkbdbcgmomaaGreatDoorRows
import Derived.ProofKit
import Derived.OpenShut
import Derived.ShutString
import Derived.ChangeOld
import Derived.JoinedCond
import Derived.Deep.Slices
import Derived.Lib.SmallJoins
set_option linter.unusedSimpArgs false
set_option linter.unusedVariables false
set_option maxRecDepth 100000
namespace Go.CK
open Go.AM Go.Proofs
theorem wrap_u64(n:Int):∃u,IntKind.u64.wrap n=u/\0<=u/\u<=18446744073709551615:=by
 have e:IntKind.u64.wrap n=n %18446744073709551616:=by simp[IntKind.wrap,IntKind.signed,IntKind.bits]
 exact⟨_,e,by omega,by omega⟩
theorem BN{u:Int}{n:Nat}(a:0<n)(h:0<=u):∃m:Nat,u.tmod n=m/\m<n:=by
 obtain⟨k,rfl⟩:=Int.eq_ofNat_of_zero_le h;exact⟨k %n,rfl,yT _ a⟩
theorem Ao{l:List It}(h:cC l=true):∀i∈l,i.atom.right=true:=λi a=>by
 simp only[cC,zD] at h;exact((tG h.2).2 i a).2
theorem Mm{a:List Tm}{l:List Int}(h:∀x∈l,0<=x/\x<a.length):∀t∈fK a l,t∈a:=λt c=>by
 rw[vo h] at c;obtain⟨q,d,rfl⟩:=zk.1 c;obtain⟨f,e⟩:=h q d;have b:q.toNat<a.length:=by omega
 rw[List.getD_eq_getElem?_getD,zA b];exact zc b
theorem L2{l:List Tm}(h:Tm.nD l){t:Tm}(a:t∈l):t.nmo:=Tm.u6.1 h t a
theorem Mf(r:Option (List Bnd)):∃(e:List Bnd) (ok:Bool),qy r=.tup [slA Bnd.av e,.bool ok]/\(ok=true->∃a,r=some a):=by
 cases r with
 |none=>exact⟨[],false,rfl,λh=>by cases h⟩
 |some e=>exact⟨e,true,rfl,λ_=>⟨e,rfl⟩⟩
theorem rG{bs a:List Box}(h:Pre bs a){b:Nat}(hb:b<bs.length):aa a b=aa bs b:=by
 simp only[aa,h.2 b hb]
structure Sto where
 items:List It
 at_:Int
def Sto.av(s:Sto):AV:=.agg [slA It.av s.items,.int .i64 s.at_]
set_option maxHeartbeats 4000000 in
theorem tx{p:Pg}{s:Sto}{w:Int}(hs:p.size)(Y:s.items.length<=10000000)(hz:∀i∈s.items,i.atom.args.length<=10000000/\Tm.aA i.atom.args<=100000000):Fun Tryz.prog 5 [p.av,s.av,.int .i64 w] (.bool true):=by
 obtain⟨its,at_⟩:=s;dsimp only at Y hz;rw[Sto.av];have e:=K6 hs.decls hs.rules hs.each;have d:=Fw (p:=p) (plans:=[]);have f:=wM Y hz;have hex:=H0;refine Fun.of (eS (by simp) ?_) rfl rfl
 by_cases hgo:dv p []=false/\(gd p).2=0/\its.length<=12/\cC its=true/\¬its.length=0
 .obtain ⟨hg,he,q,U,hne⟩:=hgo;rw[hg] at d;rw[he] at e;rw[U] at f;have hp:=N9 he;have hpl:=EI hp.fit (by have:=hp.occs;omega)
  conv=>whnf
  try dsimp only
  repeat' (first|(refine gF ?_;first|refine ae.fn (hex) ?_|refine ae.fn (e) ?_|refine ae.fn (d) ?_|refine ae.fn (f) ?_|refine ae.fn (hpl) ?_)|(refine gC ?_;first|refine cY ?_|refine cN ?_|refine .not ?_|(refine gD ?_;first|refine cI ?_|refine cJ ?_)|refine ak.dec (λP=>?_) (λP=>?_))|refine gL (.map ?_)|(refine gB ?_;first|refine .last ?_|refine .last2 ?_))<;>(conv=>whnf;try dsimp only)
  .exact ⟨_,aD.refl _,.inl rfl⟩
  have hpos:0<(allI p).length:=by omega
  have hplen:(allI p).length<=160:=by rw[allI,zF];exact hp.occs
  simp only[Zi,ze,ZP,zX,ZI,Nat.reduceAdd];generalize hB:([Box.cells [AV.sl Cap.no (List.map Dc.av p.decls),AV.sl Cap.no (List.map Rl.av p.rules)],Box.cells [AV.sl Cap.no (List.map It.av its),AV.int IntKind.i64 at_]]:List Box)=B;have b0:aa B 0=some [.sl .no (p.decls.map Dc.av),.sl .no (p.rules.map Rl.av)]:=by rw[<-hB];rfl
  have b1:aa B 1=some [.sl .no (its.map It.av),.int .i64 at_]:=by rw[<-hB];rfl
  have bl:B.length=2:=by rw[<-hB];rfl
  clear hB;obtain⟨u,hu,u0,u1⟩:=wrap_u64 w;refine⟨?_⟩;rw[hu]
  conv=>whnf
  try dsimp only
  repeat' refine gL (.map ?_)<;>(conv=>whnf;try dsimp only)
  refine Oq ?_ (by omega)
  conv=>whnf
  try dsimp only
  repeat' refine gN (nS ?_)<;>(conv=>whnf;try dsimp only)
  obtain⟨m,hm,hml⟩:=BN hpos u0;rw[hm];refine wI ?_ (by omega)
  obtain⟨x,X⟩:∃x,(allI p)[m]? =some x:=⟨_,zA hml⟩;have hxm:=zE X;have hxo:=uH hp x hxm;obtain⟨r,g0,r1,r2,r3,r4,r5⟩:=HR hp hxm;have hrm:=zE r1;have hrl:=(zB.1 r1).1;have O:=hp.few r hrm;have hh4:=hp.ai r hrm;have hhl:=r.bG;have hrH:=Cj (x:=r) (by omega)
  conv=>whnf
  try dsimp only
  repeat' (first|refine gC (gD (cJ ?_))|refine gI (gM (iE ?_))|refine gB (.last ?_)|refine jI.last ?_)<;>(conv=>whnf;try dsimp only)
  rw[bl];generalize hC:B++[Box.cells [AV.int IntKind.i64 x.occ.rule,AV.int IntKind.i64 x.occ.head,AV.bool x.occ.kept,AV.sl Cap.no (List.map aG x.order),AV.sl Cap.no (List.map (slA aG) x.known),AV.sl Cap.no (List.map (slA aG) x.tests)]]=C;have c0:aa C 0=some [.sl .no (p.decls.map Dc.av),.sl .no (p.rules.map Rl.av)]:=by rw[<-hC,aq,if_neg (by omega)];exact b0
  have c1:aa C 1=some [.sl .no (its.map It.av),.int .i64 at_]:=by rw[<-hC,aq,if_neg (by omega)];exact b1
  have c2:aa C 2=some [AV.int IntKind.i64 x.occ.rule,AV.int IntKind.i64 x.occ.head,AV.bool x.occ.kept,AV.sl Cap.no (List.map aG x.order),AV.sl Cap.no (List.map (slA aG) x.known),AV.sl Cap.no (List.map (slA aG) x.tests)]:=by rw[<-hC,aq,if_pos (by omega)];rfl
  have cl:C.length=3:=by rw[<-hC,zC,bl];rfl
  clear hC;obtain⟨r',q1,q2,q3,q4,q5,q6,q7⟩:=hxo.ex;obtain rfl:r=r':=by rw[r1] at q1;exact yJ q1
  by_cases ho:x.order.length=0
  .conv=>whnf
   try dsimp only
   repeat' (first|refine gF (ae.fn (hrH) ?_)|(refine gC ?_;(refine gD ?_;first|refine cI ?_|refine cJ ?_))|refine gL (.map ?_)|refine gI (gM (iF ?_))|refine gB (.of (by assumption) ?_))<;>(conv=>whnf;try dsimp only)
   all_goals exact⟨_,aD.refl _,.inl rfl⟩
  obtain⟨n,Y⟩:∃n,x.order[0]? =some n:=⟨_,zA (by omega)⟩
  have hn0:x.order[(0:Int).toNat]? =some n:=Y;obtain⟨n0,n1⟩:=q5 n (zE Y);obtain⟨r',g,g1,g2,g3,g4,g5⟩:=hxo.head Y;obtain rfl:r=r':=by rw[r1] at g1;exact yJ g1
  conv=>whnf
  try dsimp only
  repeat' (first|refine gF (ae.fn (hrH) ?_)|refine gC (gD (cJ ?_))|refine gL (.map ?_)|(refine gI ?_;(refine gM ?_;first|refine iE ?_|refine iF ?_))|refine gB (.of (by assumption) ?_))<;>(conv=>whnf;try dsimp only)
  obtain⟨u2,hu2,v0,v1⟩:=wrap_u64 at_;refine⟨?_⟩;rw[hu2]
  conv=>whnf
  try dsimp only
  repeat' (first|refine gL (.map ?_)|refine gB (.of (by assumption) ?_))<;>(conv=>whnf;try dsimp only)
  refine Oq ?_ (by omega)
  conv=>whnf
  try dsimp only
  repeat' refine gN (nS ?_)<;>(conv=>whnf;try dsimp only)
  obtain⟨m2,hm2,hml2⟩:=BN (n:=its.length) (by omega) v0
  rw[hm2];refine wI ?_ (by omega)
  obtain⟨a,ha⟩:∃a,its[m2]? =some a:=⟨_,zA hml2⟩;have ham:=zE ha;have hsz:=EC U;have haR:a.atom.right=true:=(Ao U a ham);have hgR:g.right=true:=O.ai g (zE g2);have N:g0.right=true:=O.ai g0 (zE r5);obtain⟨k1,k2,k3,k4⟩:=ni N;obtain⟨y1,y2,y3,y4⟩:=ni hgR;have H:=CO (env:=[]) (p:=g0) (a:=a.atom) (by simp only[ZP];omega)
  conv=>whnf
  try dsimp only
  repeat' (first|refine gI (gM (iE ?_))|refine gB (.last ?_)|refine jI.last ?_)<;>(conv=>whnf;try dsimp only)
  rw[cl];generalize Z:C++[Box.cells [AV.int IntKind.i64 a.id,AV.str a.atom.name,AV.sl Cap.no (List.map Tm.av a.atom.args)]]=D;have d0:aa D 0=some [.sl .no (p.decls.map Dc.av),.sl .no (p.rules.map Rl.av)]:=by rw[<-Z,aq,if_neg (by omega)];exact c0
  have d1:aa D 1=some [.sl .no (its.map It.av),.int .i64 at_]:=by rw[<-Z,aq,if_neg (by omega)];exact c1
  have d2:aa D 2=some [AV.int IntKind.i64 x.occ.rule,AV.int IntKind.i64 x.occ.head,AV.bool x.occ.kept,AV.sl Cap.no (List.map aG x.order),AV.sl Cap.no (List.map (slA aG) x.known),AV.sl Cap.no (List.map (slA aG) x.tests)]:=by rw[<-Z,aq,if_neg (by omega)];exact c2
  have d3:aa D 3=some [AV.int IntKind.i64 a.id,AV.str a.atom.name,AV.sl Cap.no (List.map Tm.av a.atom.args)]:=by rw[<-Z,aq,if_pos (by omega)];rfl
  have dl:D.length=4:=by rw[<-Z,zC,cl];rfl
  clear Z;have L:=uH hp;have hal:=CU (p:=p) (plans:=allI p) hp.ok8 (λx X=>by obtain⟨r,_,_,_,h4,_⟩:=(L x X).ex;omega) (by omega)
  have K:=Eb hp
  have hac:(ei p (allI p)).length<=8*160:=by
   have:=wC (p:=p) (plans:=allI p) (λx X=>by obtain⟨r,_,_,_,h4,_⟩:=(L x X).ex;omega) (allI p).length
   unfold ei;omega
  have hA0:Eg (ei p (allI p)) its:=SzL.all (n:=200) (m:=12) ⟨Cb U,q,λi J=>(hsz i J).1⟩ (by omega) (by omega) (λc P=>(K c P).1) (λc P=>Ik (K c P).1 (K c P).2) (by omega)
  cases G:mAt [] g0 a.atom with
  |none=>
   rw[G,qy] at H
   conv=>whnf
   try dsimp only
   repeat' (first|refine gG (aW.fn (H) ?_)|(refine gC ?_;first|refine cN ?_|refine .not ?_)|refine gI (gM (iF ?_))|refine gB (.of (by assumption) ?_))<;>(conv=>whnf;try dsimp only)
   all_goals exact⟨_,aD.refl _,.inl rfl⟩
  |some env=>
   rw[G,qy] at H
   conv=>whnf
   try dsimp only
   repeat' (first|refine gF (ae.fn (hal) ?_)|refine gG (aW.fn (H) ?_)|(refine gC ?_;first|refine cY ?_|refine .not ?_)|refine gI (gM (iF ?_))|refine gB (.of (by assumption) ?_))<;>(conv=>whnf;try dsimp only)
   refine ae.raw (JX (V:=λ_=>False) (its:=its) (l:=ei p (allI p)) (λb h=>h.elim) hA0 (λc P=>(K c P).1) U λi J=>by have:=(hsz i J).2;omega) ?_
   rintro r' E ⟨rfl,hI,hP⟩;rw[dl] at hI|-;have e0:aa E 0=some [.sl .no (p.decls.map Dc.av),.sl .no (p.rules.map Rl.av)]:=by rw[rG hP (by omega)];exact d0
   have e1:aa E 1=some [.sl .no (its.map It.av),.int .i64 at_]:=by rw[rG hP (by omega)];exact d1
   have e2:aa E 2=some [AV.int IntKind.i64 x.occ.rule,AV.int IntKind.i64 x.occ.head,AV.bool x.occ.kept,AV.sl Cap.no (List.map aG x.order),AV.sl Cap.no (List.map (slA aG) x.known),AV.sl Cap.no (List.map (slA aG) x.tests)]:=by rw[rG hP (by omega)];exact d2
   obtain⟨E1,E2⟩:=NN G N haR;have hin:=rU (done:=[x.occ.head]) n0 g2;have W:cz p x 0=some (g,a8 r [x.occ.head] n):=g5
   have hkn:(a8 r [x.occ.head] n).length<=6:=by
    have F:(a8 r [x.occ.head] n).length<=g.args.length:=by
     rw[a8,if_neg (by omega),g2]
     exact ee _ _ _
    omega
   have M:=Kf (p:=p) (x:=x) (k:=0) hp.ok8 (λy hy=>by
    rw[W] at hy;cases hy;dsimp only;omega)
   have hK:CY p x 0=fK g.args (a8 r [x.occ.head] n):=by rw[CY,W]
   obtain⟨o,I⟩:∃o,o=fK g.args (a8 r [x.occ.head] n):=⟨_,rfl⟩;rw[hK,<-I] at M;have hkl:o.length<=6:=by rw[I,qE hin];exact hkn
   have hkm:∀t∈o,t.nodes<=200/\t.nmo/\t.io:=λt ht=>by
    rw[I] at ht;have hm:=Mm hin t ht;have:=fc hm;exact⟨by omega,L2 y2 hm,Tm.hO.1 y1 t hm⟩
   obtain⟨z1,z2⟩:=Mj E1 hkl hkm;obtain⟨m3,c,hpk,hcm,w1,w2,w3⟩:=JN (j:=0) X (by omega) W
   have A:=AL (p:=p) (l:=ei p (allI p)) (x:=x) (k:=0) hp.ok8;rw[show sO p (ei p (allI p)) x 0=m3 from hpk] at A
   have S:∀i∈its,∀e2,mAt env g i.atom=some e2->i.id∈sU (ei p (allI p)) its (m3:Int) (o.map (inT env)):=λi J e2 Q=>by
    rw[I];exact Ih r3 r5 n0 g2 hcm w1 w2 w3 G J Q
   have hfl:=Ii (acc:=ei p (allI p)) (its:=its) (k:=(m3:Int)) (key:=o.map (inT env))
   conv=>whnf
   try dsimp only
   repeat' (first|refine gF (ae.fn (M) ?_)|(refine gC ?_;first|refine cN ?_|refine .not ?_|refine gD (cI ?_))|refine gB (.of (by assumption) ?_))<;>(conv=>whnf;try dsimp only)
   refine ax.by (fb:=false) (λ_ (j:Nat)=>⟨[(3,.ptr 0 0),(4,.ptr 1 0),(10,.ptr 2 0),(11,slA At.av r.ai),(13,slA Bnd.av env),(15,slA Ac.av (ei p (allI p))),(16,.ptr 4 0),(18,slA Tm.av o),(19,.sl (.own 4) (((o.take j).map (inT env)).map Tm.av)),(20,.int .i64 (j:Int))],E,0⟩) (λj=>j<=o.length) (λj=>o.length-j) 0 (zJ _) ?_ ?_
   .rw [ZK,Zb,Zb];refine al.atS ?_ rfl rfl
    conv=>whnf
    repeat' (first|(refine gV ?_;first|refine vE ?_|refine vI ?_|refine gK (vC ?_))|exact True.intro)<;>conv=>whnf
   .intro j hj0
    by_cases hj:j<o.length
    .obtain ⟨t,ht⟩:∃t,o[j]? =some t:=⟨_,zA hj⟩;obtain⟨t1,t2,t3⟩:=hkm t (zE ht);have hit:=Mp env (by omega) t (by omega) t3
     have hlim:(((o.take j).map (inT env)).map Tm.av).length+[AV.agg [.int .i64 (inT env t).kind,.int .i64 (inT env t).num,.str (inT env t).name,.sl .no ((inT env t).args.map Tm.av)]].length<=lim:=by
      simp only[zF,zn,zU];unfold lim;omega
     conv=>whnf
     try dsimp only
     repeat' (first|refine gF (ae.fn (hit) ?_)|refine gC (gD (cI ?_))|refine gW (wI ?_)|refine gL (.map ?_)|refine gN (nS ?_)|refine gI (gT (iA ?_)))<;>(conv=>whnf;try dsimp only)
     refine⟨j+1,⟨hj,by omega⟩,?_⟩
     rw[ZC,ht,yK,zu,zu];simp only[zP,Zb,Tm.pM,Tm.avw];refine al.atS ?_ rfl rfl
     conv=>whnf
     repeat' (first|(refine gV ?_;first|refine vE ?_|refine vI ?_)|exact True.intro)<;>conv=>whnf
    .obtain rfl:j=o.length:=by omega
     rw[zl (zG _)]
     conv=>whnf
     try dsimp only
     repeat' (first|refine gF (ae.fn (A) ?_)|refine gC (gD (cJ ?_))|refine gL (.map ?_)|refine gB (.of (by assumption) ?_))<;>(conv=>whnf;try dsimp only)
     refine ae.raw (Fh (k:=(m3:Int)) (key:=o.map (inT env)) hI hA0 z1 z2 (by rw[zF];omega)) ?_
     rintro r2 E2 ⟨rfl,rfl⟩;generalize hfo:sU (ei p (allI p)) its (m3:Int) (o.map (inT env))=fo at*
     conv=>whnf
     try dsimp only
     skip;refine ax.by (fb:=false) (λ_ (i:Nat)=>⟨[(4,.ptr 1 0),(10,.ptr 2 0),(11,slA At.av r.ai),(13,slA Bnd.av env),(21,slA aG fo),(22,.int .i64 (i:Int))],E2,0⟩) (λi=>i<=its.length) (λi=>its.length-i) 0 (zJ _) ?_ ?_
     .refine al.atS ?_ rfl rfl
      conv=>whnf
      repeat' (first|(refine gV ?_;first|refine vE ?_|refine vI ?_)|exact True.intro)<;>conv=>whnf
     .intro i hi0
      by_cases J:i<its.length
      .obtain ⟨y,hy⟩:∃y,its[i]? =some y:=⟨_,zA J⟩;have hym:=zE hy;have hmb:=CO (env:=env) (p:=g) (a:=y.atom) (by omega)
       obtain⟨e3,ok,hma3,hok⟩:=Mf (mAt env g y.atom);rw[hma3] at hmb
       conv=>whnf
       try dsimp only
       repeat' (first|refine gG (aW.fn (hmb) ?_)|refine gC (gD (cI ?_))|refine gL (.map ?_)|(refine gI ?_;(refine gM ?_;first|refine iE ?_|refine iF ?_))|refine gB (.of (by assumption) ?_))<;>(conv=>whnf;try dsimp only)
       refine ax.by (fb:=false) (λ_ (k:Nat)=>⟨[(4,.ptr 1 0),(10,.ptr 2 0),(11,slA At.av r.ai),(13,slA Bnd.av env),(21,slA aG fo),(22,.int .i64 (i:Int)),(24,.bool ok),(25,.bool ((fo.take k).any λz=>decide (z=y.id))),(26,.int .i64 (k:Int))],E2,0⟩) (λk=>k<=fo.length) (λk=>fo.length-k) 0 (zJ _) ?_ ?_
       .rw [ZK,List.any_nil];refine al.atS ?_ rfl rfl
        conv=>whnf
        repeat' (first|(refine gV ?_;first|refine vE ?_|refine vI ?_)|exact True.intro)<;>conv=>whnf
       .intro k hk0
        by_cases hk:k<fo.length
        .obtain ⟨z,hz⟩:∃z,fo[k]? =some z:=⟨_,zA hk⟩
         have R:(fo.take (k+1)).any (λv=>decide (v=y.id))=((fo.take k).any (λv=>decide (v=y.id))||decide (z=y.id)):=by
          rw[ZC,hz,yK,List.any_append];simp
         generalize hob:(fo.take k).any (λv=>decide (v=y.id))=ob at R|-
         cases ob with
         |true=>
          conv=>whnf
          try dsimp only
          repeat' (first|(refine gC ?_;first|refine cY ?_|refine gD (cI ?_))|refine gW (wI ?_)|refine gL (.map ?_))<;>(conv=>whnf;try dsimp only)
          refine⟨k+1,⟨hk,by omega⟩,?_⟩
          rw[R,Bool.true_or];refine al.atS ?_ rfl rfl
          conv=>whnf
          repeat' (first|(refine gV ?_;first|refine vE ?_|refine vI ?_)|exact True.intro)<;>conv=>whnf
         |false=>
          conv=>whnf
          try dsimp only
          repeat' (first|(refine gC ?_;first|refine cN ?_|refine gD (cI ?_))|refine gW (wI ?_)|refine gL (.map ?_)|refine gI (gM (iE ?_))|refine gB (.of (by assumption) ?_))<;>(conv=>whnf;try dsimp only)
          refine⟨k+1,⟨hk,by omega⟩,?_⟩
          rw[R,Bool.false_or];refine al.atS ?_ rfl rfl
          conv=>whnf
          repeat' (first|(refine gV ?_;first|refine vE ?_|refine vI ?_)|exact True.intro)<;>conv=>whnf
        .obtain rfl:k=fo.length:=by omega
         rw[zz]
         cases ok with
         |true=>
          obtain⟨e4,he4⟩:=hok rfl;rw[show fo.any (λv=>decide (v=y.id))=true from List.any_eq_true.2 ⟨_,S y hym e4 he4,by simp⟩]
          conv=>whnf
          try dsimp only
          repeat' (first|(refine gC ?_;first|refine cY ?_|refine .not ?_|refine gD (cJ ?_))|refine gW (wI ?_)|refine gL (.map ?_))<;>(conv=>whnf;try dsimp only)
          refine⟨i+1,⟨J,by omega⟩,?_⟩
          refine al.atS ?_ rfl rfl
          conv=>whnf
          repeat' (first|(refine gV ?_;first|refine vE ?_|refine vI ?_)|exact True.intro)<;>conv=>whnf
         |false=>
          conv=>whnf
          try dsimp only
          repeat' (first|(refine gC ?_;first|refine cN ?_|refine gD (cJ ?_))|refine gW (wI ?_)|refine gL (.map ?_))<;>(conv=>whnf;try dsimp only)
          refine⟨i+1,⟨J,by omega⟩,?_⟩
          refine al.atS ?_ rfl rfl
          conv=>whnf
          repeat' (first|(refine gV ?_;first|refine vE ?_|refine vI ?_)|exact True.intro)<;>conv=>whnf
      .obtain rfl:i=its.length:=by omega
       conv=>whnf
       try dsimp only
       repeat' (first|refine gC (gD (cJ ?_))|refine gL (.map ?_)|refine gB (.of (by assumption) ?_))<;>(conv=>whnf;try dsimp only)
       exact⟨_,aD.refl _,.inl rfl⟩
 .have T:dv p []=true\/(dv p []=false/\¬(gd p).2=0)\/(dv p []=false/\(gd p).2=0/\¬its.length<=12)\/(dv p []=false/\(gd p).2=0/\its.length<=12/\cC its=false)\/(dv p []=false/\(gd p).2=0/\its.length<=12/\cC its=true/\its.length=0):=by
   cases hg:dv p [] with
   |true=>exact .inl rfl
   |false=>
    by_cases he:(gd p).2=0
    .by_cases q:its.length<=12
     .cases U:cC its with
      |false=>exact .inr (.inr (.inr (.inl ⟨rfl,he,q,rfl⟩)))
      |true=>exact .inr (.inr (.inr (.inr ⟨rfl,he,q,rfl,Decidable.byContradiction λh0=>hgo ⟨hg,he,q,U,h0⟩⟩)))
     .exact .inr (.inr (.inl ⟨rfl,he,q⟩))
    .exact .inr (.inl ⟨rfl,he⟩)
  rcases T with F|⟨F,Q⟩|⟨F,Q,h3⟩|⟨F,Q,h3,h4⟩|⟨F,Q,h3,h4,h5⟩
  .rw [F] at d
   conv=>whnf
   try dsimp only
   repeat' (first|(refine gF ?_;first|refine ae.fn (hex) ?_|refine ae.fn (e) ?_|refine ae.fn (d) ?_)|(refine gC ?_;first|refine cY ?_|refine .not ?_)|refine gB (.last2 ?_))<;>(conv=>whnf;try dsimp only)
   all_goals exact⟨_,aD.refl _,.inl rfl⟩
  .rw [F] at d
   conv=>whnf
   try dsimp only
   repeat' (first|(refine gF ?_;first|refine ae.fn (hex) ?_|refine ae.fn (e) ?_|refine ae.fn (d) ?_)|(refine gC ?_;first|refine cY ?_|refine cN ?_|refine .not ?_|refine gD (cJ ?_))|refine gB (.last2 ?_))<;>(conv=>whnf;try dsimp only)
   all_goals exact⟨_,aD.refl _,.inl rfl⟩
  .rw [F] at d;rw[Q] at e
   conv=>whnf
   try dsimp only
   repeat' (first|(refine gF ?_;first|refine ae.fn (hex) ?_|refine ae.fn (e) ?_|refine ae.fn (d) ?_)|(refine gC ?_;first|refine cY ?_|refine cN ?_|refine .not ?_|refine gD (cI ?_))|refine gL (.map ?_)|(refine gB ?_;first|refine .last ?_|refine .last2 ?_))<;>(conv=>whnf;try dsimp only)
   all_goals exact⟨_,aD.refl _,.inl rfl⟩
  .rw [F] at d;rw[Q] at e;rw[h4] at f
   conv=>whnf
   try dsimp only
   repeat' (first|(refine gF ?_;first|refine ae.fn (hex) ?_|refine ae.fn (e) ?_|refine ae.fn (d) ?_|refine ae.fn (f) ?_)|(refine gC ?_;first|refine cY ?_|refine cN ?_|refine .not ?_|(refine gD ?_;first|refine cI ?_|refine cJ ?_))|refine gL (.map ?_)|(refine gB ?_;first|refine .last ?_|refine .last2 ?_))<;>(conv=>whnf;try dsimp only)
   all_goals exact⟨_,aD.refl _,.inl rfl⟩
  .rw [F] at d;rw[Q] at e;rw[h4] at f
   conv=>whnf
   try dsimp only
   repeat' (first|(refine gF ?_;first|refine ae.fn (hex) ?_|refine ae.fn (e) ?_|refine ae.fn (d) ?_|refine ae.fn (f) ?_)|(refine gC ?_;first|refine cY ?_|refine cN ?_|refine .not ?_|(refine gD ?_;first|refine cI ?_|refine cJ ?_))|refine gL (.map ?_)|(refine gB ?_;first|refine .last ?_|refine .last2 ?_))<;>(conv=>whnf;try dsimp only)
   all_goals exact⟨_,aD.refl _,.inl rfl⟩
end Go.CK
namespace Go.CK
open Go.RowKit Go.AM
def s7(M:Hp):List AV->List Value->Prop
 |[],[]=>True
 |x::xs,v::vs=>FV M x v/\s7 M xs vs
 |_,_=>False
theorem s7.len{M:Hp}:∀{xs:List AV} {vs:List Value},s7 M xs vs->vs.length=xs.length
 |[],[],_=>rfl
 |_::xs,_::vs,h=>by simp[s7.len h.2]
 |[],_::_,h=>h.elim
 |_::_,[],h=>h.elim
theorem s7.get{M:Hp}:∀{xs:List AV} {vs:List Value},s7 M xs vs->∀j (h:j<xs.length) v,vs[j]? =some v->FV M xs[j] v
 |[],[],_,j,h,_,_=>by cases h
 |_::xs,_::vs,h,0,_,v,a=>by
  simp only[Zl,zN] at a
  subst a;exact h.1
 |_::xs,_::vs,h,j+1,b,v,a=>s7.get h.2 j (by simpa using b) v (by simpa using a)
 |[],_::_,h,_,_,_,_=>h.elim
 |_::_,[],h,_,_,_,_=>h.elim
theorem Fun.calls{P:Program}{f:FuncId}{ab:List AV}{b:Bool}(h:Fun P f ab (.bool b)){w:World}(g:∃T fz,w.heap[KB]? =some (.cells KV.toArray T fz)){args:List Value}(a:s7 (Hp.of w) ab args):
  Calls P f args.toArray w λe w'=>e=.returned (.bool b)/\Ext w w':=by
 refine(((h []).mono (Q':=λr _=>r=.bool b) λr bs i=>i.1).calls (Hp.le_refl _) (Kn.of g) a.len a.get).mono ?_;rintro e w' ⟨v,r,bs',M',σ,n,rfl,rfl,d,c,_⟩;exact⟨by rw[d.cS],c⟩
end Go.CK
namespace Go.CK
open Go.RowKit Go.Proofs Go.ChangeShapes Go.WideShapes Go.ChangeAt
open Go.Proofs.YtcjfkbdbcgmomaaGreatDoor.Rows (uptoBulk uptoBulkAll uptoSmall)
theorem DJ{H:Type}(d:DataW H):1<=uptoBulk d:=by
 cases d with
 |lit l=>cases l<;>simp[uptoBulk]
 |nil=>simp[uptoBulk]
 |ptr d=>simp[uptoBulk]
 |slice elems spare=>simp[uptoBulk]
 |agg parts=>simp[uptoBulk]
 |iface t d=>simp[uptoBulk]
 |map entries=>simp[uptoBulk]
 |held h=>simp[uptoBulk]
theorem lG{H:Type}{d:DataW H}{l:List (DataW H)}(h:d∈l):uptoBulk d<=uptoBulkAll l:=by
 induction l with
 |nil=>cases h
 |cons x r ih=>
  simp only[uptoBulkAll]
  cases zI.1 h with
  |inl e=>subst e;omega
  |inr e=>have:=ih e;omega
theorem DK{H:Type}(l:List (DataW H)):l.length<=uptoBulkAll l:=by
 induction l with
 |nil=>simp[uptoBulkAll]
 |cons x r ih=>have:=DJ x;simp only[uptoBulkAll,zX];omega
theorem FR{H:Type}{l:List (DataW H)}(hk:uptoSmall H l=true):uptoBulkAll l<=1048576:=of_decide_eq_true hk
section
variable{H:Type}{enc:TypeId×Value->H}{P:Program}{W:World}{spare:Nat->Bool}{held:Bool}
theorem OB{α:Type}{T e:TypeId}{sz N:Nat}(hu:P.underlying T=some (.slice e))(u:P.cellsOf e=sz)(hp:0<sz)(R:List Value->α->Prop)(F:N<=1048576)
  (ih:∀(cs:List Value) (d:DataW H) (ps:List MemPlace) (fuel:Nat),DataW.trod enc P W 0 spare held fuel e cs=some (d,ps)->uptoBulk d<N->∃x,R cs x)
  {fuel:Nat} {cs:List Value} {d:DataW H} {ps:List MemPlace} (h:DataW.trod enc P W 0 spare held fuel T cs=some (d,ps)) (hb:uptoBulk d<=N):
  ∃(a:Option Addr) (l:List α) (cap:Nat),cs=[.slice a l.length cap]/\l.length<=cap/\Sl (Hp.of W) sz R a l/\l.length<=N:=by
 subst u;rcases Deep.open_slice hu h with ⟨rfl,_⟩|⟨a,len,cap,m,n,D,Pl,rfl,_,v,_,hm,q,g⟩
 .exact ⟨none,[],0,rfl,by simp,Sl.nil,by simp⟩
 .simp only[Prod.mk.injEq] at q;obtain⟨rfl,_⟩:=q;have B:len<=m:=by rw[hm];split<;>omega
  simp only[uptoBulk] at hb;have hlen:=DK ((List.range len).map D);rw[zF,List.length_range] at hlen
  have A:∀i,i<len->∃x b,W.cells? 0 (a.add (i*P.cellsOf e)) (P.cellsOf e)=some b/\R b x:=λi r=>by
   obtain⟨b,p,t⟩:=g i (by omega)
   have C:uptoBulk (D i)<=uptoBulkAll ((List.range len).map D):=lG (zk.2 ⟨i,by simpa using r,rfl⟩)
   obtain⟨x,q⟩:=ih b (D i) (Pl i) n t (by omega)
   exact⟨x,b,p,q⟩
  refine⟨some a,List.ofFn (λi:Fin len=>(A i.1 i.2).choose),cap,by simp,by simpa using v,⟨by simp[lim];omega,λi r=>?_⟩,by simp;omega⟩
  rw[List.length_ofFn] at r
  have c:a.spot=none:=by
   obtain⟨b,p,_⟩:=g 0 (by omega)
   obtain⟨_,t,s⟩:=World.cells?_some p;have f:=s 0 hp;rw[zA (by omega)] at f
   simp only[Nat.zero_mul] at f;have o:(a.add 0).add 0=a:=by simp[Addr.add]
   rw[o] at f
   cases hs:a.spot with
   |none=>rfl
   |some k=>
    simp only[World.cell?,hs] at f;split at f<;>simp at f
  obtain⟨b,p,t⟩:=(A i r).choose_spec;obtain⟨_,s,f⟩:=World.cells?_some p;have z:a=⟨a.block,a.off,none⟩:=by cases a;simp only at c;subst c;rfl
  refine⟨a.block,a.off,b,by rw[<-z],s,λj x y=>?_,by simpa using t⟩
  have w:j<P.cellsOf e:=by rw[<-s];exact(zB.1 y).1
  have o:=f j w;rw[Deep.add_add] at o
  have E:a.add (i*P.cellsOf e+j)=⟨a.block,a.off+i*P.cellsOf e+j,none⟩:=by
   unfold Addr.add;split
   .rename_i G;rw[z];simp;omega
   .simp
  rw[E,y] at o;exact o
end
theorem lE:Tryz.prog.cellsOf 3=1:=by kernel_rfl
theorem lD:Tryz.prog.cellsOf 9=1:=by kernel_rfl
theorem qV:Tryz.prog.cellsOf 24=1:=by kernel_rfl
theorem tM:Tryz.prog.cellsOf 81=4:=by kernel_rfl
section
variable{H:Type}{enc:TypeId×Value->H}{W:World}{spare:Nat->Bool}{held:Bool}
theorem pF{fuel:Nat}{cs:List Value}{d:DataW H}{ps:List MemPlace}(h:DataW.trod enc Tryz.prog W 0 spare held fuel 3 cs=some (d,ps)):∃n,cs=[.int .i64 n]/\dO n:=by
 obtain⟨n,b,_,a⟩:=DataW.trod_int Tryz.underlying3 h;exact⟨n,b,dO.OJ a⟩
theorem ri{N fuel:Nat}{cs:List Value}{d:DataW H}{ps:List MemPlace}(h:DataW.trod enc Tryz.prog W 0 spare held fuel 9 cs=some (d,ps))(hb:uptoBulk d<=N):∃s:ByteArray,cs=[.string s]/\s.size<=N:=by
 obtain⟨s,b,a,_⟩:=DataW.trod_string Tryz.underlying9 h;simp only[Prod.mk.injEq] at a;obtain⟨rfl,_⟩:=a;have e:s.data.toList.length=s.size:=by rw[ZJ];rfl
 simp only[uptoBulk] at hb;exact⟨s,b,by omega⟩
end
end Go.CK
namespace Go.CK
open Go.RowKit Go.Proofs Go.ChangeShapes Go.WideShapes Go.ChangeAt
open Go.Proofs.YtcjfkbdbcgmomaaGreatDoor.Rows (uptoBulk uptoBulkAll uptoSmall)
section
variable{H:Type}{enc:TypeId×Value->H}{P:Program}{W:World}{spare:Nat->Bool}{held:Bool}
theorem DL{H:Type}{α:Type}(w:α->Nat):∀{n:Nat} (f:Fin n->α) (D:Nat->DataW H) (k:Nat),(∀i:Fin n,w (f i)<=uptoBulk (D (k+i.1)))->((List.ofFn f).map w).sum<=uptoBulkAll ((List.range' k n).map D)
 |0,f,D,k,_=>by simp
 |n+1,f,D,k,h=>by
  rw[List.ofFn_succ,List.range'_succ];simp only[zP,List.sum_cons,uptoBulkAll];have a:=h 0;simp only[Fin.val_zero,Zf] at a
  have b:=DL w (λi=>f i.succ) D (k+1) λi=>by
   have:=h i.succ;rw[Fin.val_succ] at this;rw[show k+1+i.1=k+(i.1+1) by omega];exact this
  omega
theorem Nj{α:Type}(w:α->Nat){T e:TypeId}{sz N:Nat}(hu:P.underlying T=some (.slice e))(z:P.cellsOf e=sz)(hp:0<sz)(R:List Value->α->Prop)(J:N<=1048576)
  (ih:∀(cs:List Value) (d:DataW H) (ps:List MemPlace) (fuel:Nat),DataW.trod enc P W 0 spare held fuel e cs=some (d,ps)->uptoBulk d<N->∃x,R cs x/\w x<=uptoBulk d)
  {fuel:Nat} {cs:List Value} {d:DataW H} {ps:List MemPlace} (h:DataW.trod enc P W 0 spare held fuel T cs=some (d,ps)) (hb:uptoBulk d<=N):
  ∃(a:Option Addr) (l:List α) (cap:Nat),cs=[.slice a l.length cap]/\l.length<=cap/\Sl (Hp.of W) sz R a l/\l.length<=N/\(l.map w).sum<=uptoBulk d:=by
 subst z;rcases Deep.open_slice hu h with ⟨rfl,_⟩|⟨a,len,cap,m,n,D,Pl,rfl,_,A,_,hm,r,o⟩
 .exact ⟨none,[],0,rfl,by simp,Sl.nil,by simp,by simp⟩
 .simp only[Prod.mk.injEq] at r;obtain⟨rfl,_⟩:=r;have F:len<=m:=by rw[hm];split<;>omega
  simp only[uptoBulk] at hb;have hlen:=DK ((List.range len).map D);rw[zF,List.length_range] at hlen
  have t:∀i,i<len->∃x,(∃b,W.cells? 0 (a.add (i*P.cellsOf e)) (P.cellsOf e)=some b/\R b x)/\w x<=uptoBulk (D i):=λi s=>by
   obtain⟨b,q,v⟩:=o i (by omega)
   have G:uptoBulk (D i)<=uptoBulkAll ((List.range len).map D):=lG (zk.2 ⟨i,by simpa using s,rfl⟩)
   obtain⟨x,r,y⟩:=ih b (D i) (Pl i) n v (by omega)
   exact⟨x,⟨b,q,r⟩,y⟩
  have g:=DL w (λi:Fin len=>(t i.1 i.2).choose) D 0 λi=>by
   rw[ZI];exact(t i.1 i.2).choose_spec.2
  rw[<-List.range_eq_range'] at g;refine⟨some a,List.ofFn (λi:Fin len=>(t i.1 i.2).choose),cap,by simp,by simpa using A,⟨by simp[lim];omega,λi s=>?_⟩,by simp;omega,by simp only[uptoBulk];omega⟩
  rw[List.length_ofFn] at s
  have c:a.spot=none:=by
   obtain⟨b,q,_⟩:=o 0 (by omega)
   obtain⟨_,v,u⟩:=World.cells?_some q;have f:=u 0 hp;rw[zA (by omega)] at f
   simp only[Nat.zero_mul] at f;have p:(a.add 0).add 0=a:=by simp[Addr.add]
   rw[p] at f
   cases hs:a.spot with
   |none=>rfl
   |some k=>
    simp only[World.cell?,hs] at f;split at f<;>simp at f
  obtain⟨b,q,v⟩:=(t i s).choose_spec.1;obtain⟨_,u,f⟩:=World.cells?_some q;have E:a=⟨a.block,a.off,none⟩:=by cases a;simp only at c;subst c;rfl
  refine⟨a.block,a.off,b,by rw[<-E],u,λj x C=>?_,by simpa using v⟩
  have B:j<P.cellsOf e:=by rw[<-u];exact(zB.1 C).1
  have p:=f j B;rw[Deep.add_add] at p
  have I:a.add (i*P.cellsOf e+j)=⟨a.block,a.off+i*P.cellsOf e+j,none⟩:=by
   unfold Addr.add;split
   .rename_i K;rw[E];simp;omega
   .simp
  rw[I,C] at p;exact p
theorem Jw{α:Type}(Q:α->Prop){T e:TypeId}{sz N:Nat}(hu:P.underlying T=some (.slice e))(b:P.cellsOf e=sz)(hp:0<sz)(R:Hp->List Value->α->Prop)(j:N<=1048576)
  (ih:∀(cs:List Value) (d:DataW H) (ps:List MemPlace) (fuel:Nat),DataW.trod enc P W 0 spare held fuel e cs=some (d,ps)->uptoBulk d<N->∃x,R (Hp.of W) cs x/\Q x)
  {fuel:Nat} {cs:List Value} {d:DataW H} {ps:List MemPlace} (h:DataW.trod enc P W 0 spare held fuel T cs=some (d,ps)) (hb:uptoBulk d<=N):
  ∃x,RSl sz R (Hp.of W) cs x/\x.length<=N/\∀y∈x,Q y:=by
 obtain⟨a,l,k,e,n,c,m⟩:=OB (N:=N) hu b hp (λcs x=>R (Hp.of W) cs x/\Q x) j ih h hb;refine⟨l,⟨a,k,e,n,c.mono (λ_ _ _ h=>h) λ_ _ _ h=>h.1⟩,m,λy f=>?_⟩;obtain⟨i,g,rfl⟩:=ZZ.1 f;obtain⟨_,_,_,_,_,_,h⟩:=c.at_ i g;exact h.2
end
theorem mb:∀l:List Tm,Tm.aA l=(l.map Tm.nodes).sum
 |[]=>rfl
 |t::l=>by rw[Tm.aA,mb l];rfl
section
variable{H:Type}{enc:TypeId×Value->H}{W:World}{spare:Nat->Bool}{held:Bool}
theorem Ox:∀(N:Nat),N<=1048576->∀(cs:List Value) (d:DataW H) (ps:List MemPlace) (fuel:Nat),DataW.trod enc Tryz.prog W 0 spare held fuel 81 cs=some (d,ps)->uptoBulk d<=N->∃t,RTm (Hp.of W) cs t/\t.nodes<=uptoBulk d:=by
 intro N
 induction N using Nat.strongRecOn with
 |_ N ih=>
 intro A cs d ps fuel h hb;obtain⟨z,y,x,v,n,e,f,o,j,i,g⟩:=Joins.trod_struct4 Tryz.underlying81 h;simp only[Prod.mk.injEq] at e;obtain⟨rfl,_⟩:=e;rw[tM] at f
 match cs,f with
 |[B,c1,c2,c3],_=>
  simp only[lE,lD,qV,yQ,List.drop_succ_cons,yD,ZK] at o j i g;simp only[uptoBulk,uptoBulkAll] at hb|-;have:=DJ v.1;obtain⟨k,u,ik⟩:=pF o;obtain⟨m,r,w⟩:=pF j;obtain⟨s,q,is⟩:=ri (N:=N) i (by omega)
  obtain⟨a,l,cap,p,c,b,_,hw⟩:=Nj Tm.nodes (N:=N-1) Tryz.underlying24 tM (by omega) (RTm (Hp.of W)) (by omega) (λcs d ps fuel h hb=>ih (N-1) (by omega) (by omega) cs d ps fuel h (by omega)) g (by omega)
  simp only[Zx,and_true] at u r q p;subst u;subst r;subst q;subst p;exact⟨.mk k m s l,RTm.intro ik w (by unfold lim;omega) c b,by rw[Tm.nodes,mb];omega⟩
theorem MQ(N:Nat)(b:N<=1048576)(cs:List Value)(d:DataW H)(ps:List MemPlace)(fuel:Nat)(h:DataW.trod enc Tryz.prog W 0 spare held fuel 24 cs=some (d,ps))(hb:uptoBulk d<=N):∃x,RSl 4 RTm (Hp.of W) cs x/\Tm.aA x<=100000000:=by
 obtain⟨a,l,k,e,f,c,_,g⟩:=Nj Tm.nodes (N:=N) Tryz.underlying24 tM (by omega) (RTm (Hp.of W)) b (λcs d ps fuel h hb=>Ox N b cs d ps fuel h (by omega)) h hb
 exact⟨l,⟨a,k,e,f,c⟩,by rw[mb];omega⟩
theorem y0{P:Program}{base:Nat}{t:TypeId}{f0 f1 f2 f3 f4 f5:Field}{fuel:Nat}{cs:List Value}{x:DataW H×List MemPlace}(i:P.underlying t=some (.struct #[f0,f1,f2,f3,f4,f5]))(h:DataW.trod enc P W base spare held fuel t cs=some x):
  ∃g f e d c b n,x=(.agg [g.1,f.1,e.1,d.1,c.1,b.1],g.2++(f.2++(e.2++(d.2++(c.2++b.2)))))/\cs.length=P.cellsOf t/\DataW.trod enc P W base spare held n f0.type ((cs.drop f0.offset).take (P.cellsOf f0.type))=some g/\DataW.trod enc P W base spare held n f1.type ((cs.drop f1.offset).take (P.cellsOf f1.type))=some f/\DataW.trod enc P W base spare held n f2.type ((cs.drop f2.offset).take (P.cellsOf f2.type))=some e/\DataW.trod enc P W base spare held n f3.type ((cs.drop f3.offset).take (P.cellsOf f3.type))=some d/\DataW.trod enc P W base spare held n f4.type ((cs.drop f4.offset).take (P.cellsOf f4.type))=some c/\DataW.trod enc P W base spare held n f5.type ((cs.drop f5.offset).take (P.cellsOf f5.type))=some b:=by
 obtain⟨xs,n,_,rfl,j,hlen,a⟩:=DataW.trod_struct i h
 match xs,hlen with
 |[g,f,e,d,c,b],_=>exact⟨g,f,e,d,c,b,n,by simp,j,by simpa using a 0 f0 rfl,by simpa using a 1 f1 rfl,by simpa using a 2 f2 rfl,by simpa using a 3 f3 rfl,by simpa using a 4 f4 rfl,by simpa using a 5 f5 rfl⟩
theorem DG:Tryz.prog.cellsOf 125=2:=by kernel_rfl
theorem OX(N:Nat)(_hN:N<=1048576)(cs:List Value)(d:DataW H)(ps:List MemPlace)(fuel:Nat)(h:DataW.trod enc Tryz.prog W 0 spare held fuel 125 cs=some (d,ps))(hb:uptoBulk d<=N):∃x,RDc (Hp.of W) cs x:=by
 obtain⟨k,j,n,a,b,e,c⟩:=trod_struct2 Tryz.underlying125 h;simp only[Prod.mk.injEq] at a;obtain⟨rfl,_⟩:=a;rw[DG] at b
 match cs,b with
 |[l,c1],_=>
  simp only[lD,lE,yQ,List.drop_succ_cons,yD,ZK] at e c;simp only[uptoBulk,uptoBulkAll] at hb;obtain⟨v0,g,i0⟩:=ri (N:=N) e (by omega)
  obtain⟨v1,f,i⟩:=pF c;simp only[Zx,and_true] at g f;subst g;subst f;exact⟨⟨v0,v1⟩,rfl,ZN i0 (by unfold lim;omega),i⟩
theorem OU(N:Nat)(a:N<=1048576)(cs:List Value)(d:DataW H)(ps:List MemPlace)(fuel:Nat)(h:DataW.trod enc Tryz.prog W 0 spare held fuel 48 cs=some (d,ps))(hb:uptoBulk d<=N):∃x,RSl 2 RDc (Hp.of W) cs x/\x.length<=N/\∀y∈x,True:=
 Jw (λx=>True) Tryz.underlying48 DG (by omega) RDc a (λcs d ps fuel h hb=>let ⟨x,b⟩:=OX N a cs d ps fuel h (by omega);⟨x,b,trivial⟩) h hb
theorem v7:Tryz.prog.cellsOf 26=2:=by kernel_rfl
theorem at_w(N:Nat)(l:N<=1048576)(cs:List Value)(d:DataW H)(ps:List MemPlace)(fuel:Nat)(h:DataW.trod enc Tryz.prog W 0 spare held fuel 26 cs=some (d,ps))(hb:uptoBulk d<=N):∃x,RAt (Hp.of W) cs x/\Tm.aA x.args<=100000000:=by
 obtain⟨p,o,n,a,b,e,c⟩:=trod_struct2 Tryz.underlying26 h;simp only[Prod.mk.injEq] at a;obtain⟨rfl,_⟩:=a;rw[v7] at b
 match cs,b with
 |[q,c1],_=>
  simp only[lD,qV,yQ,List.drop_succ_cons,yD,ZK] at e c;simp only[uptoBulk,uptoBulkAll] at hb;obtain⟨v0,g,i0⟩:=ri (N:=N) e (by omega)
  obtain⟨v1,⟨m,k,f,j,s1⟩,i⟩:=MQ N l _ _ _ _ c (by omega)
  simp only[Zx,and_true] at g f;subst g;subst f;exact⟨⟨v0,v1⟩,⟨m,k,rfl,ZN i0 (by unfold lim;omega),j,s1⟩,i⟩
theorem MS(N:Nat)(a:N<=1048576)(cs:List Value)(d:DataW H)(ps:List MemPlace)(fuel:Nat)(h:DataW.trod enc Tryz.prog W 0 spare held fuel 65 cs=some (d,ps))(hb:uptoBulk d<=N):∃x,RSl 2 RAt (Hp.of W) cs x/\x.length<=N/\∀y∈x,Tm.aA y.args<=100000000:=
 Jw (λx=>Tm.aA x.args<=100000000) Tryz.underlying65 v7 (by omega) RAt a (λcs d ps fuel h hb=>at_w N a cs d ps fuel h (by omega)) h hb
theorem DF:Tryz.prog.cellsOf 181=3:=by kernel_rfl
theorem gl_w(N:Nat)(m:N<=1048576)(cs:List Value)(d:DataW H)(ps:List MemPlace)(fuel:Nat)(h:DataW.trod enc Tryz.prog W 0 spare held fuel 181 cs=some (d,ps))(hb:uptoBulk d<=N):∃x,RGl (Hp.of W) cs x/\Tm.aA x.args<=100000000:=by
 obtain⟨q,p,o,n,a,b,f,e,c⟩:=Deep.trod_struct3 Tryz.underlying181 h;simp only[Prod.mk.injEq] at a;obtain⟨rfl,_⟩:=a;rw[DF] at b
 match cs,b with
 |[r,c1,c2],_=>
  simp only[lE,lD,qV,yQ,List.drop_succ_cons,yD,ZK] at f e c;simp only[uptoBulk,uptoBulkAll] at hb;obtain⟨v0,j,i0⟩:=pF f;obtain⟨v1,i,l⟩:=ri (N:=N) e (by omega)
  obtain⟨v2,⟨a2,k2,g,l2,s2⟩,k⟩:=MQ N m _ _ _ _ c (by omega)
  simp only[Zx,and_true] at j i g;subst j;subst i;subst g;exact⟨⟨v0,v1,v2⟩,⟨a2,k2,rfl,i0,ZN l (by unfold lim;omega),l2,s2⟩,k⟩
theorem MR(N:Nat)(a:N<=1048576)(cs:List Value)(d:DataW H)(ps:List MemPlace)(fuel:Nat)(h:DataW.trod enc Tryz.prog W 0 spare held fuel 66 cs=some (d,ps))(hb:uptoBulk d<=N):∃x,RSl 3 RGl (Hp.of W) cs x/\x.length<=N/\∀y∈x,Tm.aA y.args<=100000000:=
 Jw (λx=>Tm.aA x.args<=100000000) Tryz.underlying66 DF (by omega) RGl a (λcs d ps fuel h hb=>gl_w N a cs d ps fuel h (by omega)) h hb
theorem IG:Tryz.prog.cellsOf 65=1:=by kernel_rfl
theorem IE:Tryz.prog.cellsOf 66=1:=by kernel_rfl
theorem DD:Tryz.prog.cellsOf 68=6:=by kernel_rfl
theorem rl_w(N:Nat)(a:N<=1048576)(cs:List Value)(d:DataW H)(ps:List MemPlace)(fuel:Nat)(h:DataW.trod enc Tryz.prog W 0 spare held fuel 68 cs=some (d,ps))(hb:uptoBulk d<=N):∃x,RRl (Hp.of W) cs x/\x.size:=by
 obtain⟨Q,P,O,M,L,K,n,i,j,q,p,o,m,l,k⟩:=y0 Tryz.underlying68 h;simp only[Prod.mk.injEq] at i;obtain⟨rfl,_⟩:=i;rw[DD] at j
 match cs,j with
 |[R,c1,c2,c3,c4,c5],_=>
  simp only[lD,IG,IE,lE,yQ,List.drop_succ_cons,yD,ZK] at q p o m l k;simp only[uptoBulk,uptoBulkAll] at hb;obtain⟨v0,w,i0⟩:=ri (N:=N) q (by omega)
  obtain⟨v1,⟨J,F,v,C,s1⟩,f⟩:=MS N a _ _ _ _ p (by omega)
  obtain⟨v2,⟨a2,k2,u,l2,s2⟩,e⟩:=MS N a _ _ _ _ o (by omega)
  obtain⟨v3,⟨a3,E,t,B,z⟩,c⟩:=MR N a _ _ _ _ m (by omega)
  obtain⟨v4,⟨a4,D,s,A,y⟩,b⟩:=MR N a _ _ _ _ l (by omega)
  obtain⟨v5,r,i5⟩:=pF k;simp only[Zx,and_true] at w v u t s r;subst w;subst v;subst u;subst t;subst s;subst r;exact⟨⟨v0,v1,v2,v3,v4,v5⟩,⟨J,F,a2,k2,a3,E,a4,D,rfl,ZN i0 (by unfold lim;omega),C,s1,l2,s2,B,z,A,y,i5⟩,⟨by have:=f.1;show v1.length<=_;omega,by have:=e.1;show v2.length<=_;omega,by have:=c.1;show v3.length<=_;omega,by have:=b.1;show v4.length<=_;omega,λh G=>(zY.1 G).elim (f.2 h) (e.2 h),λg I=>(zY.1 I).elim (c.2 g) (b.2 g)⟩⟩
theorem OO(N:Nat)(a:N<=1048576)(cs:List Value)(d:DataW H)(ps:List MemPlace)(fuel:Nat)(h:DataW.trod enc Tryz.prog W 0 spare held fuel 49 cs=some (d,ps))(hb:uptoBulk d<=N):∃x,RSl 6 RRl (Hp.of W) cs x/\x.length<=N/\∀y∈x,y.size:=
 Jw (λx=>x.size) Tryz.underlying49 DD (by omega) RRl a (λcs d ps fuel h hb=>rl_w N a cs d ps fuel h (by omega)) h hb
theorem IF:Tryz.prog.cellsOf 48=1:=by kernel_rfl
theorem IC:Tryz.prog.cellsOf 49=1:=by kernel_rfl
theorem K9:Tryz.prog.cellsOf 51=2:=by kernel_rfl
theorem pg_w(N:Nat)(e:N<=1048576)(cs:List Value)(d:DataW H)(ps:List MemPlace)(fuel:Nat)(h:DataW.trod enc Tryz.prog W 0 spare held fuel 51 cs=some (d,ps))(hb:uptoBulk d<=N):∃x,RPg (Hp.of W) cs x/\x.size:=by
 obtain⟨s,r,n,b,c,g,f⟩:=trod_struct2 Tryz.underlying51 h;simp only[Prod.mk.injEq] at b;obtain⟨rfl,_⟩:=b;rw[K9] at c
 match cs,c with
 |[t,c1],_=>
  simp only[IF,IC,yQ,List.drop_succ_cons,yD,ZK] at g f;simp only[uptoBulk,uptoBulkAll] at hb;obtain⟨v0,⟨a0,k0,j,o,k⟩,l⟩:=OU N e _ _ _ _ g (by omega)
  obtain⟨v1,⟨q,p,i,m,s1⟩,a⟩:=OO N e _ _ _ _ f (by omega)
  simp only[Zx,and_true] at j i;subst j;subst i;exact⟨⟨v0,v1⟩,⟨a0,k0,q,p,rfl,o,k,m,s1⟩,⟨by have:=l.1;show v0.length<=_;omega,by have:=a.1;show v1.length<=_;omega,a.2⟩⟩
end
end Go.CK
namespace Go.CK
open Go.RowKit Go.Proofs Go.ChangeShapes Go.WideShapes Go.ChangeAt Go.AM
open Go.Proofs.YtcjfkbdbcgmomaaGreatDoor.Rows (uptoBulk uptoBulkAll uptoSmall)
section
variable{H:Type}{enc:TypeId×Value->H}{W:World}{spare:Nat->Bool}{held:Bool}
theorem ON(N:Nat)(b:N<=1048576)(cs:List Value)(d:DataW H)(ps:List MemPlace)(fuel:Nat)(h:DataW.trod enc Tryz.prog W 0 spare held fuel 24 cs=some (d,ps))(hb:uptoBulk d<=N):∃x,RSl 4 RTm (Hp.of W) cs x/\x.length<=10000000/\Tm.aA x<=100000000:=by
 obtain⟨a,l,k,e,f,c,g,i⟩:=Nj Tm.nodes (N:=N) Tryz.underlying24 tM (by omega) (RTm (Hp.of W)) b (λcs d ps fuel h hb=>Ox N b cs d ps fuel h (by omega)) h hb
 exact⟨l,⟨a,k,e,f,c⟩,by omega,by rw[mb];omega⟩
theorem DE:Tryz.prog.cellsOf 28=3:=by kernel_rfl
theorem it_v(N:Nat)(t:N<=1048576)(cs:List Value)(d:DataW H)(ps:List MemPlace)(fuel:Nat)(h:DataW.trod enc Tryz.prog W 0 spare held fuel 28 cs=some (d,ps))(hb:uptoBulk d<=N):∃x,RIt (Hp.of W) cs x/\x.atom.args.length<=10000000/\Tm.aA x.atom.args<=100000000:=by
 obtain⟨u,o,n,c,e,g,f⟩:=trod_struct2 Tryz.underlying28 h;simp only[Prod.mk.injEq] at c;obtain⟨rfl,_⟩:=c;rw[DE] at e
 match cs,e with
 |[v,c1,c2],_=>
  simp only[lE,v7,yQ,List.drop_succ_cons,yD,ZK] at g f;simp only[uptoBulk,uptoBulkAll] at hb;obtain⟨v0,k,i0⟩:=pF g;obtain⟨z0,l,m,b,s,g0,g1⟩:=trod_struct2 Tryz.underlying26 f;simp only[lD,qV,yQ,List.drop_succ_cons,yD,ZK] at g0 g1;have a:o.1=.agg [z0.1,l.1]:=by rw[Prod.ext_iff] at b;exact b.1
  rw[a] at hb;simp only[uptoBulk,uptoBulkAll] at hb;obtain⟨v1,j,r⟩:=ri (N:=N) g0 (by omega)
  obtain⟨v2,⟨a2,k2,i,l2,s2⟩,q,p⟩:=ON N t _ _ _ _ g1 (by omega)
  simp only[Zx,and_true] at k j i;subst k;subst j;subst i;exact⟨⟨v0,⟨v1,v2⟩⟩,⟨_,rfl,i0,a2,k2,rfl,ZN r (by unfold lim;omega),l2,s2⟩,q,p⟩
theorem OS(N:Nat)(a:N<=1048576)(cs:List Value)(d:DataW H)(ps:List MemPlace)(fuel:Nat)(h:DataW.trod enc Tryz.prog W 0 spare held fuel 22 cs=some (d,ps))(hb:uptoBulk d<=N):∃x,RSl 3 RIt (Hp.of W) cs x/\x.length<=N/\∀y∈x,y.atom.args.length<=10000000/\Tm.aA y.atom.args<=100000000:=
 Jw (λx=>x.atom.args.length<=10000000/\Tm.aA x.atom.args<=100000000) Tryz.underlying22 DE (by omega) RIt a (λcs d ps fuel h hb=>it_v N a cs d ps fuel h (by omega)) h hb
def RSo(M:Hp)(c:List Value)(x:Sto):Prop:=CF M x.av.cells c/\∀u∈c,u.oneCell'=true
theorem RSo.fv{M:Hp}{c:List Value}{x:Sto}(h:RSo M c x):FV M x.av (.agg c.toArray):=h.1.agg h.2
theorem K8:Tryz.prog.cellsOf 74=2:=by kernel_rfl
theorem ID:Tryz.prog.cellsOf 22=1:=by kernel_rfl
theorem so_v(N:Nat)(m:N<=1048576)(cs:List Value)(d:DataW H)(ps:List MemPlace)(fuel:Nat)(h:DataW.trod enc Tryz.prog W 0 spare held fuel 74 cs=some (d,ps))(hb:uptoBulk d<=N):∃x,RSo (Hp.of W) cs x/\x.items.length<=10000000/\∀y∈x.items,y.atom.args.length<=10000000/\Tm.aA y.atom.args<=100000000:=by
 obtain⟨p,o,n,a,b,g,e⟩:=trod_struct2 Tryz.underlying74 h;simp only[Prod.mk.injEq] at a;obtain⟨rfl,_⟩:=a;rw[K8] at b
 match cs,b with
 |[s,c1],_=>
  simp only[lE,ID,yQ,List.drop_succ_cons,yD,ZK] at g e;simp only[uptoBulk,uptoBulkAll] at hb;obtain⟨v0,j,q,k⟩:=OS N m _ _ _ _ g (by omega)
  obtain⟨v1,i,r⟩:=pF e;simp only[Zx,and_true] at i;subst i;have c:=j.cf (f:=It.av) λ_ _ _ l=>RIt.cf l;refine⟨⟨v0,v1⟩,⟨?_,λu hu=>?_⟩,by show v0.length<=_;omega,k⟩
  .exact CF.app c.1 (CF.cons (FV.int .i64 v1) CF.nil)
  .simp only[zI,yU,or_false] at hu;rcases hu with rfl|rfl
   .exact c.2 _ (by simp)
   .rfl
end
theorem qC{P:Program}{x:String×DataW Unit}{r:List (String×DataW Unit)}{W:World}(h:laidMet P (x::r) W):laidMet P r W:=by
 obtain⟨ps,⟨g,t,cs,fuel,p,q,_,_,_,_,a,rfl⟩,c,hr⟩:=h;exact⟨q,a,(List.nodup_append.1 c).2.1,λb off hm=>hr b off (ZU _ hm)⟩
theorem Oy {x y : String × DataW Unit} {W : World} (h : laidMet Tryz.prog [x, y, ("internal/strconv.uint64pow10", Lib.tabData .u64 Lib.pow10Tab)] W) : ∃ T fz, W.heap[AM.KB]? = some (.cells AM.KV.toArray T fz) := by
 have h1 : Lib.TabIs Tryz.prog W "internal/strconv.uint64pow10" .u64 Lib.pow10Tab := Lib.tabIs_of_head (g := 1) (t := 314) (n := 20) (by kernel_rfl) (by kernel_rfl) (by kernel_rfl) Tryz.underlying76 (by kernel_rfl) (by kernel_rfl) (qC (qC h))
 have hg : Tryz.prog.globalNamed "internal/strconv.uint64pow10" = some 1 := by kernel_rfl
 have hz:(Lib.pow10Tab.map λz=>Value.int .u64 z)=AM.KV:=by kernel_rfl
 unfold Lib.TabIs World.var? at h1;rw[hg,ZG,hz] at h1;split at h1
 .rename_i cs T fz e;cases h1;exact⟨T,fz,e⟩
 .cases h1
end Go.CK
