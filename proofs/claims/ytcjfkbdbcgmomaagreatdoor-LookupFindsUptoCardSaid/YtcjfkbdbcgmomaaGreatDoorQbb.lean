/-
  By an AI agent.
-/
import Derived.Test.YtcjfkbdbcgmomaaGreatDoorQba
set_option linter.unusedSimpArgs false
set_option linter.unusedVariables false
set_option maxRecDepth 100000
namespace Go.CK
open Go.AM Go.Proofs
def eX(r:Rl)(keys:List Ky)(done:List Int):Nat->Int×Int
 |0=>(-1,-1)
 |j+1=>if (j:Int)∈done then eX r keys done j else match r.ai[j]? with
  |none=>eX r keys done j
  |some h=>if (eX r keys done j).2<cW r keys done j h then ((j:Int),cW r keys done j h) else eX r keys done j
def cA(r:Rl)(keys:List Ky)(o:Int):Nat->List Int
 |0=>[o]
 |k+1=>cA r keys o k++[(eX r keys (cA r keys o k) r.ai.length).1]
theorem lC(r:Rl)(keys:List Ky)(o:Int):∀k,(cA r keys o k).length=k+1
 |0=>rfl
 |k+1=>by simp[cA,lC r keys o k]
theorem DP{r:Rl}{keys:List Ky}{done:List Int}{j:Nat}(h:(j:Int)∈done):eX r keys done (j+1)=eX r keys done j:=by rw[eX,if_pos h]
theorem sk{r:Rl}{keys:List Ky}{done:List Int}{j:Nat}{h:At}(a:¬(j:Int)∈done)(b:r.ai[j]? =some h):eX r keys done (j+1)=if (eX r keys done j).2<cW r keys done j h then ((j:Int),cW r keys done j h) else eX r keys done j:=by rw[eX,if_neg a,b]
theorem Ey(r:Rl)(keys:List Ky)(done:List Int)(head:Int)(h:At):0<=cW r keys done head h:=by
 unfold cW;split<;>split<;>omega
theorem wv{r:Rl}{keys:List Ky}{done:List Int}:∀{j:Nat},j<=r.ai.length->
  ((eX r keys done j=(-1,-1)/\∀i,i<j->(i:Int)∈done)\/∃(b:Nat) (h:At),b<j/\r.ai[b]? =some h/\¬(b:Int)∈done/\eX r keys done j=((b:Int),cW r keys done b h)/\
   ∀i g,i<j->r.ai[i]? =some g->¬(i:Int)∈done->cW r keys done i g<=cW r keys done b h/\(cW r keys done i g=cW r keys done b h->b<=i))
 |0,_=>.inl ⟨rfl,λi c=>by omega⟩
 |j+1,u=>by
  obtain⟨h,k⟩:∃h,r.ai[j]? =some h:=⟨_,zA u⟩
  by_cases l:(j:Int)∈done
  .rw [DP l];rcases wv (r:=r) (keys:=keys) (done:=done) (j:=j) (by omega) with ⟨n,f⟩|⟨b,g,n,f,t,s,o⟩
   .exact .inl ⟨n,λi c=>by
     rcases Nat.lt_or_eq_of_le (Nat.le_of_lt_succ c) with q|q
     .exact f i q
     .rw [q];exact l⟩
   .refine .inr ⟨b,g,by omega,f,t,s,λi m c a d=>?_⟩
    rcases Nat.lt_or_eq_of_le (Nat.le_of_lt_succ c) with q|q
    .exact o i m q a d
    .rw [q] at d;exact absurd l d
  .rw [sk l k];rcases wv (r:=r) (keys:=keys) (done:=done) (j:=j) (by omega) with ⟨n,f⟩|⟨b,g,n,f,t,s,o⟩
   .have:=Ey r keys done j h;rw[n,if_pos (by simp only;omega)]
    refine .inr ⟨j,h,by omega,k,l,rfl,λi m c a d=>?_⟩
    rcases Nat.lt_or_eq_of_le (Nat.le_of_lt_succ c) with q|q
    .exact absurd (f i q) d
    .subst q;rw[k] at a;cases a;exact⟨Int.le_refl _,λ_=>zG _⟩
   .rw [s];dsimp only;split
    .rename_i p;refine .inr ⟨j,h,by omega,k,l,rfl,λi m c a d=>?_⟩
     rcases Nat.lt_or_eq_of_le (Nat.le_of_lt_succ c) with q|q
     .have:=o i m q a d;exact⟨by omega,λe=>by omega⟩
     .subst q;rw[k] at a;cases a;exact⟨Int.le_refl _,λ_=>zG _⟩
    .rename_i p;refine .inr ⟨b,g,by omega,f,t,rfl,λi m c a d=>?_⟩
     rcases Nat.lt_or_eq_of_le (Nat.le_of_lt_succ c) with q|q
     .exact o i m q a d
     .subst q;rw[k] at a;cases a;exact⟨by omega,λ_=>by omega⟩
theorem IP{r:Rl}{keys:List Ky}{done:List Int}(e:done.length<r.ai.length):∃(b:Nat) (h:At),b<r.ai.length/\r.ai[b]? =some h/\¬(b:Int)∈done/\eX r keys done r.ai.length=((b:Int),cW r keys done b h)/\
   ∀i g,i<r.ai.length->r.ai[i]? =some g->¬(i:Int)∈done->cW r keys done i g<=cW r keys done b h/\(cW r keys done i g=cW r keys done b h->b<=i):=by
 rcases wv (r:=r) (keys:=keys) (done:=done) (zG _) with ⟨_,d⟩|h
 .exfalso
  have hs:∀x∈upI r.ai.length,x∈done:=λx a=>by
   obtain⟨j,c,rfl⟩:=zk.1 a;exact d j (zd.1 c)
  have:=(nv (Hn r.ai.length) hs (by rw[pU];omega)).length_eq
  rw[pU] at this;omega
 .exact h
theorem Dp{r:Rl}{keys:List Ky}{o:Int}(f:0<=o)(d:o<r.ai.length):∀{k:Nat},k+1<=r.ai.length->(cA r keys o k).Nodup/\∀x∈cA r keys o k,0<=x/\x<r.ai.length
 |0,_=>⟨by simp[cA],λx a=>by simp[cA] at a;subst a;exact⟨f,d⟩⟩
 |k+1,hk=>by
  obtain⟨i,g⟩:=Dp (r:=r) (keys:=keys) f d (k:=k) (by omega)
  obtain⟨b,h,n,m,l,j,_⟩:=IP (r:=r) (keys:=keys) (done:=cA r keys o k) (by rw[lC];omega)
  rw[cA,j];refine⟨List.nodup_append.2 ⟨i,by simp,λx a y c e=>?_⟩,λx a=>?_⟩
  .simp at c;subst c;exact l (e▸a)
  .rcases zY.1 a with a|a
   .exact g x a
   .simp at a;subst a;omega
def iK(r:Rl)(keys:List Ky)(o:Int):List Int:=(cA r keys o (r.ai.length-1)).drop 1
theorem vS(r:Rl)(keys:List Ky)(o:Int):∀k,cA r keys o k=o::(cA r keys o k).drop 1
 |0=>rfl
 |k+1=>by
  have:=vS r keys o k
  conv=>lhs;rw[cA,this]
  conv=>rhs;rw[cA,this]
  simp
theorem sP{r:Rl}{keys:List Ky}{o:Int}(e:0<=o)(d:o<r.ai.length):(o::iK r keys o).Perm (upI r.ai.length):=by
 rw[iK,<-vS];obtain⟨c,a⟩:=Dp (r:=r) (keys:=keys) e d (k:=r.ai.length-1) (by omega)
 exact nv c (λx b=>LC (a x b).1 (a x b).2) (by rw[pU,lC];omega)
def Pl.zero:Pl:=⟨⟨0,0,false⟩,[],[],[]⟩
def ofI(p:Pg)(keys:List Ky)(o:Oc):Pl:=if o∈p.occs then match p.rules[o.rule.toNat]? with
 |none=>Pl.zero
 |some r=>GB r o (iK r keys o.head) else Pl.zero
set_option maxHeartbeats 1000000 in
theorem LX{p:Pg}{keys:List Ky}{o:Oc}(hp:p.fit)(hk:keys.length<=100000):Fun Tryz.prog 67 [p.av,slA Ky.av keys,o.av] (ofI p keys o).av:=by
 by_cases a:o∈p.occs
 .obtain ⟨r,hr,A,z,y,B⟩:=uV a;have f:=zE hr;have c:=hp.ok2 r f;have m:=hp.okG r f;have x:r.ai.length<=8:=by rw[Rl.bG];exact c.1
  have b:Fun Tryz.prog 125 [slA Oc.av p.occs,o.av] (.bool true):=by
   have:=o8 (l:=p.occs) (o:=o)
   rwa [decide_eq_true a] at this
  rw[ofI,if_pos a,hr];dsimp only;refine Fun.of (uO (by simp) ?_) rfl rfl
  conv=>whnf
  repeat' (first|refine gF (ae.fn (NI A hr c) ?_)|(refine gG ?_;first|refine aW.fn (FZ hp.ok hp.few) ?_|refine aW.fn (b) ?_)|(refine gC ?_;first|refine cY ?_|refine .not ?_))<;>conv=>whnf
  refine ax.count (fb:=true) (r.ai.length-1) (λd k=>d.bD [(9,.sl (.own 1) ((cA r keys o.head k).map aG))]) (λ_=>True) trivial ?_ (λk hk _=>?_) (λ_=>?_)
  .refine al.at_ ?_ rfl
   conv=>whnf
   refine And.intro ?_ ?_<;>conv=>whnf
   all_goals repeat' (first|(refine gV ?_;first|refine vE ?_|((refine gK ?_;refine vD ?_ ?_);(focus (simp[AV.norm,AV.ay,cA];done))))|refine gX (xB ?_)|exact True.intro)<;>conv=>whnf
  .have i:=lC r keys o.head k
   conv=>whnf
   repeat' (first|refine gC (gD (cI ?_))|refine gL (.map ?_))<;>conv=>whnf
   refine ax.count (fb:=true) r.ai.length (λd j=>d.bD [(10,.int .i64 (eX r keys (cA r keys o.head k) j).1),(11,.int .i64 (eX r keys (cA r keys o.head k) j).2),(39,.int .i64 j)]) (λ_=>True) trivial ?_ (λj w _=>?_) (λ_=>?_)
   .refine al.at_ ?_ rfl
    conv=>whnf
    refine And.intro ?_ ?_<;>conv=>whnf
    all_goals repeat' (first|(refine gV ?_;first|refine vE ?_|refine vI ?_|(refine WkN.norm ?_ ?_;(focus (simp[AV.norm,AV.ay,eX];done))))|refine gX (xB ?_)|exact True.intro)<;>conv=>whnf
   .obtain ⟨h,g⟩:∃h,r.ai[j]? =some h:=⟨_,zA w⟩
    conv=>whnf
    repeat' (first|(refine gF ?_;first|refine ae.fn (s0 (l:=cA r keys o.head k) (n:=j)) ?_|refine ae.fn (JA (r:=r) (keys:=keys) (done:=cA r keys o.head k) (head:=j) (h:=h) c (by omega) (by omega) (by omega) (by omega) (by simpa using g)) ?_)|(refine gC ?_;first|refine gD (cI ?_)|refine ak.lt (λu=>?_) (λu=>?_)|refine ak.dec (λu=>?_) (λu=>?_))|refine gW (wI ?_)|fail)<;>conv=>whnf
    .have hb:=DP (r:=r) (keys:=keys) (by assumption:(j:Int)∈cA r keys o.head k)
     refine⟨trivial,?_⟩;refine al.at_ ?_ rfl
     conv=>whnf
     refine And.intro ?_ ?_<;>conv=>whnf
     all_goals repeat' (first|(refine gV ?_;first|refine vE ?_|refine vI ?_|(refine WkN.norm ?_ ?_;(focus (simp[AV.norm,AV.ay,hb];done))))|refine gX (xB ?_)|exact True.intro)<;>conv=>whnf
    .have hb:=sk (keys:=keys) (by assumption:¬(j:Int)∈cA r keys o.head k) g
     rw[if_pos (by assumption)] at hb
     refine⟨trivial,?_⟩;refine al.at_ ?_ rfl
     conv=>whnf
     refine And.intro ?_ ?_<;>conv=>whnf
     all_goals repeat' (first|(refine gV ?_;first|refine vE ?_|refine vI ?_|(refine WkN.norm ?_ ?_;(focus (simp[AV.norm,AV.ay,hb];done))))|refine gX (xB ?_)|exact True.intro)<;>conv=>whnf
    .have hb:=sk (keys:=keys) (by assumption:¬(j:Int)∈cA r keys o.head k) g
     rw[if_neg (by omega)] at hb
     refine⟨trivial,?_⟩;refine al.at_ ?_ rfl
     conv=>whnf
     refine And.intro ?_ ?_<;>conv=>whnf
     all_goals repeat' (first|(refine gV ?_;first|refine vE ?_|refine vI ?_|(refine WkN.norm ?_ ?_;(focus (simp[AV.norm,AV.ay,hb];done))))|refine gX (xB ?_)|exact True.intro)<;>conv=>whnf
   .conv=>whnf
    repeat' (first|refine gC (gD (cJ ?_))|refine gN (nS ?_))<;>conv=>whnf
    refine⟨trivial,?_⟩;refine al.at_ ?_ rfl
    conv=>whnf
    refine And.intro ?_ ?_<;>conv=>whnf
    all_goals repeat' (first|(refine gV ?_;first|refine vE ?_|(refine WkN.sl ?_ ?_;(focus (simp[AV.norm,AV.ay,cA];done))))|refine gX (xB ?_)|exact True.intro)<;>conv=>whnf
  .have i:=lC r keys o.head (r.ai.length-1);have q:=sP (r:=r) (keys:=keys) z y;have g:∀h∈iK r keys o.head,0<=h/\h<r.ai.length:=λh hm=>Gf (q.mem_iff.1 (zQ _ hm))
   have s:(iK r keys o.head).length<=90:=by
    rw[iK,Zd,i];omega
   have e:=EL (o:=o) (order:=iK r keys o.head) c m s g;rw[iK] at e|-;generalize cA r keys o.head (r.ai.length-1)=v at*
   have t:AV.sl .no (List.drop (Int.toNat 1) (List.take (((v.map aG).length:Int)).toNat (v.map aG)))=slA aG (v.drop 1):=by
    rw[Zn,zz];simp[slA,List.map_drop]
   rw[<-t] at e
   conv=>whnf
   repeat' (first|refine gG (aW.fn (e) ?_)|refine gC (gD (cJ ?_))|refine gL (.map ?_)|refine gN (nS ?_)|refine ag.nrm ?_)<;>conv=>whnf
   rfl
 .rw [ofI,if_neg a]
  have b:Fun Tryz.prog 125 [slA Oc.av p.occs,o.av] (.bool false):=by
   have:=o8 (l:=p.occs) (o:=o)
   rwa [decide_eq_false a] at this
  refine Fun.of (uO (by simp) ?_) rfl rfl
  conv=>whnf
  repeat' (first|(refine gG ?_;first|refine aW.fn (FZ hp.ok hp.few) ?_|refine aW.fn (b) ?_)|(refine gC ?_;first|refine cN ?_|refine .not ?_)|refine ag.nrm ?_)<;>conv=>whnf
  rfl
end Go.CK
namespace Go.CK
open Go.AM Go.Proofs
theorem mG{l:List (Int×AV)}{n:Int}{ok:Bool}{z v:AV}{K:AV->Prop}(h:nG l n=some v)(a:gk v=true)(k:K (okR ok v true)):Ef l n ok z K:=⟨by rw[h];exact⟨a,k⟩⟩
theorem mGn{l:List (Int×AV)}{n:Int}{ok:Bool}{z:AV}{K:AV->Prop}(h:nG l n=none)(k:K (okR ok z false)):Ef l n ok z K:=⟨by rw[h];exact k⟩
def mi(l:List Tm)(x:Int):Nat->Option Nat
 |0=>none
 |j+1=>match l[j]? with
  |none=>mi l x j
  |some t=>if x=t.num then some j else mi l x j
def dF(l:List Tm):Nat->List (Int×AV)
 |0=>[]
 |j+1=>match l[j]? with
  |none=>dF l j
  |some t=>iW (dF l j) t.num (.int .i64 j)
theorem ie(l:List Tm)(x:Int):∀j,nG (dF l j) x=(mi l x j).map λi:Nat=>AV.int .i64 i
 |0=>rfl
 |j+1=>by
  rw[dF,mi]
  cases e:l[j]? with
  |none=>exact ie l x j
  |some t=>
   simp only;rw[vh];split
   .rfl
   .exact ie l x j
def cD(l:List Tm):Nat->Bool
 |0=>true
 |j+1=>cD l j&&match l[j]? with
  |none=>true
  |some t=>decide (t.kind=1)&&(mi l t.num j).isNone
theorem HS{l:List Tm}{j:Nat}{t:Tm}(h:l[j]? =some t):cD l (j+1)=(cD l j&&(decide (t.kind=1)&&(mi l t.num j).isNone)):=by simp[cD,h]
theorem xI{l:List Tm}{j:Nat}:∀{n:Nat},cD l j=false->j<=n->cD l n=false
 |0,h,a=>by
  obtain rfl:j=0:=by omega
  exact h
 |n+1,h,a=>by
  rcases Nat.lt_or_eq_of_le a with q|q
  .rw [cD,xI h (by omega),zw]
  .rw [<-q];exact h
theorem I6{l:List Tm}{j:Nat}{t:Tm}(h:l[j]? =some t):dF l (j+1)=iW (dF l j) t.num (.int .i64 j):=by simp[dF,h]
theorem ag.OZ{s:St}{rs:List eP}{Q:AV->List Box->Prop}{own X:List Box}(hb:s.bs=own++X)(a:s.lo<=own.length)(d:fO own.length s.env=true)(c:aj own.length own=true)(h:ag ⟨s.env,own,s.lo⟩ rs Q):ag s rs Q:=by
 have b:s.bs.take own.length=own:=by rw[hb];simp
 refine ag.cut own.length a (by rw[hb];simp) d (by rw[b];exact c) ?_
 rw[b];exact h
set_option maxHeartbeats 1000000 in
theorem pR{a:At}{bs:List Box}(w:a.args.length<=100000)(e:aj bs.length bs=true):AM.Sem Tryz.prog 173 [a.av] bs λr bs'=>(cD a.args a.args.length=true/\r=.tup [.mpt (bs.length+1),.bool true]/\bs'=bs++[.cells [.str a.name,.sl .no (a.args.map Tm.av)],.mp (dF a.args a.args.length)])\/(cD a.args a.args.length=false/\r=.tup [.nmp,.bool false]/\bs'=bs):=by
 refine nC (by simp) ?_
 conv=>whnf
 try dsimp only
 repeat' (first|refine gL (.map ?_)|refine gB (.last2 ?_))<;>(conv=>whnf;try dsimp only)
 obtain⟨own,b⟩:∃own,own=bs++[Box.cells [AV.str a.name,.sl .no (a.args.map Tm.av)]]:=⟨_,rfl⟩;have f:own.length=bs.length+1:=by rw[b];simp
 have m:aj own.length own=true:=by
  rw[b];exact aY (bc (by simp) e) (by rfl)
 rw[<-b];refine ax.count (fb:=false) a.args.length (λs j=>⟨[(4,.mpt own.length),(11,.sl .no (a.args.map Tm.av)),(12,.int .i64 a.args.length),(13,.int .i64 j)],own++[.mp (dF a.args j)],bs.length⟩) (λj=>cD a.args j=true) rfl ?_ (λj p d=>?_) (λd=>?_)
 .refine al.atS ?_ rfl rfl
  conv=>whnf
  repeat' (first|(refine gV ?_;first|refine vE ?_|refine vI ?_)|exact True.intro)<;>conv=>whnf
 .obtain ⟨t,o⟩:∃t,a.args[j]? =some t:=⟨_,zA p⟩;have k:∀q:Box,((own++[.mp (dF a.args j)])++[q])[own.length]? =some (.mp (dF a.args j)):=λq=>by simp
  have c:=HS o;rw[d,za] at c;have n:=I6 o;have g:cD a.args (j+1)=false->cD a.args a.args.length=false:=λh=>xI h p
  conv=>whnf
  try dsimp only
  repeat' (first|(refine gC ?_;first|refine .not ?_|refine gD (cI ?_)|refine ak.dec (λu=>?_) (λu=>?_))|refine gI (gT (iA ?_))|refine gB (.last ?_)|refine jI.last ?_)<;>(conv=>whnf;try dsimp only)
  .have hk:t.kind=1:=by assumption
   rw[decide_eq_true hk,za] at c;refine BG.of (k _) ?_
   cases l:mi a.args t.num j with
   |some i=>
    refine mG (v:=.int .i64 i) (by rw[ie,l];rfl) rfl ?_
    conv=>whnf
    try dsimp only
    repeat' refine gC (cY ?_)<;>(conv=>whnf;try dsimp only)
    refine ag.OZ (own:=bs) (X:=.cells [AV.str a.name,.sl .no (a.args.map Tm.av)]::[.mp (dF a.args j),.cells [.int .i64 t.kind,.int .i64 t.num,.str t.name,.sl .no (t.args.map Tm.av)]]) (by simp[b]) (zG _) rfl e ?_
    conv=>whnf
    try dsimp only
    repeat' refine ag.nrm ?_<;>(conv=>whnf;try dsimp only)
    exact Or.inr ⟨g (by rw[c,l];rfl),rfl,rfl⟩
   |none=>
    refine mGn (by rw[ie,l];rfl) ?_
    conv=>whnf
    try dsimp only
    repeat' (first|refine gC (cN ?_)|refine gB (.last ?_))<;>(conv=>whnf;try dsimp only)
    refine BG.of (k _) ?_
    conv=>whnf
    try dsimp only
    repeat' (first|refine gW (wI ?_)|refine gN (nS ?_))<;>(conv=>whnf;try dsimp only)
    refine⟨by rw[c,l];rfl,?_⟩
    refine al.qU (own:=own++[.mp (dF a.args (j+1))]) (x:=.cells [.int .i64 t.kind,.int .i64 t.num,.str t.name,.sl .no (t.args.map Tm.av)]) (by simp[n,St.ev,St.get,au,Nat.beq,AV.aI]) (by simp[f];omega) (by simp[fO,AV.lt,AV.lt1,AV.lt0,AV.aZ]) (aY (bc (by simp) m) rfl) ?_
    refine al.atS ?_ rfl rfl
    conv=>whnf
    repeat' (first|(refine gV ?_;first|refine vE ?_|refine vI ?_)|exact True.intro)<;>conv=>whnf
  .have hk:¬t.kind=1:=by assumption
   rw[decide_eq_false hk,zw] at c;refine ag.OZ (own:=bs) (X:=.cells [AV.str a.name,.sl .no (a.args.map Tm.av)]::[.mp (dF a.args j),.cells [.int .i64 t.kind,.int .i64 t.num,.str t.name,.sl .no (t.args.map Tm.av)]]) (by simp[b]) (zG _) rfl e ?_
   conv=>whnf
   try dsimp only
   repeat' refine ag.nrm ?_<;>(conv=>whnf;try dsimp only)
   exact Or.inr ⟨g c,rfl,rfl⟩
 .conv=>whnf
  try dsimp only
  repeat' refine gC (gD (cJ ?_))<;>(conv=>whnf;try dsimp only)
  refine⟨_,aD.refl _,Or.inl (Or.inl ⟨d,?_,by rw[b];simp⟩)⟩
  show AV.tup [.mpt own.length,.bool true]=_;rw[f]
theorem fj{a:At}{bs:List Box}(h:cD a.args a.args.length=true)(e:a.args.length<=100000)(c:aj bs.length bs=true):AM.Sem Tryz.prog 173 [a.av] bs λr bs'=>r=.tup [.mpt (bs.length+1),.bool true]/\bs'=bs++[.cells [.str a.name,.sl .no (a.args.map Tm.av)],.mp (dF a.args a.args.length)]:=
 (pR e c).mono λr bs' d=>by
  rcases d with ⟨_,b⟩|⟨b,_⟩
  .exact b
  .rw [h] at b;cases b
theorem gm{a:At}{bs:List Box}(h:cD a.args a.args.length=false)(e:a.args.length<=100000)(c:aj bs.length bs=true):AM.Sem Tryz.prog 173 [a.av] bs λr bs'=>r=.tup [.nmp,.bool false]/\bs'=bs:=
 (pR e c).mono λr bs' d=>by
  rcases d with ⟨b,_⟩|⟨_,b⟩
  .rw [h] at b;cases b
  .exact b
def ca(a lb:List Tm):Nat->Option (List Int)
 |0=>some []
 |j+1=>match ca a lb j,a[j]? with
  |none,_=>none
  |some ps,none=>some ps
  |some ps,some t=>match mi lb t.num lb.length with
   |none=>some ps
   |some m=>if m=j then some (ps++[(j:Int)]) else none
theorem rj{a lb:List Tm}{j:Nat}:∀{n:Nat},ca a lb j=none->j<=n->ca a lb n=none
 |0,h,b=>by
  obtain rfl:j=0:=by omega
  exact h
 |n+1,h,b=>by
  rcases Nat.lt_or_eq_of_le b with q|q
  .rw [ca,rj h (by omega)]
  .rw [<-q];exact h
theorem lO{a lb:List Tm}:∀{j:Nat} {ps:List Int},ca a lb j=some ps->ps.length<=j
 |0,ps,h=>by cases h;exact zG _
 |j+1,ps,h=>by
  rw[ca] at h;split at h
  .cases h
  .rename_i e _;have:=lO e;cases h;omega
  .rename_i e _;have:=lO e;split at h
   .cases h;omega
   .split at h
    .cases h;simp;omega
    .cases h
def Ky.zero:Ky:=⟨⟨⟨[]⟩⟩,0,[]⟩
def l9(r:Rl):Option Ky:=
 if r.remove.length=0\/0<r.guard.length then none else match r.ai with
 |[a,b]=>if a.name=b.name/\a.args.length=b.args.length/\cD a.args a.args.length=true/\cD b.args b.args.length=true then (ca a.args b.args a.args.length).map λps=>⟨a.name,a.args.length,ps⟩ else none
 |_=>none
def qq:Option Ky->AV
 |none=>.tup [Ky.zero.av,.bool false]
 |some k=>.tup [k.av,.bool true]
theorem CD:∀o,(qq o).lt 0=true
 |none=>rfl
 |some _=>rfl
set_option maxHeartbeats 2000000 in
theorem HW{r:Rl}(hr:r.ok2)(k:r.okG):Fun Tryz.prog 120 [r.av] (qq (l9 r)):=by
 have H:=k.1;have l:=fM (x:=r) (by have:=hr.1;omega)
 have f:=LU (x:=r)
 by_cases A:r.ai.length=2
 .obtain ⟨a,b,n⟩:∃a b,r.ai=[a,b]:=by
   match r.ai,A with
   |[a,b],_=>exact⟨a,b,rfl⟩
  have L:=(hr.2 a (by rw[n];simp)).1
  have K:=(hr.2 b (by rw[n];simp)).1
  rw[n] at l;rw[l9,n]
  by_cases u:r.remove.length=0\/0<r.guard.length
  .rw [if_pos u];refine Fun.of (bu (by simp) ?_) rfl rfl
   conv=>whnf
   repeat' (first|(refine gF ?_;first|refine ae.fn (l) ?_|refine ae.fn (f) ?_)|(refine gC ?_;first|refine cY ?_|refine .not ?_|(refine gD ?_;first|refine cI ?_|refine cJ ?_)|refine ak.dec (λJ=>?_) (λJ=>?_))|refine gL (.map ?_)|refine ag.nrm ?_)<;>conv=>whnf
   all_goals rfl
  .rw [if_neg u];dsimp only;have G:¬(r.remove.length:Int)=0:=by omega
   have I:r.guard.length=0:=by omega
   have M:(([a,b]:List At).length:Int)=2:=rfl;have F:([a,b]:List At)[(0:Int).toNat]? =some a:=rfl;have E:([a,b]:List At)[(1:Int).toNat]? =some b:=rfl
   by_cases B:a.name=b.name
   .by_cases C:a.args.length=b.args.length
    .cases v:cD a.args a.args.length with
     |false=>
      rw[if_neg (by simp)]
      cases hb:cD b.args b.args.length with
      |false=>
       refine Fun.of (bu (by simp) ?_) rfl rfl
       conv=>whnf
       repeat' (first|(refine gF ?_;first|refine ae.fn (l) ?_|refine ae.fn (f) ?_|refine ae.to (gm v (by omega) (by first|rfl|(repeat' (first|rfl|refine ao (row_allI _ _ _) ?_|refine ao (az _ _ _) ?_|refine bLtMp ?_|refine aE ?_|refine bLtCells rfl ?_)))) ?_|refine ae.to (gm hb (by omega) (by first|rfl|(repeat' (first|rfl|refine ao (row_allI _ _ _) ?_|refine ao (az _ _ _) ?_|refine bLtMp ?_|refine aE ?_|refine bLtCells rfl ?_)))) ?_)|(refine gC ?_;first|refine cY ?_|refine cN ?_|refine .not ?_|(refine gD ?_;first|refine cI ?_|refine cJ ?_))|refine gL (.map ?_)|refine gI (gM (iE ?_))|refine ra.mk ?_ ?_|refine ag.nrm ?_)<;>conv=>whnf
       all_goals rfl
      |true=>
       refine Fun.of (bu (by simp) ?_) rfl rfl
       conv=>whnf
       repeat' (first|(refine gF ?_;first|refine ae.fn (l) ?_|refine ae.fn (f) ?_|refine ae.to (gm v (by omega) (by first|rfl|(repeat' (first|rfl|refine ao (row_allI _ _ _) ?_|refine ao (az _ _ _) ?_|refine bLtMp ?_|refine aE ?_|refine bLtCells rfl ?_)))) ?_|refine ae.to (fj hb (by omega) (by first|rfl|(repeat' (first|rfl|refine ao (row_allI _ _ _) ?_|refine ao (az _ _ _) ?_|refine bLtMp ?_|refine aE ?_|refine bLtCells rfl ?_)))) ?_)|(refine gC ?_;first|refine cY ?_|refine cN ?_|refine .not ?_|(refine gD ?_;first|refine cI ?_|refine cJ ?_))|refine gL (.map ?_)|refine gI (gM (iE ?_))|refine ra.mk ?_ ?_|refine ag.nrm ?_)<;>conv=>whnf
       all_goals rfl
     |true=>
      cases hb:cD b.args b.args.length with
      |false=>
       rw[if_neg (by simp)]
       refine Fun.of (bu (by simp) ?_) rfl rfl
       conv=>whnf
       repeat' (first|(refine gF ?_;first|refine ae.fn (l) ?_|refine ae.fn (f) ?_|refine ae.to (fj v (by omega) (by first|rfl|(repeat' (first|rfl|refine ao (row_allI _ _ _) ?_|refine ao (az _ _ _) ?_|refine bLtMp ?_|refine aE ?_|refine bLtCells rfl ?_)))) ?_|refine ae.to (gm hb (by omega) (by first|rfl|(repeat' (first|rfl|refine ao (row_allI _ _ _) ?_|refine ao (az _ _ _) ?_|refine bLtMp ?_|refine aE ?_|refine bLtCells rfl ?_)))) ?_)|(refine gC ?_;first|refine cY ?_|refine cN ?_|refine .not ?_|(refine gD ?_;first|refine cI ?_|refine cJ ?_))|refine gL (.map ?_)|refine gI (gM (iE ?_))|refine ra.mk ?_ ?_|refine ag.nrm ?_)<;>conv=>whnf
       all_goals rfl
      |true=>
       rw[if_pos (by simp[B,C])]
       refine Fun.of (bu (by simp) ?_) rfl (CD _)
       conv=>whnf
       repeat' (first|(refine gF ?_;first|refine ae.fn (l) ?_|refine ae.fn (f) ?_|refine ae.to (fj v (by omega) (by first|rfl|(repeat' (first|rfl|refine ao (row_allI _ _ _) ?_|refine ao (az _ _ _) ?_|refine bLtMp ?_|refine aE ?_|refine bLtCells rfl ?_)))) ?_|refine ae.to (fj hb (by omega) (by first|rfl|(repeat' (first|rfl|refine ao (row_allI _ _ _) ?_|refine ao (az _ _ _) ?_|refine bLtMp ?_|refine aE ?_|refine bLtCells rfl ?_)))) ?_)|(refine gC ?_;first|refine cY ?_|refine .not ?_|(refine gD ?_;first|refine cI ?_|refine cJ ?_))|refine gL (.map ?_)|refine gI (gM (iE ?_))|refine ra.mk ?_ ?_)<;>conv=>whnf
       .refine ax.count (fb:=true) a.args.length (λw j=>⟨[(2,.ptr 1 0),(9,.mpt 7),(11,.ptr 8 0),(77,.sl .no (a.args.map Tm.av)),(78,.int .i64 a.args.length),(79,.int .i64 j)],[.cells [.str r.name,.sl .no (r.keep.map At.av),.sl .no (r.remove.map At.av),.sl .no (r.guard.map Gl.av),.sl .no (r.body.map Gl.av),.int .i64 r.vars],.cells [.str ⟨⟨[]⟩⟩,.int .i64 0,.sl .full []],.cells [.str a.name,.sl .no (a.args.map Tm.av)],.cells [.str b.name,.sl .no (b.args.map Tm.av)],.cells [.str a.name,.sl .no (a.args.map Tm.av)],.mp (dF a.args a.args.length),.cells [.str b.name,.sl .no (b.args.map Tm.av)],.mp (dF b.args b.args.length),.cells [.str a.name,.int .i64 a.args.length,.sl (.own 1) (((ca a.args b.args j).getD []).map aG)]],0⟩) (λj=>(ca a.args b.args j).isSome=true) rfl ?_ (λj p g=>?_) (λg=>?_)
        .refine al.Bn 8 2 1 rfl (by simp) ?_
         refine al.at_ ?_ rfl
         conv=>whnf
         refine And.intro ?_ ?_<;>conv=>whnf
         all_goals repeat' (first|(refine gV ?_;first|refine vE ?_|refine vI ?_)|(refine gX ?_;first|refine xB ?_|(refine BxN.mk ?_ ?_;(focus (simp[AV.norm,AV.ay,ca];done))))|exact True.intro)<;>conv=>whnf
        .obtain ⟨t,y⟩:∃t,a.args[j]? =some t:=⟨_,zA p⟩;obtain⟨ps,d⟩:=yF.1 g;have z:=lO d;have k:=ie b.args t.num b.args.length
         have c:ca a.args b.args (j+1)=match mi b.args t.num b.args.length with
           |none=>some ps
           |some m=>if m=j then some (ps++[(j:Int)]) else none:=by rw[ca,d,y]
         have o:ca a.args b.args (j+1)=none->ca a.args b.args a.args.length=none:=λh=>rj h p;rw[d,ZS];generalize dF b.args b.args.length=D at*
         conv=>whnf
         repeat' (first|refine gC (gD (cI ?_))|refine gI (gT (iA ?_))|refine gMp (mA ?_))<;>conv=>whnf
         cases s:mi b.args t.num b.args.length with
         |none=>
          rw[s] at k c;refine mGn k ?_
          conv=>whnf
          repeat' (first|refine gC (cN ?_)|refine gW (wI ?_)|fail)<;>conv=>whnf
          refine⟨by rw[c];rfl,?_⟩
          refine al.atC 9 ?_ rfl rfl rfl rfl (by first|rfl|(repeat' (first|rfl|refine ao (row_allI _ _ _) ?_|refine ao (az _ _ _) ?_|refine bLtMp ?_|refine aE ?_|refine bLtCells rfl ?_)))
          conv=>whnf
          refine And.intro ?_ ?_<;>conv=>whnf
          all_goals repeat' (first|(refine gV ?_;first|refine vE ?_|refine vI ?_)|(refine gX ?_;first|refine xB ?_|(refine BxN.mk ?_ ?_;(focus (simp[AV.norm,AV.ay,c];done))))|exact True.intro)<;>conv=>whnf
         |some m=>
          rw[s] at k c;refine mG k rfl ?_
          by_cases i:m=j
          .subst i;dsimp only at c;rw[if_pos rfl] at c
           conv=>whnf
           repeat' (first|(refine gC ?_;first|refine cY ?_|refine .not ?_|refine gD (cI ?_))|refine gW (wI ?_)|refine gN (nS ?_))<;>conv=>whnf
           refine⟨by rw[c];rfl,?_⟩
           refine al.atC 9 ?_ rfl rfl rfl rfl (by first|rfl|(repeat' (first|rfl|refine ao (row_allI _ _ _) ?_|refine ao (az _ _ _) ?_|refine bLtMp ?_|refine aE ?_|refine bLtCells rfl ?_)))
           conv=>whnf
           refine And.intro ?_ ?_<;>conv=>whnf
           all_goals repeat' (first|(refine gV ?_;first|refine vE ?_|refine vI ?_)|(refine gX ?_;first|refine xB ?_|(refine BxN.mk ?_ ?_;(focus (simp[AV.norm,AV.ay,c];done))))|exact True.intro)<;>conv=>whnf
          .dsimp only at c;rw[if_neg i] at c;rw[o c]
           conv=>whnf
           repeat' (first|(refine gC ?_;first|refine cY ?_|refine .not ?_|refine gD (cJ ?_))|refine ag.nrm ?_)<;>conv=>whnf
           rfl
        .obtain ⟨ps,d⟩:=yF.1 g;rw[d]
         conv=>whnf
         repeat' (first|refine gC (gD (cJ ?_))|refine ag.nrm ?_)<;>conv=>whnf
         rfl
       .refine ax.count (fb:=true) a.args.length (λw j=>⟨[(2,.ptr 1 0),(9,.mpt 7),(11,.ptr 8 0),(77,.sl .no (a.args.map Tm.av)),(78,.int .i64 a.args.length),(79,.int .i64 j)],[.cells [.str r.name,.sl .no (r.keep.map At.av),.sl .no (r.remove.map At.av),.sl .no (r.guard.map Gl.av),.sl .no (r.body.map Gl.av),.int .i64 r.vars],.cells [.str ⟨⟨[]⟩⟩,.int .i64 0,.sl .full []],.cells [.str b.name,.sl .no (b.args.map Tm.av)],.cells [.str a.name,.sl .no (a.args.map Tm.av)],.cells [.str a.name,.sl .no (a.args.map Tm.av)],.mp (dF a.args a.args.length),.cells [.str b.name,.sl .no (b.args.map Tm.av)],.mp (dF b.args b.args.length),.cells [.str a.name,.int .i64 a.args.length,.sl (.own 1) (((ca a.args b.args j).getD []).map aG)]],0⟩) (λj=>(ca a.args b.args j).isSome=true) rfl ?_ (λj p g=>?_) (λg=>?_)
        .refine al.Bn 8 2 1 rfl (by simp) ?_
         refine al.at_ ?_ rfl
         conv=>whnf
         refine And.intro ?_ ?_<;>conv=>whnf
         all_goals repeat' (first|(refine gV ?_;first|refine vE ?_|refine vI ?_)|(refine gX ?_;first|refine xB ?_|(refine BxN.mk ?_ ?_;(focus (simp[AV.norm,AV.ay,ca];done))))|exact True.intro)<;>conv=>whnf
        .obtain ⟨t,y⟩:∃t,a.args[j]? =some t:=⟨_,zA p⟩;obtain⟨ps,d⟩:=yF.1 g;have z:=lO d;have k:=ie b.args t.num b.args.length
         have c:ca a.args b.args (j+1)=match mi b.args t.num b.args.length with
           |none=>some ps
           |some m=>if m=j then some (ps++[(j:Int)]) else none:=by rw[ca,d,y]
         have o:ca a.args b.args (j+1)=none->ca a.args b.args a.args.length=none:=λh=>rj h p;rw[d,ZS];generalize dF b.args b.args.length=D at*
         conv=>whnf
         repeat' (first|refine gC (gD (cI ?_))|refine gI (gT (iA ?_))|refine gMp (mA ?_))<;>conv=>whnf
         cases s:mi b.args t.num b.args.length with
         |none=>
          rw[s] at k c;refine mGn k ?_
          conv=>whnf
          repeat' (first|refine gC (cN ?_)|refine gW (wI ?_)|fail)<;>conv=>whnf
          refine⟨by rw[c];rfl,?_⟩
          refine al.atC 9 ?_ rfl rfl rfl rfl (by first|rfl|(repeat' (first|rfl|refine ao (row_allI _ _ _) ?_|refine ao (az _ _ _) ?_|refine bLtMp ?_|refine aE ?_|refine bLtCells rfl ?_)))
          conv=>whnf
          refine And.intro ?_ ?_<;>conv=>whnf
          all_goals repeat' (first|(refine gV ?_;first|refine vE ?_|refine vI ?_)|(refine gX ?_;first|refine xB ?_|(refine BxN.mk ?_ ?_;(focus (simp[AV.norm,AV.ay,c];done))))|exact True.intro)<;>conv=>whnf
         |some m=>
          rw[s] at k c;refine mG k rfl ?_
          by_cases i:m=j
          .subst i;dsimp only at c;rw[if_pos rfl] at c
           conv=>whnf
           repeat' (first|(refine gC ?_;first|refine cY ?_|refine .not ?_|refine gD (cI ?_))|refine gW (wI ?_)|refine gN (nS ?_))<;>conv=>whnf
           refine⟨by rw[c];rfl,?_⟩
           refine al.atC 9 ?_ rfl rfl rfl rfl (by first|rfl|(repeat' (first|rfl|refine ao (row_allI _ _ _) ?_|refine ao (az _ _ _) ?_|refine bLtMp ?_|refine aE ?_|refine bLtCells rfl ?_)))
           conv=>whnf
           refine And.intro ?_ ?_<;>conv=>whnf
           all_goals repeat' (first|(refine gV ?_;first|refine vE ?_|refine vI ?_)|(refine gX ?_;first|refine xB ?_|(refine BxN.mk ?_ ?_;(focus (simp[AV.norm,AV.ay,c];done))))|exact True.intro)<;>conv=>whnf
          .dsimp only at c;rw[if_neg i] at c;rw[o c]
           conv=>whnf
           repeat' (first|(refine gC ?_;first|refine cY ?_|refine .not ?_|refine gD (cJ ?_))|refine ag.nrm ?_)<;>conv=>whnf
           rfl
        .obtain ⟨ps,d⟩:=yF.1 g;rw[d]
         conv=>whnf
         repeat' (first|refine gC (gD (cJ ?_))|refine ag.nrm ?_)<;>conv=>whnf
         rfl
    .rw [if_neg (λq=>C q.2.1)];refine Fun.of (bu (by simp) ?_) rfl rfl
     conv=>whnf
     repeat' (first|(refine gF ?_;first|refine ae.fn (l) ?_|refine ae.fn (f) ?_)|(refine gC ?_;first|refine .not ?_|(refine gD ?_;first|refine cI ?_|refine cJ ?_))|refine gL (.map ?_)|refine gI (gM (iE ?_))|refine ra.mk ?_ ?_|refine ag.nrm ?_)<;>conv=>whnf
     all_goals rfl
   .rw [if_neg (λq=>B q.1)];refine Fun.of (bu (by simp) ?_) rfl rfl
    conv=>whnf
    repeat' (first|(refine gF ?_;first|refine ae.fn (l) ?_|refine ae.fn (f) ?_)|(refine gC ?_;first|refine cY ?_|refine .not ?_|(refine gD ?_;first|refine cI ?_|refine cJ ?_))|refine gL (.map ?_)|refine gI (gM (iE ?_))|refine ra.mk ?_ ?_|refine ag.nrm ?_)<;>conv=>whnf
    all_goals rfl
 .have e:l9 r=none:=by
   rw[l9];split
   .rfl
   .split
    .rename_i q;rw[q] at A;exact absurd rfl A
    .rfl
  rw[e];refine Fun.of (bu (by simp) ?_) rfl rfl
  conv=>whnf
  repeat' (first|refine gF (ae.fn (l) ?_)|(refine gC ?_;first|refine cY ?_|refine .not ?_|refine gD (cJ ?_))|refine gL (.map ?_)|refine ag.nrm ?_)<;>conv=>whnf
  all_goals rfl
end Go.CK
namespace Go.CK
open Go.AM Go.Proofs
theorem FH{a b:Ky}:Fun Tryz.prog 123 [a.av,b.av] (.bool (decide (a=b))):=by
 have c:decide (a=b)=(decide (a.name=b.name)&&(decide (a.arity=b.arity)&&decide (a.positions=b.positions))):=by
  rw[Bool.eq_iff_iff];simp only[zD,decide_eq_true_eq,Ky.ext_iff]
 rw[c];clear c;refine Fun.of (tr (by simp) ?_) rfl rfl
 conv=>whnf
 repeat' (first|(refine gF ?_;refine ae.fn (ye (a:=a.positions) (b:=b.positions)) ?_)|(refine gC ?_;first|refine cN ?_|(refine gD ?_;first|refine cI ?_|refine cJ ?_)|refine ak.dec (λd=>?_) (λd=>?_))|refine ag.nrm ?_)<;>conv=>whnf
 all_goals (refine MG ?_;simp[*])
theorem Ke{bs:List Box}{c:Nat}{k x:Ky}(d:aj bs.length bs=true)(hp:aa bs c=some [.str k.name,.int .i64 k.arity,slA aG k.positions]):AM.Sem Tryz.prog 122 [x.av,.ptr c 0] bs λr bs'=>r=.bool (decide (x=k))/\bs'=bs:=by
 refine qn (by simp) ?_
 conv=>whnf
 try dsimp only
 repeat' refine gB (.last ?_)<;>(conv=>whnf;try dsimp only)
 refine gi.of (cs:=[.str k.name,.int .i64 k.arity,slA aG k.positions]) (by rw[aq,if_neg (by have:=aC hp;omega)];exact hp) ?_
 conv=>whnf
 try dsimp only
 repeat' (refine gF ?_;refine ae.fn (FH (a:=x) (b:=k)) ?_)<;>(conv=>whnf;try dsimp only)
 refine ag.qU rfl (zG _) rfl d ?_;exact ag.slot ⟨rfl,rfl⟩
theorem C6{bs:List Box}{c:Nat}{k:Ky}{l:List Ky}(h:l.length<=100000)(d:aj bs.length bs=true)(hp:aa bs c=some [.str k.name,.int .i64 k.arity,slA aG k.positions]):AM.Sem Tryz.prog 174 [slA Ky.av l,.fn (.func 122) [] [.ptr c 0]] bs λr bs'=>r=.int .i64 (eV (λx=>decide (x=k)) l)/\bs'=bs:=by
 refine dD (by simp) ?_
 conv=>whnf
 repeat' refine gL (.map ?_)<;>conv=>whnf
 refine ax.count (fb:=false) l.length (λf j=>⟨[(0,slA Ky.av l),(1,.fn (.func 122) [] [.ptr c 0]),(7,.int .i64 l.length),(8,.int .i64 j)],bs,bs.length⟩) (λj=>∀i x,i<j->l[i]? =some x->decide (x=k)=false) ch ?_ (λj g a=>?_) (λa=>?_)
 .refine al.atS ?_ rfl rfl
  conv=>whnf
  repeat' (first|(refine gV ?_;first|refine vE ?_|refine vI ?_)|exact True.intro)<;>conv=>whnf
 .obtain ⟨y,e⟩:∃y,l[j]? =some y:=⟨_,zA g⟩
  conv=>whnf
  repeat' (first|refine gC (gD (cI ?_))|refine gI (gM (iE ?_))|refine gH (hB ?_))<;>conv=>whnf
  refine ae.raw (Ke (x:=y) d hp) ?_;rintro r bs' ⟨rfl,rfl⟩
  conv=>whnf
  repeat' (first|(refine gC ?_;refine ak.dec (λb=>?_) (λb=>?_))|refine gW (wI ?_)|fail)<;>conv=>whnf
  .refine ag.slot ⟨?_,rfl⟩;rw[fN a e (decide_eq_true b)];rfl
  .refine ⟨bM a e (decide_eq_false b),?_⟩;refine al.atS ?_ rfl rfl
   conv=>whnf
   repeat' (first|(refine gV ?_;first|refine vE ?_|refine vI ?_)|exact True.intro)<;>conv=>whnf
 .conv=>whnf
  repeat' refine gC (gD (cJ ?_))<;>conv=>whnf
  refine ag.slot ⟨?_,rfl⟩;rw[jc a];rfl
theorem nY{bs:List Box}{c:Nat}{k:Ky}{l:List Ky}(b:l.length<=100000)(a:aj bs.length bs=true)(hp:aa bs c=some [.str k.name,.int .i64 k.arity,slA aG k.positions]):AM.Sem Tryz.prog 121 [slA Ky.av l,.fn (.func 122) [] [.ptr c 0]] bs λr bs'=>r=.bool (decide (k∈l))/\bs'=bs:=by
 have e:decide (k∈l)=l.any λx=>decide (x=k):=by
  rw[Bool.eq_iff_iff,decide_eq_true_eq,List.any_eq_true];exact⟨λh=>⟨k,h,decide_eq_true rfl⟩,λ⟨x,h,q⟩=>(of_decide_eq_true q)▸h⟩
 rw[e,<-fh];refine c7 (by simp) ?_
 conv=>whnf
 skip;refine ae.raw (C6 b a hp) ?_;rintro r bs' ⟨rfl,rfl⟩
 conv=>whnf
 skip;exact ag.slot ⟨rfl,rfl⟩
def eC(l:List Rl):Nat->List Ky
 |0=>[]
 |j+1=>match l[j]? with
  |none=>eC l j
  |some r=>match l9 r with
   |none=>eC l j
   |some k=>if k∈eC l j then eC l j else eC l j++[k]
def nK(p:Pg):List Ky:=eC p.rules p.rules.length
theorem rV(l:List Rl):∀j,(eC l j).length<=j
 |0=>zG _
 |j+1=>by
  have:=rV l j;rw[eC];split
  .omega
  .split
   .omega
   .split
    .omega
    .simp;omega
theorem Kd{l:List Rl}{j:Nat}{r:Rl}(h:l[j]? =some r):eC l (j+1)=match l9 r with
   |none=>eC l j
   |some k=>if k∈eC l j then eC l j else eC l j++[k]:=by rw[eC,h]
set_option maxHeartbeats 1000000 in
theorem Mk{p:Pg}(hp:p.fit):Fun Tryz.prog 65 [p.av] (slA Ky.av (nK p)):=by
 have m:=hp.few;refine Fun.of (uU (by simp) ?_) rfl rfl
 conv=>whnf
 repeat' refine gL (.map ?_)<;>conv=>whnf
 refine ax.count (fb:=true) (p.rules.length) (λf j=>f.bD [(3,.sl (.own 3) ((eC p.rules j).map Ky.av)),(11,.int .i64 j)]) (λ_=>True) trivial ?_ (λj o _=>?_) (λ_=>?_)
 .refine al.at_ ?_ rfl
  conv=>whnf
  refine And.intro ?_ ?_<;>conv=>whnf
  all_goals repeat' (first|(refine gV ?_;first|refine vE ?_|refine vI ?_|((refine gK ?_;refine vD ?_ ?_);(focus (simp[AV.norm,AV.ay,eC];done))))|refine gX (xB ?_)|exact True.intro)<;>conv=>whnf
 .obtain ⟨r,hr⟩:∃r,p.rules[j]? =some r:=⟨_,zA o⟩;have e:=zE hr;have n:=rV p.rules j;have a:=Kd hr;have b:=HW (hp.ok2 r e) (hp.okG r e)
  cases i:l9 r with
  |none=>
   rw[i] at a b;dsimp only at a;simp only[qq] at b
   conv=>whnf
   repeat' (first|refine gF (ae.fn (b) ?_)|(refine gC ?_;first|refine cN ?_|refine gD (cI ?_))|refine gW (wI ?_)|refine gI (gM (iE ?_)))<;>conv=>whnf
   refine⟨trivial,?_⟩;refine al.atC 1 ?_ rfl rfl rfl rfl (by first|rfl|(repeat' (first|rfl|refine ao (row_allI _ _ _) ?_|refine ao (az _ _ _) ?_|refine bLtMp ?_|refine aE ?_|refine bLtCells rfl ?_)))
   conv=>whnf
   refine And.intro ?_ ?_<;>conv=>whnf
   all_goals repeat' (first|(refine gV ?_;first|refine vE ?_|refine vI ?_|(refine WkN.sl ?_ ?_;(focus (simp[AV.norm,AV.ay,a];done))))|refine gX (xB ?_)|exact True.intro)<;>conv=>whnf
  |some k=>
   rw[i] at a b;dsimp only at a;simp only[qq] at b
   by_cases hm:k∈eC p.rules j
   .rw [if_pos hm] at a;have d:=λ{bs:List Box} {c:Nat} h g=>nY (bs:=bs) (c:=c) (k:=k) (l:=eC p.rules j) (by omega) h g
    rw[decide_eq_true hm] at d
    conv=>whnf
    repeat' (first|(refine gF ?_;first|refine ae.fn (b) ?_|refine ae.to (d (by first|rfl|(repeat' (first|rfl|refine ao (row_allI _ _ _) ?_|refine ao (az _ _ _) ?_|refine bLtMp ?_|refine aE ?_|refine bLtCells rfl ?_))) rfl) ?_)|(refine gC ?_;first|refine cY ?_|refine .not ?_|refine gD (cI ?_))|refine gW (wI ?_)|refine gI (gM (iE ?_)))<;>conv=>whnf
    refine⟨trivial,?_⟩;refine al.atC 1 ?_ rfl rfl rfl rfl (by first|rfl|(repeat' (first|rfl|refine ao (row_allI _ _ _) ?_|refine ao (az _ _ _) ?_|refine bLtMp ?_|refine aE ?_|refine bLtCells rfl ?_)))
    conv=>whnf
    refine And.intro ?_ ?_<;>conv=>whnf
    all_goals repeat' (first|(refine gV ?_;first|refine vE ?_|refine vI ?_|(refine WkN.sl ?_ ?_;(focus (simp[AV.norm,AV.ay,a];done))))|refine gX (xB ?_)|exact True.intro)<;>conv=>whnf
   .rw [if_neg hm] at a;have d:=λ{bs:List Box} {c:Nat} h g=>nY (bs:=bs) (c:=c) (k:=k) (l:=eC p.rules j) (by omega) h g
    rw[decide_eq_false hm] at d
    conv=>whnf
    repeat' (first|(refine gF ?_;first|refine ae.fn (b) ?_|refine ae.to (d (by first|rfl|(repeat' (first|rfl|refine ao (row_allI _ _ _) ?_|refine ao (az _ _ _) ?_|refine bLtMp ?_|refine aE ?_|refine bLtCells rfl ?_))) rfl) ?_)|(refine gC ?_;first|refine cY ?_|refine cN ?_|refine .not ?_|refine gD (cI ?_))|refine gW (wI ?_)|refine gN (nS ?_)|refine gI (gM (iE ?_)))<;>conv=>whnf
    refine⟨trivial,?_⟩;refine al.atC 1 ?_ rfl rfl rfl rfl (by first|rfl|(repeat' (first|rfl|refine ao (row_allI _ _ _) ?_|refine ao (az _ _ _) ?_|refine bLtMp ?_|refine aE ?_|refine bLtCells rfl ?_)))
    conv=>whnf
    refine And.intro ?_ ?_<;>conv=>whnf
    all_goals repeat' (first|(refine gV ?_;first|refine vE ?_|refine vI ?_|(refine WkN.sl ?_ ?_;(focus (simp[AV.norm,AV.ay,a,Ky.av];done))))|refine gX (xB ?_)|exact True.intro)<;>conv=>whnf
 .conv=>whnf
  repeat' (first|refine gC (gD (cJ ?_))|refine ag.nrm ?_)<;>conv=>whnf
  rfl
def allI(p:Pg):List Pl:=p.occs.map (ofI p (nK p))
set_option maxHeartbeats 1000000 in
theorem EI{p:Pg}(hp:p.fit)(i:p.occs.length<=1000000):Fun Tryz.prog 21 [p.av] (slA Pl.av (allI p)):=by
 have f:=hp.few
 have c:(nK p).length<=100000:=by
  have:=rV p.rules p.rules.length;unfold nK;omega
 refine Fun.of (CC (by simp) ?_) rfl rfl
 conv=>whnf
 repeat' (first|(refine gF ?_;first|refine ae.fn (Mk hp) ?_|refine ae.fn (FZ hp.ok hp.few) ?_)|refine gL (.map ?_))<;>conv=>whnf
 rw[allI];have b:=λo=>LX (o:=o) hp c;generalize nK p=keys at*;generalize p.occs=l at*;refine ax.count (fb:=true) (l.length) (λa j=>a.bD [(4,.sl (.own 6) (((l.take j).map (ofI p keys)).map Pl.av)),(12,.int .i64 j)]) (λ_=>True) trivial ?_ (λj d _=>?_) (λ_=>?_)
 .refine al.at_ ?_ rfl
  conv=>whnf
  refine And.intro ?_ ?_<;>conv=>whnf
  all_goals repeat' (first|(refine gV ?_;first|refine vE ?_|refine vI ?_|((refine gK ?_;refine vD ?_ ?_);(focus (simp[AV.norm,AV.ay,];done))))|refine gX (xB ?_)|exact True.intro)<;>conv=>whnf
 .obtain ⟨o,g⟩:∃o,l[j]? =some o:=⟨_,zA d⟩
  have hs:l.take (j+1)=l.take j++[o]:=by
   rw[List.take_succ_eq_append_getElem d,(zB.1 g).2]
  have e:=List.length_take_le j l;have h:(List.map (ofI p keys) (l.take j)).length<=j:=by rw[zF];omega
  conv=>whnf
  repeat' (first|refine gF (ae.fn (b o) ?_)|refine gC (gD (cI ?_))|refine gW (wI ?_)|refine gN (nS ?_)|refine gI (gM (iE ?_)))<;>conv=>whnf
  refine⟨trivial,?_⟩;refine al.atC 1 ?_ rfl rfl rfl rfl (by first|rfl|(repeat' (first|rfl|refine ao (row_allI _ _ _) ?_|refine ao (az _ _ _) ?_|refine bLtMp ?_|refine aE ?_|refine bLtCells rfl ?_)))
  conv=>whnf
  refine And.intro ?_ ?_<;>conv=>whnf
  all_goals repeat' (first|(refine gV ?_;first|refine vE ?_|refine vI ?_|(refine WkN.sl ?_ ?_;(focus (simp[AV.norm,AV.ay,hs,Pl.av];done))))|refine gX (xB ?_)|exact True.intro)<;>conv=>whnf
 .conv=>whnf
  repeat' (first|refine gC (gD (cJ ?_))|refine ag.nrm ?_)<;>conv=>whnf
  rw[zz]
end Go.CK
