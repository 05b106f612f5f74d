/-
  Texts of this aV joined (wip/gen/bundle.py),those declarations only that are needed:IxAa IxAb IxAc. By an AI agent.
-/
import Derived.Test.YtcjfkbdbcgmomaaGreatDoorSbf
set_option linter.unusedSimpArgs false
set_option linter.unusedVariables false
set_option maxRecDepth 100000
namespace Go.CK
open Go.AM Go.Proofs
open Go.AM Go.Proofs
def HC(b:List Bnd)(v:Int):Int:=match b.findIdx? λx=>decide (x.v=v) with
 |none=>-1
 |some i=>i
theorem Ey{b:List Bnd}{v:Int}(h:∀(i:Nat) (x:Bnd),b[i]? =some x->¬x.v=v):HC b v=-1/\bC b v=none:=by
 have h1:b.findIdx? (λx=>decide (x.v=v))=none:=by
  rw[List.findIdx?_eq_none_iff];intro x hx;obtain⟨i,hi⟩:=ZT hx;exact decide_eq_false (h i x hi)
 refine⟨by unfold HC;rw[h1],?_⟩
 induction b with
 |nil=>rfl
 |cons y b ih=>
  rw[bC,if_neg (h 0 y rfl)];refine ih (λi x hx=>h (i+1) x (by simpa using hx)) ?_
  rw[List.findIdx?_eq_none_iff] at h1|-;exact λx hx=>h1 x (zR _ hx)
theorem Ez{b:List Bnd}{v:Int}{i:Nat}{x:Bnd}(hx:b[i]? =some x)(hv:x.v=v)(h:∀(j:Nat) (y:Bnd),j<i->b[j]? =some y->¬y.v=v):HC b v=i/\bC b v=some x.t:=by
 have h1:b.findIdx? (λx=>decide (x.v=v))=some i:=by
  rw[List.findIdx?_eq_some_iff_getElem];obtain⟨hi,he⟩:=zB.1 hx;refine⟨hi,by rw[he];exact decide_eq_true hv,λj hj=>?_⟩
  have:=h j _ hj (zA (by omega))
  simpa using this
 refine⟨by unfold HC;rw[h1],?_⟩
 clear h1
 induction b generalizing i with
 |nil=>simp at hx
 |cons y b ih=>
  cases i with
  |zero=>
   simp at hx;subst hx
   rw[bC,if_pos hv]
  |succ i=>
   rw[bC,if_neg (h 0 y (by omega) rfl)]
   exact ih (by simpa using hx) λj z hj hz=>h (j+1) z (by omega) (by simpa using hz)
theorem Bf(x:Bnd)(v:Int):AM.Sem Tryz.prog 245 [x.av,.ptr 0 0] [.cells [.int .i64 v]] λr bs'=>r=.bool (decide (x.v=v))/\bs'=[.cells [.int .i64 v]]:=by
 refine pB (by simp) ?_
 conv=>whnf
 skip;refine ai.lay [some 0] oko ?_
 conv=>whnf
 repeat' refine ai.nrm ?_<;>conv=>whnf
 exact⟨rfl,rfl⟩
theorem Fz{b:List Bnd}{v:Int}(hb:b.length<=4000000000):AM.Sem Tryz.prog 244 [.sl .no (b.map Bnd.av),.fn (.func 245) [] [.ptr 0 0]] [.cells [.int .i64 v]] λr bs'=>r=.int .i64 (HC b v)/\bs'=[.cells [.int .i64 v]]:=by
 refine df (by simp) ?_
 conv=>whnf
 repeat' refine gL (.map ?_)<;>conv=>whnf
 refine aJ.by (fb:=true) (λ_ (j:Nat)=>⟨[(0,.sl .no (b.map Bnd.av)),(1,.fn (.func 245) [] [.ptr 0 0]),(7,.int .i64 (b.length:Int)),(8,.int .i64 (j:Int))],[.cells [.int .i64 v]],1⟩) (λj=>j<=b.length/\∀(i:Nat) (x:Bnd),i<j->b[i]? =some x->¬x.v=v) (λj=>b.length-j) 0 ⟨zJ _,λi x h=>by omega⟩ ?_ ?_
 .exact bH
 .rintro j ⟨q1,q2⟩
  by_cases hj:j<b.length
  .obtain ⟨x,hx⟩:∃x,b[j]? =some x:=⟨_,zA hj⟩
   by_cases hv:x.v=v
   .obtain ⟨h1,_⟩:=Ez hx hv q2;have hl:=Bf x v;rw[decide_eq_true hv] at hl;rw[h1]
    conv=>whnf
    repeat' (first|refine gC (gD (cI ?_))|refine gI (gM (iE ?_))|refine gH (hB ?_))<;>conv=>whnf
    refine ah.ate [0] hl rfl rfl ?_
    conv=>whnf
    repeat' (first|refine gC (cY ?_)|refine ai.nrm ?_)<;>conv=>whnf
    exact⟨rfl,rfl⟩
   .have hl:=Bf x v;rw[decide_eq_false hv] at hl
    conv=>whnf
    repeat' (first|refine gC (gD (cI ?_))|refine gI (gM (iE ?_))|refine gH (hB ?_))<;>conv=>whnf
    refine ah.ate [0] hl rfl rfl ?_
    conv=>whnf
    repeat' (first|refine gC (cN ?_)|refine gW (wI ?_)|fail)<;>conv=>whnf
    refine⟨j+1,⟨⟨hj,λi y hi hy=>?_⟩,by omega⟩,?_⟩
    .by_cases e:i=j
     .subst e;rw[hx] at hy;cases hy;exact hv
     .exact q2 i y (by omega) hy
    exact bH
  .obtain rfl:j=b.length:=by omega
   obtain⟨h1,_⟩:=Ey (v:=v) λi x hx=>q2 i x (zB.1 hx).1 hx;rw[h1]
   conv=>whnf
   repeat' (first|refine gC (gD (cJ ?_))|refine ai.nrm ?_)<;>conv=>whnf
   exact⟨rfl,rfl⟩
theorem Fs(b:List Bnd)(v:Int)(hb:b.length<=4000000000):Fun Tryz.prog 217 [.sl .no (b.map Bnd.av),.int .i64 v] (tP (bC b v)):=by
 refine Fun.of (rY (by simp) ?_) rfl (wi _)
 have hi:=Fz (v:=v) hb
 by_cases h:∃(i:Nat) (x:Bnd),b[i]? =some x/\x.v=v/\∀(j:Nat) (y:Bnd),j<i->b[j]? =some y->¬y.v=v
 .obtain ⟨i,x,hx,hv,hj⟩:=h;obtain⟨h1,h2⟩:=Ez hx hv hj;have hil:=(zB.1 hx).1;rw[h1] at hi;rw[h2]
  conv=>whnf
  skip;refine ah.ate [0] hi rfl rfl ?_
  conv=>whnf
  repeat' (first|refine gC (gD (cJ ?_))|refine gI (gM (iE ?_)))<;>conv=>whnf
  refine ai.lay [some 1] oko ?_
  conv=>whnf
  repeat' refine ai.nrm ?_<;>conv=>whnf
  rfl
 .have hno:∀(i:Nat) (x:Bnd),b[i]? =some x->¬x.v=v:=by
   intro i
   induction i using Nat.strongRecOn with
   |ind i ih=>exact λx hx hv=>h ⟨i,x,hx,hv,λj y hj hy=>ih j hj y hy⟩
  obtain⟨h1,h2⟩:=Ey hno;rw[h1] at hi;rw[h2]
  conv=>whnf
  skip;refine ah.ate [0] hi rfl rfl ?_
  conv=>whnf
  repeat' refine gC (gD (cI ?_))<;>conv=>whnf
  refine ai.lay [some 1] oko ?_
  conv=>whnf
  repeat' refine ai.nrm ?_<;>conv=>whnf
  rfl
theorem Gp{α:Type}{f:α->α}{l:List α}{j:Nat}{x:α}(hx:l[j]? =some x):(((l.take j).map f++l.drop j).map some)[j]? =some (some x)/\(((l.take j).map f++l.drop j).map some).set j (some (f x))=((l.take (j+1)).map f++l.drop (j+1)).map some:=by
 have hj:=(zB.1 hx).1;have hd:l.drop j=x::l.drop (j+1):=by rw[zH hj,(zB.1 hx).2]
 have hlen:((l.take j).map f).length=j:=by rw[zF,zo];omega
 constructor
 .rw [ZG,za (by omega),hlen,yR,hd];rfl
 .have:((l.take j).map f++l.drop j).set j (f x)=(l.take (j+1)).map f++l.drop (j+1):=by
   rw[yV _ _ (by omega),hlen,yR,hd,List.set_cons_zero,ZD,hx,Option.toList_some,zw,zh];rfl
  rw[<-List.map_set,this]
theorem uT{b:List Bnd}{l:List Tm} (hL:l.length<=4000000000) (h:∀x∈l,Fun Tryz.prog 191 [.sl .no (b.map Bnd.av),x.avw] (cV b x).avw):Fun Tryz.prog 144 [.sl .no (b.map Bnd.av),.sl .no (l.map Tm.av)] (.sl .no ((l.map (cV b)).map Tm.av)):=by
 refine Fun.of (Sem.assume fun _ _=>?_) rfl rfl;have hg:l.length<=4294967296:=by omega
 refine qx (by simp) ?_
 conv=>whnf
 skip;refine ah.raw (wV (l:=l) (by omega)) ?_
 rintro r bs' ⟨k,hk,rfl,rfl⟩
 conv=>whnf
 skip;refine aJ.by (fb:=true) (λ_ (j:Nat)=>⟨[(0,.sl .no (b.map Bnd.av)),(5,.bsl 0 l.length k),(10,.int .i64 (l.length:Int)),(11,.int .i64 (j:Int))],[aN tmA 4 k (((l.take j).map (cV b)++l.drop j).map some)],0⟩) (λj=>j<=l.length) (λj=>l.length-j) 0 (zJ _) ?_ ?_
 .rw [ZM,Ze,Zl,yU];exact bH
 .rintro j q1
  by_cases hj:j<l.length
  .obtain ⟨x,hx⟩:∃x,l[j]? =some x:=⟨_,zA hj⟩;obtain⟨u1,u2⟩:=Gp (f:=cV b) hx;have hx1:=h x (zE hx)
   conv=>whnf
   repeat' (first|refine gC (gD (cI ?_))|refine gN (nS ?_))<;>conv=>whnf
   refine ElN.elem fL rfl u1 ?_
   conv=>whnf
   repeat' (first|refine gF (ah.fn (hx1) ?_)|refine gN (nS ?_))<;>conv=>whnf
   refine EsN.elem fL (λx=>by cases x<;>rfl) (x:=some x) (y:=some (cV b x)) rfl u1 rfl ?_
   conv=>whnf
   repeat' refine gW (wI ?_)<;>conv=>whnf
   refine⟨j+1,⟨hj,by omega⟩,?_⟩
   rw[<-u2];refine az.at_ ?_ rfl
   conv=>whnf
   refine And.intro ?_ ?_<;>conv=>whnf
   all_goals repeat' (first|(refine gV ?_;first|refine vE ?_|refine vI ?_)|(refine gX ?_;(refine BxN.mk ?_ ?_;(focus (simp[AV.norm,AV.bG,];done))))|exact True.intro)<;>conv=>whnf
  .obtain rfl:j=l.length:=by omega
   rw[ZA,zk,zz]
   conv=>whnf
   repeat' refine gC (gD (cJ ?_))<;>conv=>whnf
   refine ai.froze fL (l:=(l.map (cV b)).map some) (k:=k) rfl rfl (by simp) (ai.slot ?_)
   rw[sM];rfl
theorem Ip(b:List Bnd)(hb:b.length<=4000000000)(t:Tm):t.nodes<=1000000->Fun Tryz.prog 191 [.sl .no (b.map Bnd.av),t.avw] (cV b t).avw:=by
 induction t using Tm.bu with
 |h k n s l ih=>
 intro hN;generalize ha:Tm.mk k n s l=t at hN|-;replace ih:∀x∈t.args,x.nodes<=1000000->Fun Tryz.prog 191 [.sl .no (b.map Bnd.av),x.avw] (cV b x).avw:=by subst ha;exact ih
 have hnl:Tm.aD t.args+1<=t.nodes:=by subst ha;simp only[Tm.nodes,Tm.args];omega
 have hlen:=cD t.args
 clear ha;refine Fun.of (tx (by simp) ?_) rfl rfl
 by_cases h1:t.kind=1
 .rw [Ab h1];have hl:=Fs b t.num hb
  cases hk:bC b t.num with
  |none=>
   rw[hk,tP] at hl
   conv=>whnf
   repeat' (first|refine gF (ah.fn (hl) ?_)|(refine gC ?_;first|refine cN ?_|refine gD (cI ?_)))<;>conv=>whnf
   refine ai.lay [some 1] oko ?_
   conv=>whnf
   repeat' refine ai.nrm ?_<;>conv=>whnf
   rfl
  |some x=>
   rw[hk,tP] at hl
   conv=>whnf
   repeat' (first|refine gF (ah.fn (hl) ?_)|(refine gC ?_;first|refine cY ?_|refine gD (cI ?_)))<;>conv=>whnf
   refine ai.lay [some 1] oko ?_
   conv=>whnf
   repeat' refine ai.nrm ?_<;>conv=>whnf
   rfl
 .by_cases h2:t.kind=2
  .rw [Aa h2];have hap:=uT (by omega) fun x hx=>ih x hx (by have:=lj hx;omega)
   conv=>whnf
   repeat' (first|refine gF (ah.fn (hap) ?_)|(refine gC ?_;(refine gD ?_;first|refine cI ?_|refine cJ ?_)))<;>conv=>whnf
   refine ai.lay [some 1] oko ?_
   conv=>whnf
   repeat' refine ai.nrm ?_<;>conv=>whnf
   rfl
  .rw [z8 h1 h2]
   conv=>whnf
   repeat' refine gC (gD (cJ ?_))<;>conv=>whnf
   refine ai.lay [some 1] oko ?_
   conv=>whnf
   repeat' refine ai.nrm ?_<;>conv=>whnf
   rfl
def qd(b:List Bnd)(x:At):At:=⟨x.name,x.args.map (cV b)⟩
def nN(b:List Bnd)(i:It):It:=⟨i.id,qd b i.atom⟩
def ia(b:List Bnd)(its:List It):List It:=its.map (nN b)
theorem y9(b:List Bnd)(x:At)(hN:Tm.aD x.args<=1000000)(hb:b.length<=4000000000):Fun Tryz.prog 90 [.sl .no (b.map Bnd.av),x.av] (qd b x).av:=by
 have h:=uT (b:=b) (l:=x.args) (by have:=cD x.args;omega) fun z hz=>Ip b hb z (by have:=lj hz;omega);refine Fun.of (oP (by simp) ?_) rfl rfl
 conv=>whnf
 repeat' (first|refine gF (ah.fn (h) ?_)|refine ai.nrm ?_)<;>conv=>whnf
 all_goals rfl
theorem rU(b:List Bnd)(x:At)(hN:Tm.aD x.args<=1000000):Fun Tryz.prog 143 [.sl .no (b.map Bnd.av),x.av] (qd b x).av:=by
 have h:=oD (b:=b) (l:=x.args) (by have:=cD x.args;omega) fun z hz=>F6 b z (by have:=lj hz;omega);refine Fun.of (ga (by simp) ?_) rfl rfl
 conv=>whnf
 repeat' (first|refine gG (bO.fn (h) ?_)|refine ai.nrm ?_)<;>conv=>whnf
 all_goals rfl
theorem Es:∀{b:List Bnd} {v:Int},(∀x∈b,x.v≠v)->bC b v=none
 |[],v,_=>rfl
 |y::b,v,h=>by
  rw[bC,if_neg (h y (by simp))]
  exact Es λx hx=>h x (by simp[hx])
theorem JC{b:List Bnd}(t:Tm):(∀v∈t.vs,∀x∈b,x.v≠v)->cV b t=t:=by
 induction t using Tm.bu with
 |h k n s l ih=>
  intro h
  by_cases h1:k=1
  .subst h1;rw[Ab rfl];have:bC b n=none:=Es (h n (by simp[Tm.vs]))
   simp only[Tm.num,this]
  .by_cases h2:k=2
   .subst h2;rw[Aa rfl]
    have:l.map (cV b)=l:=by
     conv=>rhs;rw[<-List.map_id l]
     refine List.map_congr_left λt ht=>?_;refine ih t ht λv hv=>h v ?_;have hs:Tm.vs (.mk 2 n s l)=Tm.vss l:=by simp[Tm.vs]
     rw[hs];clear h ih hs
     induction l with
     |nil=>cases ht
     |cons a l ihl=>
      rw[Tm.vss,zZ];rcases zI.1 ht with rfl|ht
      .exact .inl hv
      .exact .inr (ihl ht)
    simp only[Tm.args,this];rfl
   .exact z8 h1 h2
theorem DZ:∀{l:List Tm} {t:Tm} {v:Int},t∈l->v∈t.vs->v∈Tm.vss l
 |a::l,t,v,ht,hv=>by
  rw[Tm.vss,zZ];rcases zI.1 ht with rfl|ht
  .exact .inl hv
  .exact .inr (DZ ht hv)
def yo(b:List Bnd)(i:It):Bool:=(fB (Tm.vss i.atom.args)).any λv=>decide (v∈b.map Bnd.v)
theorem we:∀{l acc:List Int} {v:Int},v∈oE acc l↔v∈acc\/v∈l
 |[],acc,v=>by simp[oE]
 |a::l,acc,v=>by
  show v∈oE (uY acc a) l↔_;rw[we (l:=l)];unfold uY;split
  .rename_i h;simp only[zI];constructor
   .rintro (h1|h1)
    .exact .inl h1
    .exact .inr (.inr h1)
   .rintro (h1|rfl|h1)
    .exact .inl h1
    .exact .inl h
    .exact .inr h1
  .simp [zZ,zI,or_assoc]
theorem HE{b:List Bnd}{i:It}(h:yo b i=false):nN b i=i:=by
 obtain⟨id,name,args⟩:=i
 have:args.map (cV b)=args:=by
  conv=>rhs;rw[<-List.map_id args]
  refine List.map_congr_left λt ht=>JC t λv hv x hx e=>?_;have hm:v∈fB (Tm.vss args):=we.2 (.inr (DZ ht hv));have:=List.any_eq_false.1 h v hm;exact this (decide_eq_true (zl.2 ⟨x,hx,e⟩))
 simp only[nN,qd,this]
theorem F4{bs:List Box}{b c:Nat}{xs:List Int}{v:Int}(hp:aa bs c=some [.mpt b])(hb:bs[b]? =some (.mp (nj (.bool true) xs))):AM.Sem Tryz.prog 89 [.int .i64 v,.ptr c 0] bs λr bs'=>r=.bool (decide (v∈xs))/\bs'=bs:=by
 refine jg (by simp) ?_
 conv=>whnf
 repeat' (first|refine gB (.of (by assumption) ?_)|refine gMp (mA ?_)|(refine gMs ?_;refine mS (λhc=>?_) (λhc=>?_)))<;>conv=>whnf
 .refine ai.slot ⟨?_,rfl⟩;rw[decide_eq_true hc];rfl
 .refine ai.slot ⟨?_,rfl⟩;rw[decide_eq_false hc];rfl
theorem vo{bs:List Box}{b c:Nat}{xs l:List Int}(hp:aa bs c=some [.mpt b])(hb:bs[b]? =some (.mp (nj (.bool true) xs))):AM.Sem Tryz.prog 109 [slA bF l,.fn (.func 89) [] [.ptr c 0]] bs λr bs'=>r=.int .i64 (rK (λx=>decide (x∈xs)) l)/\bs'=bs:=by
 refine Sem.assume λhg0 _=>?_;have hg:=(cO (hg0 (slA bF l) (by simp) rfl)).1
 refine gd (by simp) ?_
 conv=>whnf
 repeat' refine gL (.map ?_)<;>conv=>whnf
 refine aJ.count (fb:=false) l.length (λst_ j=>⟨[(0,slA bF l),(1,.fn (.func 89) [] [.ptr c 0]),(7,.int .i64 l.length),(8,.int .i64 j)],bs,bs.length⟩) (λj=>∀i x,i<j->l[i]? =some x->decide (x∈xs)=false) En ?_ (λj hj hij=>?_) λhij=>?_
 .refine az.atS ?_ rfl rfl
  conv=>whnf
  repeat' (first|(refine gV ?_;first|refine vE ?_|refine vI ?_)|exact True.intro)<;>conv=>whnf
 .obtain ⟨y,hy⟩:∃y,l[j]? =some y:=⟨_,zA hj⟩
  conv=>whnf
  repeat' (first|refine gC (gD (cI ?_))|refine gI (gM (iE ?_))|refine gH (hB ?_))<;>conv=>whnf
  refine ah.raw (F4 hp hb) ?_;rintro r bs' ⟨rfl,rfl⟩
  conv=>whnf
  repeat' (first|(refine gC ?_;refine aj.dec (λhc=>?_) (λhc=>?_))|refine gW (wI ?_)|fail)<;>conv=>whnf
  .refine ai.slot ⟨?_,rfl⟩;rw[BG hij hy (by rw[decide_eq_true hc])];rfl
  .refine ⟨Eo hij hy (by rw[decide_eq_false hc]),?_⟩
   refine az.atS ?_ rfl rfl
   conv=>whnf
   repeat' (first|(refine gV ?_;first|refine vE ?_|refine vI ?_)|exact True.intro)<;>conv=>whnf
 .conv=>whnf
  repeat' refine gC (gD (cJ ?_))<;>conv=>whnf
  refine ai.slot ⟨?_,rfl⟩;rw[BF hij];rfl
theorem qY{bs:List Box}{b c:Nat}{xs l:List Int}(hp:aa bs c=some [.mpt b])(hb:bs[b]? =some (.mp (nj (.bool true) xs))):AM.Sem Tryz.prog 72 [slA bF l,.fn (.func 89) [] [.ptr c 0]] bs λr bs'=>r=.bool (l.any λv=>decide (v∈xs))/\bs'=bs:=by
 rw[<-wH];refine fc (by simp) ?_
 conv=>whnf
 skip;refine ah.raw (vo hp hb) ?_;rintro r bs' ⟨rfl,rfl⟩
 conv=>whnf
 skip;exact ai.slot ⟨rfl,rfl⟩
end Go.CK
namespace Go.AM
open Go.CK Go.RowKit Go.Proofs
theorem Sem.ofRow{P:Program}{f:FuncId}{ae:List AV}{bs:List Box}{zs:List Int}(hz:zs.length<=lim)(h:∀(E:Entry) (G:Gh) (a0:Act) (w:World) (args:List Value) (lo:Nat),RS E G ⟨[],bs,lo⟩ a0 w->args.length=ae.length->(∀j (hj:j<ae.length) v,args[j]? =some v->RV G.M G.σ bs.length ae[j] v)->Calls P f args.toArray w λe w'=>∃v T,e=.returned v/\w'.ownsRow w.heap.size T 1 v zs.length (zs.map (Value.int .i64))/\Below w.heap.size w w'):Sem P f ae bs λr bs'=>r=slA bF zs/\bs'=bs:=by
 intro E G a0 w args lo hs hl hv;refine(h E G a0 w args lo hs hl hv).mono ?_;rintro e w' ⟨v,T,rfl,hrow,hb⟩;have h0:=hs.pw (bB G bs w 1) ⟨#[v],[]⟩ (Fr.refl _ _ _ hs.fr.kn) rfl bs.length rfl (zG _) (λ_ _=>rfl) (λB hB=>.inl hB) rfl;have hMlt:∀B o u,G.M B o=some u->B<w.heap.size:=λB o u hu=>Hp.lt hs.ok hu
 have hle:G.M.le (G.M.plus w w'):=λB o u hu=>by
  unfold Hp.plus;rw[if_neg (by have:=hMlt B o u hu;omega)];exact hu
 have hok:(G.M.plus w w').le (Hp.of w'):=λB o u hu=>by
  unfold Hp.plus at hu;split at hu
  .exact hu
  .exact (hb.cell (p:=⟨B,o,none⟩) (hMlt B o u hu)).trans (hs.ok _ _ _ hu)
 have h1:=h0.grow (M':=G.M.plus w w') (w':=w') ⟨hb.os,hb.tape,hb.output,hb.size,hle,λB hB _=>hb.block B hB,λB hB _ o=>by unfold Hp.plus;rw[if_neg (by omega)]⟩ hok
 refine⟨_,_,_,_,rfl,⟨rfl,rfl⟩,h1.put (k:=0) Zz (x:=slA bF zs) (.flat ?_)⟩;rcases hrow.2 with ⟨rfl,hz0⟩|⟨g,cap,cur,rfl,hg1,hg2,hg3,hg4,hg5,hg6⟩
 .have:zs=[]:=zL hz0;subst this;exact FV.gl (l:=[]) (B:=0) (off:=0) (sz:=1) (by simp) (zG _) (zJ _) (by simp) (λh=>absurd rfl h) (λi hi=>by cases hi)
 .have hel:fV (G.M.plus w w') g 0 1 (zs.map bF):=λi hi=>by
   have hi':i<zs.length:=by simpa using hi
   refine⟨by simp[bF,AV.cells],λj hj=>?_⟩
   have hj0:j=0:=by simp[bF,AV.cells] at hj;omega
   subst hj0;have hlt:i<cur.size:=by omega
   have hcur:cur[i]? =some (.int .i64 zs[i]):=by
    have h1:(cur.toList.take (zs.length*1))[i]? =(zs.map (Value.int .i64))[i]?:=by rw[hg6]
    rw[List.getElem?_take_of_lt (by omega)] at h1
    simpa[hi'] using h1
   refine⟨.int .i64 zs[i],?_,rfl,?_⟩
   .unfold Hp.plus;rw[if_pos hg1];simp only[World.cell?,hg2];simpa using hcur
   .simp only[ZE,bF,AV.cells];exact .int _ _
  have:=FV.gl (M:=G.M.plus w w') (o:=.no) (l:=zs.map bF) (a:=some ⟨g,0,none⟩) (k:=cap) (B:=g) (off:=0) (sz:=1) (by simp) (by simpa using hg3) (by simpa using hz) (by simp) (λ_=>rfl) hel
  rw[zF] at this;exact this
end Go.AM
namespace Go.CK
open Go.AM Go.RowKit Go.Proofs Go.Maps
theorem Fw{bs:List Box}{b:Nat}:AM.Sem Tryz.prog 92 [.mpt b] bs λr bs'=>r=.fn (.func 147) [] [.ptr bs.length 0]/\bs'=bs++[.cells [.mpt b]]:=by
 refine cw (by simp) ?_
 conv=>whnf
 skip;exact⟨_,au.refl _,.inl ⟨rfl,rfl⟩⟩
def mv(v:Value):Option (DataW Unit×List MemPlace):=some (.lit (.bool true),[])
section
variable{es:List MapEntry}{l:List (Int×AV)}{M:Hp}(h2:es.length=l.length)(h3:∀i (e:Int×AV),l[i]? =some e->∃v,es[i]? =some (uX e.1 v i)/\FV M e.2 v)
include h2 h3
theorem DP:es.map (·.key)=l.map λe=>Value.int .i64 e.1:=by
 refine Zr λi=>?_;rw[ZG,ZG]
 cases hl:l[i]? with
 |none=>rw[zS (by rw[h2];exact ZL.1 hl)];rfl
 |some e=>obtain⟨v,e1,_⟩:=h3 i e hl;rw[e1];rfl
theorem ES:es.map (·.born)=List.range l.length:=by
 refine Zr λi=>?_;rw[ZG]
 cases hl:l[i]? with
 |none=>
  have h:=ZL.1 hl
  rw[zS (by rw[h2];exact h),zS (by simpa using h)];rfl
 |some e=>
  obtain⟨v,e1,_⟩:=h3 i e hl;have h:=(zB.1 hl).1;rw[e1,List.getElem?_range h];rfl
theorem K5{x:MapEntry}(hx:x∈es):∃e∈l,x.key=.int .i64 e.1:=by
 have:x.key∈es.map (·.key):=ZX hx;rw[DP h2 h3] at this;obtain⟨e,h1,h2⟩:=zl.1 this;exact⟨e,h1,h2.symm⟩
theorem K6{P:Program}{k:TypeId}(hk:P.underlying k=some (.int .i64))(hl:l.length<=maxLen)(hd:(l.map (·.1)).Nodup)(hi:∀e∈l,cz e.1):Go.WideElems.Fit P k mv es.toArray l.length:=by
 refine⟨by simpa[h2] using hl,⟨λx hx=>?_,?_,?_⟩,λx hx=>?_⟩
 .rw [yH] at hx;have:x.born∈es.map (·.born):=ZX hx;rw[ES h2 h3,ze] at this;exact this
 .rw [yH,ES h2 h3];exact List.nodup_range
 .rw [yH,DP h2 h3];have:l.map (λe=>Value.int .i64 e.1)=(l.map (·.1)).map (Value.int .i64):=by rw[List.map_map];rfl
  rw[this];exact List.Pairwise.map _ (λa b h e=>h (by simpa using e)) hd
 .rw [yH] at hx;obtain⟨e,h1,h2⟩:=K5 h2 h3 hx;obtain⟨key,val,born⟩:=x;simp only at h2;subst h2;exact⟨_,Go.WideElems.rd_mk (keyOf_int_mk hk (hi e h1).wf) rfl⟩
end
theorem JW{P:Program}{k:TypeId}(hk:P.underlying k=some (.int .i64)):∀(es:List MapEntry) (ks:List Int),es.map (·.key)=ks.map (Value.int .i64)->(∀n∈ks,cz n)->(es.map (Go.WideElems.rg P k mv)).map (λp=>Go.intOf p.1)=ks
 |[],[],_,_=>rfl
 |[],k::ks,h,_=>by simp at h
 |e::es,[],h,_=>by simp at h
 |⟨key,val,born⟩::es,n::ks,h,hi=>by
  simp only[zQ,yA] at h;obtain⟨rfl,h⟩:=h;simp only[zQ];rw[JW hk es ks h λm hm=>hi m (by simp[hm])]
  have:=Go.WideElems.rg_of (Go.WideElems.rd_mk (P:=P) (k:=k) (R:=mv) (born:=born) (val:=val) (keyOf_int_mk hk (hi n (by simp)).wf) rfl)
  rw[this];rfl
set_option maxHeartbeats 1000000 in
theorem Aq{bs:List Box}{b p:Nat}{x:LB}{l:List (Int×AV)}(hb:bs[b]? =some (.loop x))(hx:vv x l)(hp:bs[p]? =some (.cells [.mpt b]))(hl:l.length<=300000000)(hs:(l.map (·.1)).Pairwise (·<·))(hi:∀e∈l,cz e.1):
  AM.Sem Tryz.prog 91 [.fn (.func 147) [] [.ptr p 0]] bs λr bs'=>r=slA bF (l.map (·.1))/\bs'=bs:=by
 obtain⟨es,c1,c2,c3⟩:=hx.mp;have hd:(l.map (·.1)).Nodup:=hs.imp λh=>by omega
 have hsl:(l.map (·.1)).length=l.length:=by simp
 refine Sem.ofRow (by rw[hsl];first|(unfold glim;omega)|(unfold lim;omega)) λE G a0 w args lo hs' hal hv=>?_
 obtain⟨v,rfl⟩:∃v,args=[v]:=by
  match args,hal with
  |[v],_=>exact⟨v,rfl⟩
 have h0:=hv 0 (by simp) v rfl
 simp only[ZS] at h0;obtain⟨us,vs,rfl,h1,h2,h3,h4⟩:=h0.nx;have hus:us=[]:=zL (by simpa using h1)
 obtain⟨q,rfl⟩:∃q,vs=[q]:=by
  match vs,h2 with
  |[q],_=>exact⟨q,rfl⟩
 subst hus;have h5:=h4 0 (by simp) q rfl
 simp only[ZS] at h5;obtain⟨rfl,hb1⟩:=h5.eP;have hbc:aa bs p=some [.mpt b]:=by simp[aa,hp,Box.cs?]
 have hat:(⟨[],bs,lo⟩:St).at (.bx p 0)=some (.mpt b):=by simp[St.at,hbc]
 have h6:=hs'.val _ _ hat;obtain⟨h7,_⟩:=h6.bK;obtain⟨us,T,h8,h9⟩:=hs'.box p [.mpt b] hbc
 have hcell:w.cell? ⟨G.σ p,0,none⟩=some (.map (some (G.σ b))):=by
  simp only[aw,World.cell?,h8] at h7|-;simp only[zV] at h9;simpa[show 0<us.size by omega] using h7
 obtain⟨h10,_⟩:=hs'.sp.ob (G.σ b) x.obj (.inl ⟨b,x,by simp[ag,hb,Box.lb?],rfl,rfl⟩)
 have h10:w.heap[G.σ b]? =some (.map es.toArray l.length):=by rw[h10];unfold LB.obj;rw[c1]
 have hbl:G.σ p<w.heap.size:=(zi.1 h8).1;have hown:w.ownsMap Tryz.prog 3 mv (G.σ b) l.length (.map ((es.map (Go.WideElems.rg Tryz.prog 3 mv)).foldr DataW.insert [])):=⟨_,_,h10,K6 c2 c3 Tryz.underlying3 (by unfold maxLen;omega) hd hi,by simp[c2],by rw[yH]⟩
 have hperm:(intKeys (.map ((es.map (Go.WideElems.rg Tryz.prog 3 mv)).foldr DataW.insert []):DataW Unit)).Perm (l.map (·.1)):=by
  have e:=JW (P:=Tryz.prog) Tryz.underlying3 es (l.map (·.1)) (by rw[DP c2 c3,List.map_map];rfl) λn hn=>by
   obtain⟨e,he,rfl⟩:=zl.1 hn;exact hi e he
  rw[<-e];exact(WideShapes.sorted_perm _).map _
 have hsize:Maps.size (.map ((es.map (Go.WideElems.rg Tryz.prog 3 mv)).foldr DataW.insert []):DataW Unit)<=300000000:=by
  rw[size_eq,(WideShapes.sorted_perm _).length_eq,zF,c2];exact hl
 have hseq:SeqGives Fence.wide 2 Tryz.prog 147 #[.pointer (some ⟨G.σ p,0,none⟩)] encZ _ _ w:=AnyZI.keys_gives (ρ:=Tryz.laysKeys_ren) {Tryz.Hk with} Fence.wide _ trivial rfl (by omega) (G.σ p) (G.σ b) _ _ _ hbl hcell hown
 have hsort:AnyZI.SortsIn Tryz.prog Tryz.laysSorted_ren Fence.wide 4:=⟨λblk off cap ss W hH hblk hsz=>callsIn_wide.2 (Any.slices_Sort_int Tryz.Bi blk off cap ss W hH hblk hsz),λp cap W=>callsIn_wide.2 (Any.slices_Sort_int_none Tryz.Bi p cap W)⟩;have cS:=AnyZI.sorted_in Tryz.Di Fence.wide 5 trivial trivial trivial trivial rfl (by omega) hsort (enters_of Tryz.func146 (by kernel_rfl) rfl) 147 #[.pointer (some ⟨G.σ p,0,none⟩)] trivial (enters_of Tryz.func147 (by kernel_rfl) rfl) _ _ (by unfold maxLen;omega) (by omega) _ hseq
 refine(callsIn_wide (n:=5)).1 (CallsIn.mono cS ?_);rintro e w' ⟨v,ss,rfl,hS,h11,_,h12⟩;have hss:ss.mergeSort (λx y=>decide (x<=y))=(l.map (·.1)).mergeSort (λx y=>decide (x<=y)):=mergeSort_of_perm_i (hS.trans hperm);rw[List.mergeSort_of_pairwise (hs.imp λh=>by simp;omega)] at hss
 rw[hss] at h11;have:ss.length=(l.map (·.1)).length:=by rw[hsl,(hS.trans hperm).length_eq,zF]
 rw[this] at h11;exact⟨v,_,rfl,h11,h12⟩
end Go.CK
namespace Go.CK
open Go.AM Go.Proofs
def dB(b:List Bnd):List It->Nat->List (Int×AV)
 |[],_=>[]
 |i::l,k=>(if yo b i then [((k:Int),(qd b i.atom).av)] else [])++dB b l (k+1)
theorem uA(b:List Bnd):∀(l m:List It) (k:Nat),dB b (l++m) k=dB b l k++dB b m (k+l.length)
 |[],m,k=>rfl
 |i::l,m,k=>by
  rw[zf,dB,dB,uA b l m (k+1),zh,zY,show k+1+l.length=k+(l.length+1) by omega]
theorem Ic{b:List Bnd}{l:List It}{j:Nat}{i:It}(h:l[j]? =some i)(hh:yo b i=true):dB b (l.take (j+1)) 0=dB b (l.take j) 0++[((j:Int),(qd b i.atom).av)]:=by
 obtain⟨hj,rfl⟩:=zB.1 h;rw[List.take_succ_eq_append_getElem hj,uA,dB,dB,hh,if_pos rfl,zo,yL (by omega),ZJ,zz]
theorem Jw{b:List Bnd}{l:List It}{j:Nat}{i:It}(h:l[j]? =some i)(hh:yo b i=false):dB b (l.take (j+1)) 0=dB b (l.take j) 0:=by
 obtain⟨hj,rfl⟩:=zB.1 h;rw[List.take_succ_eq_append_getElem hj,uA,dB,dB,hh];simp
theorem nK{b:List Bnd}:∀{l:List It} {k:Nat} {e:Int×AV},e∈dB b l k->∃j i,l[j]? =some i/\yo b i=true/\e=(((k+j:Nat):Int),(qd b i.atom).av)
 |i::l,k,e,h=>by
  rw[dB,zZ] at h;rcases h with h|h
  .split at h
   .rename_i hh;simp only[zq] at h;exact⟨0,i,rfl,hh,by rw[h];rfl⟩
   .cases h
  .obtain ⟨j,x,h1,h2,h3⟩:=nK h;exact⟨j+1,x,by simpa using h1,h2,by rw[h3];congr 2;omega⟩
theorem uy{b:List Bnd}:∀{l:List It} {k j:Nat} {i:It},l[j]? =some i->yo b i=true->(((k+j:Nat):Int),(qd b i.atom).av)∈dB b l k
 |x::l,k,0,i,h,hh=>by
  simp at h;subst h
  rw[dB,hh,if_pos rfl];simp
 |x::l,k,j+1,i,h,hh=>by
  rw[dB,zZ];have:=uy (k:=k+1) (j:=j) (i:=i) (by simpa using h) hh
  rw[show k+1+j=k+(j+1) by omega] at this
  exact .inr this
theorem re{b:List Bnd}:∀{l:List It} {k:Nat},((dB b l k).map (·.1)).Pairwise (·<·)
 |[],k=>List.Pairwise.nil
 |i::l,k=>by
  have ih:=re (b:=b) (l:=l) (k:=k+1);rw[dB];split
  .rw [zf,Zl,zQ,ZB];refine⟨λn hn=>?_,ih⟩;obtain⟨e,he,rfl⟩:=zl.1 hn;obtain⟨j,x,_,_,h3⟩:=nK he;rw[h3];dsimp only;omega
  .exact ih
theorem ux{b:List Bnd}:∀{l:List It} {k:Nat},(dB b l k).length<=l.length
 |[],k=>zG _
 |i::l,k=>by
  have ih:=ux (b:=b) (l:=l) (k:=k+1);rw[dB,zC,zY];split<;>simp<;>omega
theorem au.CE(s:St)(b:Nat)(hb:s.bs[b]? =some (.mp [])):au s ⟨s.env,s.bs.set b (.loop (yg [])),s.lo⟩:=λE G a w h=>by
 refine⟨G,h.nU (λc=>?_) (λc=>?_) (by simp)⟩
 .exact cx hb rfl rfl c
 .rw [aH hb rfl];split
  .rename_i e;subst e;simp[ag,hb,Box.lb?]
  .rfl
theorem az.CE{s t:St}(b:Nat)(hb:s.bs[b]? =some (.mp []))(h:az ⟨s.env,s.bs.set b (.loop (yg [])),s.lo⟩ t):az s t:=⟨(au.CE s b hb).trans h.out⟩
theorem ElN.itId{e:List (Nat×AV)}{bs:List Box}{lo b k i:Nat}{l:List It}{x:It}{K:AV->Prop}(hb:bs[b]? =some (aN It.av 3 k l))(hx:l[i]? =some x)(h:K (.int .i64 x.id)):ElN false 1 ⟨e,bs,lo⟩ (.elp b i 3 0) K:=by
 refine⟨?_⟩;have hi:=(zB.1 hx).1
 have e2:cellsOf (l.map It.av)=cellsOf ((l.take i).map It.av)++(x.av.cells++cellsOf ((l.drop (i+1)).map It.av)):=by
  have e3:l=l.take i++x::l.drop (i+1):=by
   rw[<-(zB.1 hx).2,<-zH hi,List.take_append_drop]
  conv=>lhs;rw[e3]
  rw[zw,zQ,dp,cellsOf]
 have h1:(cellsOf ((l.take i).map It.av)).length=i*3:=by rw[ay.len,zo,yL (by omega)]
 simp only[St.rd,lJ ay hb hx];rw[e2,zh,List.drop_append,List.drop_eq_nil_of_le (by omega),h1]
 rw[show i*3+0-i*3=0 by omega]
 simp only[It.av,AV.cells,zf,Zl,yU,zQ,AV.aG,bL];exact h
theorem uz{b:List Bnd}{l:List It}{k j:Nat}{e:Int×AV}(h:(dB b l k)[j]? =some e):∀(i:Nat) (e':Int×AV),i<j->(dB b l k)[i]? =some e'->e'.1≠e.1:=λi e' hi h'=>by
 have hs:=re (b:=b) (l:=l) (k:=k);have h1:((dB b l k).map (·.1))[i]? =some e'.1:=by rw[ZG,h'];rfl
 have h2:((dB b l k).map (·.1))[j]? =some e.1:=by rw[ZG,h];rfl
 have:=List.pairwise_iff_getElem.1 hs i j (zB.1 h1).1 (zB.1 h2).1 hi;rw[(zB.1 h1).2,(zB.1 h2).2] at this;omega
set_option maxHeartbeats 4000000 in
theorem Dl{V:Nat->Prop}{bs:List Box}{p:Nat}{acc:List Ac}{its:List It}{b:List Bnd}(h:dv V bs p acc its)(hV:∀b,V b->b<bs.length)(ha:c7 acc its)(ha':c7 acc (ia b its))(hbl:b.length<=1000000)(hv:∀i∈its,(Tm.vss i.atom.args).length<=100000)(hN:∀i∈its,Tm.aD i.atom.args<=1000000):
  AM.Sem Tryz.prog 36 [.ptr p 0,.sl .no (b.map Bnd.av)] bs λr bs'=>r=.tup []/\dv V bs' p acc (ia b its)/\bs.length<=bs'.length/\∀c,c<bs.length->V c->c≠p->bs'[c]? =bs[c]?:=by
 obtain⟨bi,ki,t,kt,cs,hI,n1,n2,n3,n4⟩:=h;obtain⟨l1,l2,l3,l4⟩:=hI.lt;have hfew:=ha.few;have hcl:=hI.len;have hacc:=ha.accs;refine ld (by simp) ?_
 conv=>whnf
 try dsimp only
 repeat' (first|refine gC (cN ?_)|refine gL (.map ?_)|refine gB (.last ?_)|refine dG.last ?_)<;>(conv=>whnf;try dsimp only)
 rw[zC,zV]
 refine aJ.by (fb:=false) (λst_ (a:Nat×List Box)=>⟨[(0,.ptr p 0),(1,.sl .no (b.map Bnd.av)),(4,.ptr (bs.length+1) 0),(15,.sl .no (b.map Bnd.av)),(16,.int .i64 b.length),(17,.int .i64 (a.1:Int))],a.2,bs.length⟩)
  (λa=>a.1<=b.length/\bs.length+2<=a.2.length/\(∀c,c<bs.length->a.2[c]? =bs[c]?)/\a.2[bs.length]? =some (.mp (nj (.bool true) ((b.take a.1).map Bnd.v)))/\a.2[bs.length+1]? =some (.cells [.mpt bs.length]))
  (λa=>b.length-a.1) (0,bs++[.mp []]++[.cells [.mpt bs.length]]) ⟨zJ _,by simp,λc hc=>by rw[zh,zK hc],by simp[nj],by simp⟩ ?_ ?_
 .refine az.atS ?_ rfl rfl
  conv=>whnf
  repeat' (first|(refine gV ?_;first|refine vE ?_|refine vI ?_)|exact True.intro)<;>conv=>whnf
 .rintro ⟨j,B1⟩ ⟨q1,q2,q3,q4,q5⟩;dsimp only at q1 q2 q3 q4 q5
  by_cases hj:j<b.length
  .obtain ⟨y,hy⟩:∃y,b[j]? =some y:=⟨_,zA hj⟩
   conv=>whnf
   try dsimp only
   repeat' (first|refine gC (gD (cI ?_))|refine gI (gM (iE ?_))|refine gB (.last ?_)|refine dG.last ?_)<;>(conv=>whnf;try dsimp only)
   obtain⟨B2,hB2⟩:∃B2,B2=B1++[Box.cells [AV.int IntKind.i64 y.v,AV.int IntKind.i64 y.t.kind,AV.int IntKind.i64 y.t.num,AV.str y.t.name,AV.sl Cap.no (List.map Tm.av y.t.args)]]:=⟨_,rfl⟩;rw[<-hB2];have e1:aa B2 (bs.length+1)=some [.mpt bs.length]:=by rw[hB2,al,if_neg (by omega)];simp[aa,q5,Box.cs?]
   have e2:aa B2 B1.length=some [AV.int IntKind.i64 y.v,AV.int IntKind.i64 y.t.kind,AV.int IntKind.i64 y.t.num,AV.str y.t.name,AV.sl Cap.no (List.map Tm.av y.t.args)]:=by rw[hB2,al,if_pos rfl];rfl
   have e3:∀c,c<B1.length->B2[c]? =B1[c]?:=λc hc=>by rw[hB2,zK hc]
   have e4:B2.length=B1.length+1:=by rw[hB2];simp
   have e5:=q4;rw[<-e3 _ (by omega)] at e5
   clear hB2
   conv=>whnf
   try dsimp only
   repeat' (first|refine gW (wI ?_)|refine gN (nS ?_)|refine gB (.of (by assumption) ?_)|refine gMp (mA ?_))<;>(conv=>whnf;try dsimp only)
   have hlt:bs.length<B2.length:=by omega
   refine⟨(j+1,B2.set bs.length (.mp (nj (.bool true) ((b.take (j+1)).map Bnd.v)))),⟨⟨hj,by rw[zn];omega,λc hc=>?_,?_,?_⟩,by dsimp only;omega⟩,?_⟩
   .rw [Zh (by omega),e3 c (by omega)];exact q3 c hc
   .rw [List.getElem?_set_self hlt]
   .rw [Zh (by omega),e3 _ (by omega)];exact q5
   .rw [show (b.take (j+1)).map Bnd.v=(b.take j).map Bnd.v++[y.v] by rw[ZD,hy,Option.toList_some,zw];rfl,<-A5]
    refine az.atS ?_ rfl rfl
    conv=>whnf
    repeat' (first|(refine gV ?_;first|refine vE ?_|refine vI ?_)|exact True.intro)<;>conv=>whnf
  .obtain rfl:j=b.length:=by omega
   rw[ZA] at q4
   conv=>whnf
   try dsimp only
   repeat' refine gC (gD (cJ ?_))<;>(conv=>whnf;try dsimp only)
   obtain⟨B2,hB2⟩:∃B2,B2=B1++[Box.mp []]:=⟨_,rfl⟩;rw[<-hB2];have e0:∀c,c<B1.length->B2[c]? =B1[c]?:=λc hc=>by rw[hB2,zK hc]
   have e1:aa B2 p=some [slA Ac.av acc,.bsl bi its.length ki,.bsl t cs.length kt]:=by simp[aa,e0 p (by omega),q3 p l1,hI.str,Box.cs?]
   have e2:B2[B1.length]? =some (.mp []):=by rw[hB2];simp
   have e3:B2.length=B1.length+1:=by rw[hB2];simp
   have e4:B2[bs.length]? =some (.mp (nj (.bool true) (b.map Bnd.v))):=by rw[e0 _ (by omega)];exact q4
   have e5:B2[bs.length+1]? =some (.cells [.mpt bs.length]):=by rw[e0 _ (by omega)];exact q5
   have e6:∀c,c<bs.length->B2[c]? =bs[c]?:=λc hc=>by rw[e0 c (by omega)];exact q3 c hc
   clear hB2
   conv=>whnf
   try dsimp only
   repeat' refine gB (.of (by assumption) ?_)<;>(conv=>whnf;try dsimp only)
   obtain⟨m,hm⟩:∃m,m=B1.length:=⟨_,rfl⟩;rw[<-hm] at e2 e3|-
   refine aJ.by (fb:=false) (λst_ (a:Nat×List Box)=>⟨[(0,.ptr p 0),(1,.sl .no (b.map Bnd.av)),(4,.ptr (bs.length+1) 0),(7,.mpt m),(29,.bsl bi its.length ki),(30,.int .i64 its.length),(31,.int .i64 (a.1:Int))],a.2,bs.length⟩)
    (λa=>a.1<=its.length/\m<a.2.length/\(∀c,c<bs.length->a.2[c]? =bs[c]?)/\a.2[bs.length]? =some (.mp (nj (.bool true) (b.map Bnd.v)))/\a.2[bs.length+1]? =some (.cells [.mpt bs.length])/\∃x,a.2[m]? =some (.loop x)/\vv x (dB b (its.take a.1) 0))
    (λa=>its.length-a.1) (0,B2.set m (.loop (yg []))) ⟨zJ _,by rw[zn];omega,λc hc=>by rw[Zh (by omega)];exact e6 c hc,by rw[Zh (by omega)];exact e4,by rw[Zh (by omega)];exact e5,yg [],by rw[List.getElem?_set_self (by omega)],vv.nil⟩ ?_ ?_
   .refine az.CE m e2 ?_;refine az.atS ?_ rfl rfl
    conv=>whnf
    repeat' (first|(refine gV ?_;first|refine vE ?_|refine vI ?_)|exact True.intro)<;>conv=>whnf
   .rintro ⟨j,B3⟩ ⟨r1,r2,r3,r4,r5,x,r6,r7⟩;dsimp only at r1 r2 r3 r4 r5 r6 r7
    by_cases hj:j<its.length
    .obtain ⟨i,hi⟩:∃i,its[j]? =some i:=⟨_,zA hj⟩
     conv=>whnf
     try dsimp only
     repeat' (first|refine gC (gD (cI ?_))|refine gN (nS ?_))<;>(conv=>whnf;try dsimp only)
     refine ElN.elem ay (l:=its) (x:=i) (by rw[r3 bi l2];exact hI.items) (by simpa using hi) ?_
     conv=>whnf
     try dsimp only
     repeat' (first|refine gB (.last ?_)|refine dG.last ?_)<;>(conv=>whnf;try dsimp only)
     obtain⟨B4,hB4⟩:∃B4,B4=B3++[Box.cells [AV.int IntKind.i64 i.id,AV.str i.atom.name,AV.sl Cap.no (List.map Tm.av i.atom.args)]]:=⟨_,rfl⟩;rw[<-hB4];have f0:∀c,c<B3.length->B4[c]? =B3[c]?:=λc hc=>by rw[hB4,zK hc]
     have f1:aa B4 B3.length=some [AV.int IntKind.i64 i.id,AV.str i.atom.name,AV.sl Cap.no (List.map Tm.av i.atom.args)]:=by rw[hB4,al,if_pos rfl];rfl
     have f2:B4.length=B3.length+1:=by rw[hB4];simp
     have f3:B4[bs.length]? =some (.mp (nj (.bool true) (b.map Bnd.v))):=by rw[f0 _ (by omega)];exact r4
     have f4:aa B4 (bs.length+1)=some [.mpt bs.length]:=by simp[aa,f0 (bs.length+1) (by omega),r5,Box.cs?]
     have f5:B4[m]? =some (.loop x):=by rw[f0 _ r2];exact r6
     clear hB4;have hva:=Ck (x:=i.atom) (hv i (zE hi));have hcb:=qY (l:=fB (Tm.vss i.atom.args)) f4 f3;have hfr:∀c,c<bs.length->B4[c]? =bs[c]?:=λc hc=>by rw[f0 c (by omega)];exact r3 c hc
     have f6:B4[bs.length+1]? =some (.cells [.mpt bs.length]):=by rw[f0 _ (by omega)];exact r5
     cases hh:yo b i with
     |true=>
      rw[show (fB (Tm.vss i.atom.args)).any (λv=>decide (v∈b.map Bnd.v))=true from hh] at hcb;have hap:=y9 b i.atom (hN i (zE hi)) (by omega)
      conv=>whnf
      try dsimp only
      repeat' refine gF (ah.fn (hva) ?_)<;>(conv=>whnf;try dsimp only)
      refine ah.raw hcb ?_;rintro r b' ⟨rfl,rfl⟩
      conv=>whnf
      try dsimp only
      repeat' (first|refine gF (ah.fn (hap) ?_)|refine gC (cY ?_)|refine gB (.of (by assumption) ?_))<;>(conv=>whnf;try dsimp only)
      refine⟨⟨m,x,_,(j:Int),(qd b i.atom).av,rfl,f5,r7,λe he=>?_,rfl,λx' hx'=>?_⟩⟩
      .obtain ⟨k,i',h1,_,rfl⟩:=nK he;have:=(zB.1 h1).1;rw[zo] at this;dsimp only;omega
      conv=>whnf
      try dsimp only
      repeat' refine gW (wI ?_)<;>(conv=>whnf;try dsimp only)
      rw[<-Ic hi hh] at hx';refine⟨(j+1,b'.set m (.loop x')),⟨⟨hj,by rw[zn];omega,λc hc=>?_,?_,?_,x',?_,hx'⟩,by dsimp only;omega⟩,?_⟩
      .rw [Zh (by omega)];exact hfr c hc
      .rw [Zh (by omega)];exact f3
      .rw [Zh (by omega)];exact f6
      .rw [List.getElem?_set_self (by omega)]
      .refine az.atS ?_ rfl rfl
       conv=>whnf
       repeat' (first|(refine gV ?_;first|refine vE ?_|refine vI ?_)|exact True.intro)<;>conv=>whnf
     |false=>
      rw[show (fB (Tm.vss i.atom.args)).any (λv=>decide (v∈b.map Bnd.v))=false from hh] at hcb
      conv=>whnf
      try dsimp only
      repeat' refine gF (ah.fn (hva) ?_)<;>(conv=>whnf;try dsimp only)
      refine ah.raw hcb ?_;rintro r b' ⟨rfl,rfl⟩
      conv=>whnf
      try dsimp only
      repeat' (first|refine gC (cN ?_)|refine gW (wI ?_)|fail)<;>(conv=>whnf;try dsimp only)
      rw[<-Jw hi hh] at r7;refine⟨(j+1,b'),⟨⟨hj,by dsimp only;omega,hfr,f3,f6,x,f5,r7⟩,by dsimp only;omega⟩,?_⟩
      refine az.atS ?_ rfl rfl
      conv=>whnf
      repeat' (first|(refine gV ?_;first|refine vE ?_|refine vI ?_)|exact True.intro)<;>conv=>whnf
    .obtain rfl:j=its.length:=by omega
     rw[ZA] at r7
     conv=>whnf
     try dsimp only
     repeat' refine gC (gD (cJ ?_))<;>(conv=>whnf;try dsimp only)
     refine ah.raw Fw ?_;rintro r B4 ⟨rfl,hB4⟩;have f0:∀c,c<B3.length->B4[c]? =B3[c]?:=λc hc=>by rw[hB4,zK hc]
     have f1:B4[B3.length]? =some (.cells [.mpt m]):=by rw[hB4];simp
     have f2:B4.length=B3.length+1:=by rw[hB4];simp
     have f5:B4[m]? =some (.loop x):=by rw[f0 _ r2];exact r6
     clear hB4
     conv=>whnf
     try dsimp only
     skip;refine ah.raw (Aq f5 r7 f1 (by have:=ux (b:=b) (l:=its) (k:=0);omega) re λe he=>?_) ?_
     .obtain ⟨j,i,h1,_,rfl⟩:=nK he;have:=(zB.1 h1).1;constructor<;>(dsimp only;omega)
     rintro r B5 ⟨rfl,rfl⟩
     conv=>whnf
     try dsimp only
     repeat' refine gL (.map ?_)<;>(conv=>whnf;try dsimp only)
     obtain⟨ks,hks⟩:∃ks,ks=(dB b its 0).map (·.1):=⟨_,rfl⟩
     have hkn:ks.length<=100000:=by
      have:=ux (b:=b) (l:=its) (k:=0);rw[hks,zF];omega
     rw[<-hks];have g0:∀c,c<bs.length->B5[c]? =bs[c]?:=λc hc=>by rw[f0 c (by omega)];exact r3 c hc
     refine aJ.by (fb:=false) (λst_ (a:Nat×List Box)=>⟨[(0,.ptr p 0),(7,.mpt m),(50,slA bF ks),(51,.int .i64 ks.length),(52,.int .i64 (a.1:Int))],a.2,bs.length⟩)
      (λa=>a.1<=ks.length/\a.2.length=B5.length/\(∀c,c<B5.length->c≠bi->a.2[c]? =B5[c]?)/\∃cur:List It,a.2[bi]? =some (aN It.av 3 ki cur)/\cur.length=its.length/\∀(k:Nat) (i:It),its[k]? =some i->cur[k]? =some (if (k:Int)∈ks.take a.1 then nN b i else i))
      (λa=>ks.length-a.1) (0,B5) ⟨zJ _,rfl,λ_ _ _=>rfl,its,by rw[g0 bi l2];exact hI.items,rfl,λk i h=>by simpa using h⟩ ?_ ?_
     .refine az.atS ?_ rfl rfl
      conv=>whnf
      repeat' (first|(refine gV ?_;first|refine vE ?_|refine vI ?_)|exact True.intro)<;>conv=>whnf
     .rintro ⟨j,B6⟩ ⟨s1,s2,s3,cur,s4,s5,s6⟩;dsimp only at s1 s2 s3 s4 s5 s6
      have hstr:aa B6 p=some [slA Ac.av acc,.bsl bi its.length ki,.bsl t cs.length kt]:=by
       have hpb:p≠bi:=λe=>by
        have h1:=hI.str;have h2:=hI.items;rw[e,h2] at h1;cases h1
       simp[aa,s3 p (by omega) hpb,g0 p l1,hI.str,Box.cs?]
      by_cases hj:j<ks.length
      .obtain ⟨e,he⟩:∃e,(dB b its 0)[j]? =some e:=⟨_,zA (by rw[hks] at hj;simpa using hj)⟩
       obtain⟨k,i,hki,hhi,hek⟩:=nK (zE he);rw[ZJ] at hek;have hkj:ks[j]? =some (k:Int):=by rw[hks,ZG,he,hek];rfl
       have hnk:¬(k:Int)∈ks.take j:=λh=>by
        obtain⟨q,hq⟩:=ZT h;rw[Zd] at hq;split at hq
        .rename_i hqj;rw[hks,ZG,Option.map_eq_some_iff] at hq;obtain⟨e',h1,h2⟩:=hq;exact uz he q e' hqj h1 (by rw[h2,hek])
        .cases hq
       have hck:=s6 k i hki;rw[if_neg hnk] at hck;have hmb:m≠bi:=by omega
       have hkl:=(zB.1 hki).1
       conv=>whnf
       try dsimp only
       repeat' (first|refine gC (gD (cI ?_))|refine gN (nS ?_)|refine gI (gM (iE ?_))|refine gB (.of (by assumption) ?_))<;>(conv=>whnf;try dsimp only)
       refine ElN.itId s4 (by simpa using hck) ?_
       conv=>whnf
       try dsimp only
       skip
       refine⟨⟨m,x,dB b its 0,(k:Int),.agg [.str i.atom.name,.sl .no ((i.atom.args.map (cV b)).map Tm.av)],j,rfl,by rw[s3 m (by omega) hmb];exact f5,r7,by rw[he,hek];rfl,λq e' hq h'=>by
        have:=uz he q e' hq h'
        rwa [hek] at this,?_⟩⟩
       conv=>whnf
       try dsimp only
       repeat' (first|(refine gG ?_;refine bO.fn (xY (nN b i) (ha'.ent _ (List.mem_map.2 ⟨i,zE hki,rfl⟩)).nds) ?_)|refine gN (nS ?_)|refine gPr (pE ?_))<;>(conv=>whnf;try dsimp only)
       refine EsN.elem ay (λ_=>rfl) (x:=i) (y:=nN b i) s4 (by simpa using hck) rfl ?_
       conv=>whnf
       try dsimp only
       repeat' refine gW (wI ?_)<;>(conv=>whnf;try dsimp only)
       have hbl6:bi<B6.length:=by omega
       refine⟨(j+1,B6.set bi (aN It.av 3 ki (cur.set k (nN b i)))),⟨⟨hj,by rw[zn];exact s2,λc hc hne=>?_,cur.set k (nN b i),?_,by rw[zn];exact s5,λq i' hq=>?_⟩,by dsimp only;omega⟩,?_⟩
       .rw [Zh (Ne.symm hne)];exact s3 c hc hne
       .rw [List.getElem?_set_self hbl6]
       .have htk:ks.take (j+1)=ks.take j++[(k:Int)]:=by rw[ZD,hkj];rfl
        rw[htk]
        by_cases e:k=q
        .subst e;rw[hki] at hq;cases hq;rw[List.getElem?_set_self (by omega),if_pos (by simp)]
        .rw [Zh e,s6 q i' hq]
         have:((q:Int)∈ks.take j++[(k:Int)])↔(q:Int)∈ks.take j:=by
          rw[zZ,zq];exact⟨λh=>h.elim id λh=>absurd h (by omega),.inl⟩
         simp only[this]
       .refine az.atS ?_ rfl rfl
        conv=>whnf
        repeat' (first|(refine gV ?_;first|refine vE ?_|refine vI ?_)|exact True.intro)<;>conv=>whnf
      .obtain rfl:j=ks.length:=by omega
       have hkl:ks.length=(dB b its 0).length:=by rw[hks,zF]
       have hcur:cur=ia b its:=by
        refine Zr λk=>?_;rw[ia,ZG]
        cases hk:its[k]? with
        |none=>
         have:=ZL.1 hk
         rw[zS (by omega)];rfl
        |some i=>
         rw[s6 k i hk,ZA];split
         .rfl
         .rename_i hn
          cases hh:yo b i with
          |false=>rw[zM,HE hh]
          |true=>
           refine absurd ?_ hn;have:=uy (k:=0) hk hh;rw[ZJ] at this;rw[hks];exact zl.2 ⟨_,this,rfl⟩
       rw[hcur] at s4 s5;have hap:(ia b its).length=its.length:=by rw[ia,zF]
       have hsame:∀c,c<bs.length->c≠bi->B6[c]? =bs[c]?:=λc hc hne=>by rw[s3 c (by omega) hne,g0 c hc]
       have hpb:p≠bi:=λe=>by
        have h1:=hI.str;have h2:=hI.items;rw[e,h2] at h1;cases h1
       have hT:cW B6 p acc (ia b its) (λ_=>its) bi ki t kt cs:=by
        refine⟨by rw[hsame p l1 hpb,hap];exact hI.str,s4,by rw[hap];exact hI.le,by rw[hsame t l3 n4];exact hI.tabs,hI.tle,hI.len,hI.nod,λk c a hc hac=>?_⟩
        have hcm:=zE hc;rw[hsame c (l4 c hcm) (hI.ne hcm).2.1];exact hI.tab k c a hc hac
       conv=>whnf
       try dsimp only
       repeat' refine gC (gD (cJ ?_))<;>(conv=>whnf;try dsimp only)
       refine⟨⟨m,x,dB b its 0,rfl,by rw[s3 m (by omega) (by omega)];exact f5,r7,?_⟩⟩
       conv=>whnf
       try dsimp only
       repeat' (refine gC ?_;refine aj.lt (λhc=>?_) (λhc=>?_))<;>(conv=>whnf;try dsimp only)
       .refine ah.raw (pM hT.anyT ha') ?_;rintro r B7 ⟨rfl,t1,t2,t3⟩
        conv=>whnf
        try dsimp only
        skip;refine⟨_,au.refl _,.inl ⟨rfl,⟨bi,ki,t,kt,cs,t1,n1,n2,n3,n4⟩,?_,λc hc hVc hcp=>?_⟩⟩
        .show bs.length<=B7.length;omega
        .show B7[c]? =bs[c]?;rw[t3 c (by omega) (λhm=>n3 c hm hVc),hsame c hc (λe=>n1 (e▸hVc))]
       .have h0:dB b its 0=[]:=zL (by omega)
        have hai:ia b its=its:=by
         rw[ia]
         conv=>rhs;rw[<-List.map_id its]
         refine List.map_congr_left λi hi=>?_;obtain⟨k,hk⟩:=ZT hi
         cases hh:yo b i with
         |false=>exact HE hh
         |true=>
          have:=uy (k:=0) hk hh;rw[h0] at this;cases this
        refine⟨_,au.refl _,.inl ⟨rfl,⟨bi,ki,t,kt,cs,?_,n1,n2,n3,n4⟩,?_,λc hc hVc hcp=>?_⟩⟩
        .show cW B6 p acc (ia b its) (λ_=>ia b its) bi ki t kt cs;have:=hT;rw[hai] at this|-;exact this
        .show bs.length<=B6.length;omega
        .show B6[c]? =bs[c]?;rw[hsame c hc (λe=>n1 (e▸hVc))]
end Go.CK
