/-
  Texts of this aQ joined (wip/gen/bundle.py),those declarations only that are needed:AmD. By an AI agent.
-/
import Derived.Test.YtahnpgfkkngimaaGreatBad
import Derived.IntWalk
set_option linter.unusedSimpArgs false
set_option linter.unusedVariables false
namespace Go.AM
open Go.CK Go.RowKit
theorem Gm{P:Program}{α β:Type}(f:α->Sem β)(g:α->β)(w:World)(xs:Array α)(h:∀x∈xs,(f x).run P w=.ok (g x) w):(xs.mapM f).run P w=.ok (xs.map g) w:=by
 rw[Array.mapM_eq_mapM_toList,Sem.run_map]
 have:∀l:List α,(∀x∈l,(f x).run P w=.ok (g x) w)->(l.mapM f).run P w=.ok (l.map g) w:=by
  intro l
  induction l with
  |nil=>intro _;simp
  |cons x l ih=>
   intro hl;rw[List.mapM_cons];simp only[Xi,hl x (by simp),Xh,ih (λy hy=>hl y (by simp[hy])),Xj,ZP]
 rw[this _ (λx hx=>h x (by simpa using hx))]
 simp only[Xh];congr 1;apply Array.ext';simp
def laid(off:Nat)(us:List Value)(n:Nat)(cs:Array Value):Array Value:=(us.zipIdx n).foldl (λcs (c,j)=>cs.setIfInBounds (off+j) c) cs
theorem n4(off:Nat):∀(us:List Value) (n:Nat) (cs:Array Value),(laid off us n cs).size=cs.size
 |[],_,_=>rfl
 |u::us,n,cs=>by
  have:=n4 off us (n+1) (cs.setIfInBounds (off+n) u);simp only[laid,List.zipIdx_cons,List.foldl_cons] at this|-;rw[this];simp
theorem qd(off:Nat):∀(us:List Value) (n:Nat) (cs:Array Value) (k:Nat),(laid off us n cs)[k]? =if off+n<=k/\k<off+n+us.length/\k<cs.size then us[k-(off+n)]? else cs[k]?
 |[],n,cs,k=>by simp[laid];intro h1 h2;omega
 |u::us,n,cs,k=>by
  have:=qd off us (n+1) (cs.setIfInBounds (off+n) u) k;simp only[laid,List.zipIdx_cons,List.foldl_cons] at this|-;rw[this];simp only[Array.size_setIfInBounds,ZX]
  by_cases h1:off+n=k
  .subst h1;rw[if_neg (by omega)]
   by_cases h2:off+n<cs.size
   .rw [if_pos (by omega)];simp[h2]
   .rw [if_neg (by omega),Yl (by simp;omega),Yl (by omega)]
  .rw [ZW h1]
   by_cases h2:off+(n+1)<=k/\k<off+(n+1)+us.length/\k<cs.size
   .rw [if_pos h2,if_pos (by omega),show k-(off+n)=(k-(off+(n+1)))+1 by omega]
    simp
   .rw [if_neg h2,if_neg (by omega)]
theorem nV:∀(cs xs:List AV) (o k:Nat),(setAt xs o cs)[k]? =if o<=k/\k<o+cs.length/\k<xs.length then cs[k-o]? else xs[k]?
 |[],xs,o,k=>by simp[setAt];intro h1 h2;omega
 |c::cs,xs,o,k=>by
  rw[setAt,nV cs (xs.set o c) (o+1) k];simp only[Zm,ZX]
  by_cases h1:o=k
  .subst h1;rw[if_neg (by omega),Zq,if_pos rfl]
   by_cases h2:o<xs.length
   .rw [if_pos h2,if_pos (by omega)];simp
   .rw [if_neg h2,if_neg (by omega),ZR (by omega)]
  .rw [Zq,if_neg h1]
   by_cases h2:o+1<=k/\k<o+1+cs.length/\k<xs.length
   .rw [if_pos h2,if_pos (by omega),show k-o=(k-(o+1))+1 by omega]
    simp
   .rw [if_neg h2,if_neg (by omega)]
theorem xN(place:Nat->Option (Nat×Nat))(cells:Array Value)(i:Nat)(v:Value)(rest:List (Nat×Value)){off sz:Nat}(hp:place i=some (off,sz))(h1:v.cells.size=sz)(h2:off+v.cells.size<=cells.size):
  Instr.fill place cells ((i,v)::rest)=Instr.fill place (laid off v.cells.toList 0 cells) rest:=by
 rw[Instr.fill,hp];simp only[h1,ne_eq,not_true,decide_false,Bool.false_or];have h3:¬(off+sz>cells.size):=by omega
 simp only[decide_eq_true_eq,h3,if_false];congr 1;rw[laid,<-Array.foldl_toList];congr 1;simp
def CR(M:Hp)(σ:Nat->Nat)(n:Nat)(xs:List AV)(vs:Array Value):Prop:=
 vs.size=xs.length/\∀(j:Nat) x v,xs[j]? =some x->vs[j]? =some v->v.oneCell'=true/\RV M σ n x v
theorem CR.laid{M:Hp}{σ:Nat->Nat}{n:Nat}{xs cs:List AV}{vs:Array Value}{us:List Value}(h:CR M σ n xs vs)(hl:us.length=cs.length)(h1:∀u∈us,u.oneCell'=true)(hr:∀j (hj:j<cs.length) u,us[j]? =some u->RV M σ n cs[j] u)(off:Nat):
  CR M σ n (setAt xs off cs) (laid off us 0 vs):=by
 refine⟨by rw[n4,fS,h.1],λj x v hx hv=>?_⟩
 rw[nV] at hx;rw[qd] at hv;rw[h.1,hl,Yi] at hv
 by_cases hc:off<=j/\j<off+cs.length/\j<xs.length
 .rw [if_pos hc] at hx hv;have hj:j-off<cs.length:=by omega
  rw[ZA hj] at hx;cases hx;exact⟨h1 v (ZE hv),hr _ hj v hv⟩
 .rw [if_neg hc] at hx hv;exact h.2 j x v hx hv
def mh(ev:Opd->AV):List (Nat×Nat×Opd)->List AV->(List AV->Prop)->Prop
 |[],cs,K=>K cs
 |(off,sz,o)::r,cs,K=>req (aV (ev o)&&(Nat.beq (ev o).cells.length sz&&Nat.ble (off+sz) cs.length)) (mh ev r (setAt cs off (ev o).cells) K)
theorem nw{s:St}:∀(parts:List (Nat×Nat×Opd)) (cs:List AV) (K:List AV->Prop),mh s.ev parts cs K->∃ds,K ds/\∀E G a w,RS E G s a w->∀(os:List (Nat×Operand)) (place:Nat->Option (Nat×Nat)) (vs:Array Value),
  os.length=parts.length->(∀i (h:i<os.length) (h':i<parts.length),place os[i].1=some (parts[i].1,parts[i].2.1)/\opd os[i].2=some parts[i].2.2)->CR G.M G.σ s.bs.length cs vs->
  ∃vs',Instr.fill place vs (os.map λx=>(x.1,a.eval x.2))=some vs'/\CR G.M G.σ s.bs.length ds vs'
 |[],cs,K,h=>⟨cs,h,λE G a w hs os place vs hl _ hc=>by
   have:os=[]:=YW.1 (by simpa using hl)
   subst this
   exact⟨vs,rfl,hc⟩⟩
 |(off,sz,o)::r,cs,K,h=>by
  obtain⟨h1,h2⟩:=ae.1 h;simp only[ZD] at h1;obtain⟨hok,hsz,hle⟩:=h1;have hsz:=ZO hsz;have hle:=Zr hle;obtain⟨ds,hK,hall⟩:=nw r _ K h2;refine⟨ds,hK,λE G a w hs os place vs hl hp hc=>?_⟩
  match os,hl with
  |(i,x)::os,hl=>
   obtain⟨hp0,hx0⟩:=hp 0 (by simp) (by simp)
   simp only[YP] at hp0 hx0;obtain⟨c1,c2,c3⟩:=(hs.ev hx0).cells hok;have hsize:(a.eval x).cells.size=sz:=by rw[<-YH,c1,hsz]
   have hc':=hc.laid c1 c2 c3 off
   obtain⟨vs',h3,h4⟩:=hall E G a w hs os place _ (by simpa using hl) (λj hj hj'=>by
    have:=hp (j+1) (by simpa using hj) (by simpa using hj')
    simpa using this) hc'
   refine⟨vs',?_,h4⟩;rw[ZP,xN _ _ _ _ _ hp0 hsize (by rw[hsize,hc.1];exact hle)]
   exact h3
section
variable{P:Program}{s:St}{o:Oper}{K:St->Prop}
theorem BA{M:Hp}{σ:Nat->Nat}{n:Nat}{vs:List Value}{xs:List AV}(h:oF vs=some xs):CR M σ n xs vs.toArray:=by
 obtain⟨h1,h2,h3⟩:=vp (M:=M) h;refine⟨by simpa using h1,λj x v hx hv=>?_⟩
 have hj:j<xs.length:=by
  rcases Zs j xs.length with h1|h1
  .exact h1
  .rw [ZR h1] at hx;cases hx
 rw[ZA hj] at hx;cases hx;have hv':vs[j]? =some v:=by simpa using hv
 exact⟨h2 v (ZE hv'),.flat (h3 j hj v hv')⟩
theorem CR.agg{M:Hp}{σ:Nat->Nat}{n:Nat}{xs:List AV}{vs:Array Value}(h:CR M σ n xs vs):RV M σ n (.agg xs) (.agg vs):=by
 have:=RV.agg (M:=M) (σ:=σ) (n:=n) xs vs.toList (by simpa using h.1) (λv hv=>?_) (λj hj v hv=>?_)
 .simpa using this
 .obtain ⟨j,hj,rfl⟩:=Yb.1 hv;have hj':j<xs.length:=by rw[<-h.1];simpa using hj
  exact(h.2 j _ _ (ZA hj') (by simp at hj;simp[hj])).1
 .exact (h.2 j _ v (ZA hj) (by simpa using hv)).2
theorem Bt{t:TypeId}{ps:Array (Nat×Operand)}(ho:o.op=.build t ps){fs:Array Field}{i:TypeInfo}{z:Value}{zs:List AV}(ht:P.underlying t=some (.struct fs))(hi:P.info? t=some i)(hz:i.zero=some z)(hzs:oF z.cells.toList=some zs)
  (hf:∀f∈fs,∃k,dn P f.type=some k) {parts:List (Nat×Nat×Opd)} (hl:ps.toList.length=parts.length)
  (hp:∀i (h:i<ps.toList.length) (h':i<parts.length),(∃f,fs[ps.toList[i].1]? =some f/\f.offset=parts[i].1/\dn P f.type=some parts[i].2.1)/\opd ps.toList[i].2=some parts[i].2.2)
  (h:mh s.ev parts zs λcs=>K (s.put o.dst (.agg cs))):OpS P o s K:=by
 have hd:∀c,o.op≠.defer c:=λc e=>by rw[ho] at e;cases e
 obtain⟨ds,hK,hall⟩:=nw parts zs _ h;refine OpS.pure _ hd hK λE G a w hs=>?_
 have hm:=Gm (P:=P) (λf:Field=>do Pure.pure (f.offset,<-sizeOf f.type)) (λf=>(f.offset,(dn P f.type).getD 0)) w fs (λf hf'=>by
  obtain⟨k,hk⟩:=hf f hf';simp[aJ hk,hk])
 obtain⟨vs',h1,h2⟩:=hall E G a w hs ps.toList (λi=>(fs.map λf=>(f.offset,(dn P f.type).getD 0))[i]?) z.cells hl (λi h h'=>by
  obtain⟨⟨f,f1,f2,f3⟩,h4⟩:=hp i h h';refine⟨?_,h4⟩;simp only[Array.getElem?_map,f1,ZM,f2,f3,YR]) (by simpa using BA (M:=G.M) (σ:=G.σ) (n:=s.bs.length) hzs)
 refine⟨.agg vs',?_,h2.agg⟩;have h1':Instr.fill (λx=>(fs.map λf=>(f.offset,(dn P f.type).getD 0))[x]?) z.cells (ps.map λx=>(x.1,a.eval x.2)).toList=some vs':=by simpa using h1
 unfold execOp;simp only[ho,Instr.build,Xi,zeroValue,typeInfo,run_program,hi,hz,Xh,Xj,run_underlying ht];have hm':(fs.mapM λf=>(do let a<-sizeOf f.type;Pure.pure (f.offset,a):Sem (Nat×Nat))).run P w=.ok (fs.map λf=>(f.offset,(dn P f.type).getD 0)) w:=hm;rw[hm'];simp only[Xh];have he:(ps.map λ(x:Nat×Operand)=>match x with|(i,x)=>(i,a.eval x)).toList=(ps.map λx=>(x.1,a.eval x.2)).toList:=rfl;rw[he,h1'];rfl
theorem zf{t e:TypeId}{len sz:Nat}{ps:Array (Nat×Operand)}(ho:o.op=.build t ps){i:TypeInfo}{z:Value}{zs:List AV}(ht:P.underlying t=some (.array len e))(hsz:dn P e=some sz)(hi:P.info? t=some i)(hz:i.zero=some z)(hzs:oF z.cells.toList=some zs)
  {parts:List (Nat×Nat×Opd)} (hl:ps.toList.length=parts.length)
  (hp:∀i (h:i<ps.toList.length) (h':i<parts.length),(ps.toList[i].1*sz=parts[i].1/\parts[i].2.1=sz)/\opd ps.toList[i].2=some parts[i].2.2)
  (h:mh s.ev parts zs λcs=>K (s.put o.dst (.agg cs))):OpS P o s K:=by
 have hd:∀c,o.op≠.defer c:=λc e=>by rw[ho] at e;cases e
 obtain⟨ds,hK,hall⟩:=nw parts zs _ h;refine OpS.pure _ hd hK λE G a w hs=>?_
 obtain⟨vs',h1,h2⟩:=hall E G a w hs ps.toList (λi=>some (i*sz,sz)) z.cells hl (λi h h'=>by
  obtain⟨⟨f1,f2⟩,h4⟩:=hp i h h';exact⟨by rw[f1,f2],h4⟩) (by simpa using BA (M:=G.M) (σ:=G.σ) (n:=s.bs.length) hzs)
 refine⟨.agg vs',?_,h2.agg⟩;have h1':Instr.fill (λi=>some (i*sz,sz)) z.cells (ps.map λx=>(x.1,a.eval x.2)).toList=some vs':=by simpa using h1
 unfold execOp;simp only[ho,Instr.build,Xi,zeroValue,typeInfo,run_program,hi,hz,Xh,Xj,run_underlying ht,aJ hsz];have he:(ps.map λ(x:Nat×Operand)=>match x with|(i,x)=>(i,a.eval x)).toList=(ps.map λx=>(x.1,a.eval x.2)).toList:=rfl;rw[he,h1'];rfl
theorem Cu(x:AV):x.norm.cells.length=x.cells.length:=by
 cases x<;>first|rfl|skip
 case agg cs=>simp[AV.norm,AV.cells]
theorem uP{G:Gh}{n sz:Nat}:∀(os:List (Nat×Value)) (xs:List AV) (k:Nat) (cs:Array Value),os.length=xs.length->(∀i (h:i<os.length),os[i].1=k+i)->(∀i (h:i<os.length) (h':i<xs.length),RV G.M G.σ n xs[i] os[i].2/\aV xs[i]=true/\xs[i].flat=true/\xs[i].cells.length=sz)->
  cs.size=(k+xs.length)*sz->∃vs,Instr.fill (λi=>some (i*sz,sz)) cs os=some vs/\vs.size=cs.size/\(∀j,j<k*sz->vs[j]? =cs[j]?)/\∃us,eS G.M sz xs us/\∀(j:Nat) u,us[j]? =some u->vs[k*sz+j]? =some u
 |[],[],k,cs,_,_,_,hs=>⟨cs,rfl,rfl,λ_ _=>rfl,[],eS.nil _ _,λj u h=>by simp at h⟩
 |(i,v)::os,x::xs,k,cs,hl,hi,hx,hs=>by
  have hi0:=hi 0 (by simp)
  simp only[YP,Yi] at hi0;subst hi0;obtain⟨r1,r2,r3,r4⟩:=hx 0 (by simp) (by simp)
  simp only[YP] at r1 r2 r3 r4;obtain⟨c1,c2,c3⟩:=r1.cells r2;have hvs:v.cells.size=sz:=by rw[<-YH,c1,r4]
  have hmul:(i+1)*sz=i*sz+sz:=by rw[YK,XX]
  have hbig:(i+1)*sz<=(i+(xs.length+1))*sz:=YB _ (by omega)
  simp only[ZX] at hs
  obtain⟨vs,h1,h2,h3,us,h4,h5⟩:=uP os xs (i+1) (laid (i*sz) v.cells.toList 0 cs) (by simpa using hl) (λj hj=>by
   have:=hi (j+1) (by simpa using hj)
   simp only[Yj] at this;omega) (λj hj hj'=>by
   have:=hx (j+1) (by simpa using hj) (by simpa using hj')
   simpa using this) (by rw[n4,hs];congr 1;omega)
  refine⟨vs,?_,by rw[h2,n4],λj hj=>?_,v.cells.toList++us,?_,λj u hj=>?_⟩
  .rw [xN (off:=i*sz) (sz:=sz) _ _ _ _ _ rfl hvs (by rw[hvs,hs];omega)]
   exact h1
  .rw [h3 j (by omega),qd,if_neg (by omega)]
  .have hone:eS G.M sz [x] v.cells.toList:=by
    refine⟨by rw[c1,r4];simp,λq hq=>?_⟩
    obtain rfl:q=0:=by simpa using hq
    simp only[YP];refine⟨r4,λj hj=>?_⟩;have hj':j<v.cells.toList.length:=by rw[c1];exact hj
    refine⟨v.cells.toList[j],by simp only[Nat.zero_mul,YG];exact ZA hj',c2 _ (Zc hj'),?_⟩
    have:=c3 j hj _ (ZA hj');have hfv:=r1.Ii r3;have h6:=(RV.flat (σ:=G.σ) (n:=0) hfv).cells r2;have:=h6.2.2 j hj _ (ZA hj');refine this.aU ?_;cases x<;>first|(simp[AV.flat,AV.aU] at r3;done)|skip
    case agg ds=>simp only[AV.flat,ZS] at r3;exact r3 _ (Zc hj)
    all_goals
     simp only[AV.cells,ZX,YO] at hj;obtain rfl:j=0:=by omega
     exact r3
   exact hone.append h4
  .by_cases hjs:j<sz
   .rw [ZK (by rw[c1,r4];exact hjs)] at hj
    rw[h3 _ (by omega),qd,if_pos ⟨by omega,by rw[c1,r4];omega,by rw[hs];omega⟩,show i*sz+j-(i*sz+0)=j by omega]
    exact hj
   .rw [ZZ (by rw[c1,r4];omega),c1,r4] at hj
    have:=h5 _ u hj;rw[show (i+1)*sz+(j-sz)=i*sz+j by omega] at this
    exact this
 |[],_::_,_,_,hl,_,_,_=>by simp at hl
 |_::_,[],_,_,hl,_,_,_=>by simp at hl
def dJ(ev:Opd->AV)(sz:Nat):List Opd->(List AV->Prop)->Prop
 |[],K=>K []
 |o::os,K=>req (aV (ev o)&&((ev o).norm.flat&&Nat.beq (ev o).cells.length sz)) (dJ ev sz os λl=>K ((ev o).norm::l))
theorem oD{s:St}{sz:Nat}:∀{os:List Opd} {K:List AV->Prop},dJ s.ev sz os K->K (os.map λo=>(s.ev o).norm)/\∀o∈os,aV (s.ev o)=true/\(s.ev o).norm.flat=true/\(s.ev o).cells.length=sz
 |[],K,h=>⟨h,λo ho=>by cases ho⟩
 |o::os,K,h=>by
  obtain⟨h1,h2⟩:=ae.1 h;simp only[ZD] at h1;obtain⟨h3,h4⟩:=oD h2;refine⟨h3,λo' ho'=>?_⟩;rcases ZI.1 ho' with rfl|ho'
  .exact ⟨h1.1,h1.2.1,ZO h1.2.2⟩
  .exact h4 o' ho'
theorem II(x:AV)(h:aV x=true):aV x.norm=true:=by
 cases x<;>first|rfl|(simp[aV] at h)
theorem zg{t e:TypeId}{n:Nat}{ps:Array (Nat×Operand)}(ho:o.op=.buildSlice t n ps){i:TypeInfo}{z:Value}{sz:Nat}(ht:P.underlying t=some (.slice e))(hi:P.info? e=some i)(hz:i.zero=some z)(hsz:i.size=sz)(hlim:n*sz<=16777216)(hn:n<=glim)
  {rs:List Opd} (hl:ps.toList.length=rs.length) (hln:rs.length=n) (hp:∀i (h:i<ps.toList.length) (h':i<rs.length),ps.toList[i].1=i/\opd ps.toList[i].2=some rs[i])
  (h:dJ s.ev sz rs λl=>K (s.put o.dst (.sl .full l))):OpS P o s K:=by
 replace hn := glim_le hn
 have hd:∀c,o.op≠.defer c:=λc e=>by rw[ho] at e;cases e
 obtain⟨hK,hall⟩:=oD h;subst hsz;refine OpS.val (.sl .full (rs.map λo=>(s.ev o).norm)) s hd hK λE G a w hs=>?_
 have key:∀cs:Array Value,cs.size=n*i.size->∃vs us,Instr.fill (λj=>some (j*i.size,i.size)) cs (ps.map λx=>(x.1,a.eval x.2)).toList=some vs/\vs.size=n*i.size/\eS G.M i.size (rs.map λo=>(s.ev o).norm) us/\∀(j:Nat) u,us[j]? =some u->vs[j]? =some u:=λcs hcs=>by
  obtain⟨vs,h1,h2,_,us,h4,h5⟩:=uP (G:=G) (n:=s.bs.length) (sz:=i.size) (ps.toList.map λx=>(x.1,a.eval x.2)) (rs.map λo=>(s.ev o).norm) 0 cs (by simpa using hl) (λj hj=>by
   simp only[ZF] at hj;simp only[YA,YG];exact(hp j hj (by omega)).1) (λj hj hj'=>by
   simp only[ZF] at hj hj';simp only[YA];obtain⟨q1,q2,q3⟩:=hall _ (Zc hj');exact⟨(hs.ev (hp j hj hj').2).norm,II _ q1,q2,by rw[Cu];exact q3⟩) (by rw[hcs];simp[hln])
  refine⟨vs,us,by simpa using h1,by rw[h2,hcs],h4,λj u hj=>?_⟩
  have:=h5 j u hj
  rwa [Nat.zero_mul,YG] at this
 have hsize:∀zs:Array Value,((Array.range (n*i.size)).map λj=>zs[j %zs.size]!).size=n*i.size:=λzs=>by simp
 obtain⟨vs,us,h1,h2,h3,h4⟩:=key ((Array.range (n*i.size)).map λj=>(if n*i.size=0 then #[] else z.cells)[j %(if n*i.size=0 then #[] else z.cells).size]!) (hsize _);have hr:=hs.newRow vs e us h4;refine⟨.slice (some ⟨w.heap.size,0,none⟩) n n,_,_,?_,hr,?_⟩
 .have he:(ps.map λ(x:Nat×Operand)=>match x with|(i,x)=>(i,a.eval x)).toList=(ps.map λx=>(x.1,a.eval x.2)).toList:=rfl;have hlim':¬(n*i.size>2^24):=by omega
  unfold execOp;simp only[ho,Instr.buildSlice,Xi,run_underlying ht,Xh,sizeOf,typeInfo,run_program,hi,Xj,if_neg hlim']
  by_cases h0:n*i.size=0
  .simp only[h0,if_true] at h1|-;simp only[Xi,Xj,Xh];rw[he,h1];rfl
  .simp only[h0,if_false] at h1|-;simp only[Xi,zeroValue,typeInfo,run_program,hi,hz,Xj,Xh];rw[he,h1];rfl
 .have hlen:(rs.map λo=>(s.ev o).norm).length=n:=by simp[hln]
  have:=FV.iT (M:=bc G.M w.heap.size 0 us) (o:=.full) (l:=rs.map λo=>(s.ev o).norm) (a:=some ⟨w.heap.size,0,none⟩) (k:=n) (B:=w.heap.size) (off:=0) (sz:=i.size) (by simp) (by omega) (by omega) (λ_=>hlen.symm) (λ_=>rfl)
   (h3.elems (db λo _=>hs.noM o) λj u hj=>fD hj)
  have e9:Value.slice (some ⟨w.heap.size,0,none⟩) (rs.map λo=>(s.ev o).norm).length n=.slice (some ⟨w.heap.size,0,none⟩) n n:=by rw[hlen]
  exact .flat (e9▸this)
theorem wrap_i64{n:Int}(h1:0<=n)(h2:n<=9223372036854775807):IntKind.i64.wrap n=n:=by
 exact IntWalk.i64_in n (by omega)
def mkK(sz:Nat)(z:AV)(l c:AV)(K:AV->Prop):Prop:=
 match l,c with
 |.int _ n,.int _ m=>(0<=n/\n<=m/\m<=4294967296)/\K (.sl (.own sz) (List.replicate n.toNat z))
 |_,_=>False
theorem fG{M:Hp}{x:AV}{v:Value}(hx:dF v=some x)(hok:aV x=true)(hflat:x.flat=true){sz:Nat}(hsz:v.cells.size=sz)(n m:Nat)(hnm:n<=m):
  ∃us,eS M sz (List.replicate n x) us/\∀(j:Nat) u,us[j]? =some u->((Array.range (m*sz)).map λj=>v.cells[j %v.cells.size]!)[j]? =some u:=by
 have hfv:FV M x v:=gq hx;obtain⟨c1,c2,c3⟩:=(RV.flat (σ:=λ_=>0) (n:=0) hfv).cells hok;have hxl:x.cells.length=sz:=by rw[<-c1,YH,hsz]
 have hle:n*sz<=m*sz:=YB _ hnm;refine⟨(List.range (n*sz)).map λj=>v.cells[j %v.cells.size]!,⟨by simp,λi hi=>?_⟩,λj u hj=>?_⟩
 .simp only[Zf] at hi;rw[XC];refine⟨hxl,λj hj=>?_⟩;have hj':j<v.cells.toList.length:=by rw[c1];exact hj
  have hjs:j<sz:=by omega
  have hmul:(i+1)*sz<=n*sz:=YB _ hi;rw[YK,XX] at hmul;refine⟨v.cells.toList[j],?_,c2 _ (Zc hj'),?_⟩
  .have hmod:(i*sz+j) %sz=j:=by rw[Xa,Nat.mul_add_mod,Nat.mod_eq_of_lt hjs]
   have hjv:j<v.cells.size:=by omega
   simp[List.getElem?_range (show i*sz+j<n*sz by omega),hsz,hmod]
   exact getElem!_pos v.cells j hjv
  .have h6:=c3 j hj _ (ZA hj');refine h6.aU ?_;cases x<;>first|(simp[AV.flat,AV.aU] at hflat;done)|skip
   case agg ds=>simp only[AV.flat,ZS] at hflat;exact hflat _ (Zc hj)
   all_goals
    simp only[AV.cells,ZX,YO] at hj;obtain rfl:j=0:=by omega
    exact hflat
 .have hj':j<n*sz:=by
   rcases Zs j (n*sz) with h1|h1
   .exact h1
   .rw [ZR (by simpa using h1)] at hj;cases hj
  have hjm:j<m*sz:=by omega
  simp only[YD,List.getElem?_range hj',ZM] at hj;rw[<-hj];simp[hjm]
theorem GU{t e d:Nat}{lo co:Operand}(ho:o.op=.makeSlice t lo co)(hdst:o.dst=some d){i:TypeInfo}{z:Value}{x:AV}{sz:Nat}(ht:P.underlying t=some (.slice e))(hi:P.info? e=some i)(hz:i.zero=some z)(hsz:i.size=sz)(hzs:z.cells.size=sz)(hb:i.bytes<=4096)
  (hx:dF z=some x) (hok:aV x=true) (hflat:x.flat=true) {rl rc:Opd} (hl:opd lo=some rl) (hc:opd co=some rc) (h:mkK sz x (s.ev rl) (s.ev rc) λr=>K (s.put o.dst r)):OpS P o s K:=by
 have hd:∀c,o.op≠.defer c:=λc e=>by rw[ho] at e;cases e
 unfold mkK at h;split at h
 .rename_i kl n kc m hle hce;obtain⟨⟨h0,h1,h2⟩,hK⟩:=h;rw[hdst] at hK;intro E G a w rd nn next Q hs hdlt hnext
  have hlv:=hs.ev hl;rw[hle] at hlv;have hcv:=hs.ev hc;rw[hce] at hcv;obtain⟨us,r1,r2⟩:=fG (M:=G.M) hx hok hflat hzs n.toNat m.toNat (by omega)
  have hr:=hs.newRow ((Array.range (m.toNat*sz)).map λj=>z.cells[j %z.cells.size]!) e us r2
  have hrun:(execOp a.eval o).run P w=.ok (.value (.slice (some ⟨w.heap.size,0,none⟩) n.toNat m.toNat)) (w.alloc (.cells ((Array.range (m.toNat*sz)).map λj=>z.cells[j %z.cells.size]!) e)):=by
   have hbm:(i.bytes:Int)*m<=281474976710656:=by
    have h4:(i.bytes:Int)<=4096:=by omega
    have:(i.bytes:Int)*m<=4096*4294967296:=Int.mul_le_mul h4 h2 (by omega) (by omega)
    omega
   have ha:IntKind.i64.wrap n=n:=wrap_i64 h0 (by omega)
   have hb':IntKind.i64.wrap m=m:=wrap_i64 (by omega) (by omega)
   have hm0:¬m<0:=by omega
   have hn0:¬n<0:=by omega
   have hnm:¬m<n:=by omega
   have hbm':¬281474976710656<(i.bytes:Int)*m:=by omega
   subst hsz;unfold execOp
   by_cases h5:m.toNat*i.size=0
   .simp [ho,Instr.makeSlice,run_underlying ht,hlv.aC,hcv.aC,asInt,asIntOf,typeInfo,hi,ha,hb',hm0,hn0,hnm,hbm',sizeOf,h5,newRow];rw[show Array.range 0=#[] from rfl];simp
   .simp [ho,Instr.makeSlice,run_underlying ht,hlv.aC,hcv.aC,asInt,asIntOf,typeInfo,hi,ha,hb',hm0,hn0,hnm,hbm',sizeOf,newRow,zeroValue,hz];exact λh6=>absurd h6 h5
  have hsv:SV (bc G.M w.heap.size 0 us) (List.replicate n.toNat x) sz (.slice (some ⟨w.heap.size,0,none⟩) n.toNat m.toNat) (some ⟨w.heap.size,0,none⟩) m.toNat w.heap.size 0:=by
   refine⟨by simp,by simp;omega,by simp;first|(unfold glim;omega)|(unfold lim;omega),λ_=>rfl,?_⟩
   exact r1.elems (db λo _=>hs.noM o) λj u hj=>fD hj
  have hroom:Room E {G with M:=bc G.M w.heap.size 0 us} s (w.alloc (.cells ((Array.range (m.toNat*sz)).map λj=>z.cells[j %z.cells.size]!) e)) (some ⟨w.heap.size,0,none⟩) sz (List.replicate n.toNat x).length m.toNat:=by
   by_cases hlt:n.toNat<m.toNat
   .refine .inr ⟨w.heap.size,.bx s.bs.length 0,rfl,⟨⟨by simpa using hlt,⟨_,e,heap_alloc_new _ _,by simp⟩,λq hq=>?_,.inr hs.fr.size⟩,λq hq=>?_,λb cs hb e=>?_,by simp,λz l e=>?_⟩⟩
    .simp only[Zf] at hq;simp only[bc]
     rw[if_neg (λe=>by
      have h1:=e.2.2;have h2:=r1.1;simp only[Zf] at h2;omega)]
     exact hs.noM q
    .exact absurd (hs.cllt q _ hq).1 (by omega)
    .exact absurd (hs.blt hb) (by have e':G.σ b=w.heap.size:=e;omega)
    .simp [St.at,aa] at e
   .exact .inl (by simp;omega)
  obtain⟨G',h3⟩:=hr.Ch (hdlt d hdst) hsv hroom;refine⟨λ_ _=>trivial,?_⟩;rw[Oper.semAt_eq _ _ _ hd,hrun];show next (a.put o.dst _) _
  rw[hdst];exact hnext _ G' _ _ hK h3 rfl
 .exact h.elim
def evs(ev:Opd->AV):List Opd->List AV
 |[]=>[]
 |o::os=>ev o::evs ev os
theorem uU(ev:Opd->AV):∀os:List Opd,(evs ev os).length=os.length
 |[]=>rfl
 |_::os=>by simp[evs,uU ev os]
theorem DW(ev:Opd->AV):∀(os:List Opd) (i:Nat),(evs ev os)[i]? =(os[i]?).map ev
 |[],_=>rfl
 |_::_,0=>rfl
 |_::os,i+1=>by simpa[evs] using DW ev os i
theorem RS.evs{E:Entry}{G:Gh}{a:Act}{w:World}(hs:RS E G s a w){os:List Operand}{rs:List Opd}(h:bd os=some rs):
  (os.map a.eval).length=(evs s.ev rs).length/\∀j (hj:j<(AM.evs s.ev rs).length) v,(os.map a.eval)[j]? =some v->RV G.M G.σ s.bs.length ((AM.evs s.ev rs)[j]) v:=by
 obtain⟨h1,h2⟩:=Af h;refine⟨by simp[uU,h1],λj hj v hv=>?_⟩
 rw[YD] at hv
 cases ho:os[j]? with
 |none=>rw[ho] at hv;cases hv
 |some o'=>
  rw[ho] at hv;cases hv;obtain⟨r,hr,hr2⟩:=h2 j o' ho;have:=DW s.ev rs j;rw[hr,ZA hj] at this;simp only[ZM,ZN] at this;rw[this];exact hs.ev hr2
theorem Cx{f:Fn}{first caps:Array Operand}(ho:o.op=.makeFunc f first caps){r1 r2:List Opd}(h1:bd first.toList=some r1)(h2:bd caps.toList=some r2)(h:K (s.put o.dst (.fn f (evs s.ev r1) (evs s.ev r2)))):OpS P o s K:=by
 have hd:∀c,o.op≠.defer c:=λc e=>by rw[ho] at e;cases e
 refine OpS.pure _ hd h λE G a w hs=>?_;obtain⟨a1,a2⟩:=hs.evs h1;obtain⟨b1,b2⟩:=hs.evs h2;refine⟨.func f (first.toList.map a.eval).toArray (caps.toList.map a.eval).toArray,?_,.fn f _ _ _ _ a1 b1 a2 b2⟩
 unfold execOp;simp[ho,Instr.makeFunc];constructor<;>(apply Array.ext';simp)
def mmK(mx:Bool)(x y:AV)(K:AV->Prop):Prop:=
 match x,y with
 |.int k a,.int k' b=>req (decide (k=k')) (K (.int k (if mx then max a b else min a b)))
 |_,_=>False
theorem Aq{x y:Operand}{ts:Array TypeId}{mx:Bool}(ho:o.op=.call {callee:=.builtin (if mx then .max else .min),args:=#[x,y],argTypes:=ts}){rx ry:Opd}(hx:opd x=some rx)(hy:opd y=some ry)
  (h:mmK mx (s.ev rx) (s.ev ry) λr=>K (s.put o.dst r)):OpS P o s K:=by
 have hd:∀c,o.op≠.defer c:=λc e=>by rw[ho] at e;cases e
 unfold mmK at h;split at h
 .rename_i k a k' b hxe hye;obtain⟨h1,h2⟩:=ae.1 h;have h1:=of_decide_eq_true h1;subst h1;refine OpS.pure _ hd h2 λE G a' w hs=>⟨_,?_,.flat (.int _ _)⟩;have hxv:=hs.ev hx;rw[hxe] at hxv;have hyv:=hs.ev hy;rw[hye] at hyv;unfold execOp
  cases mx with
  |true=>
   have:(if b>a then b else a)=max a b:=by omega
   simp[ho,resolve,invoke,builtin,Builtin.max_,Builtin.max2,hxv.aC,hyv.aC,<-this]
  |false=>
   have:(if b<a then b else a)=min a b:=by omega
   simp[ho,resolve,invoke,builtin,Builtin.min_,Builtin.min2,hxv.aC,hyv.aC,<-this]
 .exact h.elim
def xJ(len sz:Nat)(x i:AV)(K:AV->Prop):Prop:=
 match i with
 |.int _ n=>req (AO x) ((0<=n/\n<(len:Int))/\K (s7 (n.toNat*sz) x))
 |_=>False
theorem CO{x i:Operand}{t e len:Nat}(ho:o.op=.indexAddr t x i){rx ri:Opd}(hx:opd x=some rx)(hi:opd i=some ri){sz:Nat}(ht:P.underlying t=some (.array len e))(hsz:dn P e=some sz)
  (h:xJ len sz (s.ev rx) (s.ev ri) λr=>K (s.put o.dst r)):OpS P o s K:=by
 have hd:∀c,o.op≠.defer c:=λc e=>by rw[ho] at e;cases e
 unfold xJ at h;split at h
 .rename_i k n hie;obtain⟨h1,⟨h2,h3⟩,h4⟩:=ae.1 h;refine OpS.pure _ hd h4 λE G a w hs=>?_;obtain⟨B,f,hv,hr⟩:=uf (off:=n.toNat*sz) (hs.ev hx) h1;have hiv:=hs.ev hi;rw[hie] at hiv;refine⟨_,?_,hr⟩;unfold execOp;simp[ho,Instr.indexAt,hiv.aC,asIntOf,run_underlying ht,hv,Instr.sureAddr,h2,h3,aJ hsz,bQ]
 .exact h.elim
def AS(agg:Bool)(len sz:Nat)(x i:AV)(K:AV->Prop):Prop:=
 match x,i with
 |.agg cs,.int _ n=>(0<=n/\n<(len:Int))/\(match agg with
  |true=>req (Nat.ble (n.toNat*sz+sz) cs.length) (K (.agg ((cs.drop (n.toNat*sz)).take sz)))
  |false=>∃c,cs[n.toNat]? =some c/\K c)
 |_,_=>False
theorem CM{x i:Operand}{t e len:Nat}(ho:o.op=.index t x i){rx ri:Opd}(hx:opd x=some rx)(hi:opd i=some ri){sz:Nat}{agg:Bool}(ht:P.underlying t=some (.array len e))(hsz:dn P e=some sz)(ha:nM P e=some agg)(h1:agg=false->sz=1)
  (h:AS agg len sz (s.ev rx) (s.ev ri) λr=>K (s.put o.dst r)):OpS P o s K:=by
 have hd:∀c,o.op≠.defer c:=λc e=>by rw[ho] at e;cases e
 unfold AS at h;split at h
 .rename_i cs k n hxe hie;obtain⟨⟨h2,h3⟩,h⟩:=h;split at h
  .obtain ⟨h4,h5⟩:=ae.1 h;have hle:=Zr h4;refine OpS.pure _ hd h5 λE G a w hs=>?_;have hxv:=hs.ev hx;rw[hxe] at hxv;have hiv:=hs.ev hi;rw[hie] at hiv;obtain⟨vs,hv,hl,hone,hr⟩:=hxv.eA;refine⟨.agg ((vs.drop (n.toNat*sz)).take sz).toArray,?_,.agg _ _ ?_ (λv hv=>hone v (List.mem_of_mem_drop (List.mem_of_mem_take hv))) (λj hj v hjv=>?_)⟩
   .unfold execOp;simp[ho,Instr.index,run_underlying ht,hv,hiv.aC,asIntOf,h2,h3,part,dk ha,aJ hsz,List.extract_eq_take_drop]
   .simp [hl]
   .simp only[Zn,Yf] at hj;rw[Yv,XI];rw[Yc,if_pos (by omega),List.getElem?_drop] at hjv
    exact hr _ (by omega) v hjv
  .obtain ⟨c,hc,h5⟩:=h;have h6:=h1 rfl;subst h6;refine OpS.pure _ hd h5 λE G a w hs=>?_;have hxv:=hs.ev hx;rw[hxe] at hxv;have hiv:=hs.ev hi;rw[hie] at hiv;obtain⟨vs,hv,hl,hone,hr⟩:=hxv.eA
   have hlt:n.toNat<cs.length:=by
    rcases Zs n.toNat cs.length with h1|h1
    .exact h1
    .rw [ZR h1] at hc;cases hc
   rw[ZA hlt] at hc;cases hc;have hv2:vs[n.toNat]? =some (vs[n.toNat]'(by omega)):=ZA _
   refine⟨_,?_,hr _ hlt _ hv2⟩;unfold execOp;simp[ho,Instr.index,run_underlying ht,hv,hiv.aC,asIntOf,h2,h3,part,dk ha,aJ hsz,hv2]
 .exact h.elim
def bnd(o:Option AV)(dflt:Int)(K:Int->Prop):Prop:=
 match o with
 |none=>K dflt
 |some (.int _ n)=>K n
 |some _=>False
def B6(sz:Nat)(x:AV)(lo hi mx:Option AV)(K:AV->Prop):Prop:=
 match x with
 |.sl _ l=>bnd lo 0 λa=>bnd hi l.length λb=>match mx with
  |none=>((∀y∈l,y.cells.length=sz)/\0<=a/\a<=b/\b<=l.length)/\K (.sl .no ((l.take b.toNat).drop a.toNat))
  |some _=>bnd mx 0 λm=>((∀y∈l,y.cells.length=sz)/\0<=a/\a<=b/\b=m/\m<=l.length)/\K (.sl .full ((l.take b.toNat).drop a.toNat))
 |.bsl b m k=>bnd lo 0 λa=>bnd hi m λc=>match mx with
  |none=>(a=0/\0<=c/\c<=k/\c<=4294967296)/\K (.bsl b c.toNat k)
  |some _=>bnd mx 0 λq=>(a=0/\0<=c/\c<=q/\q<=k/\c<=4294967296)/\K (.bsl b c.toNat q.toNat)
 |_=>False
def zF(x:AV)(lo hi:Option AV)(K:AV->Prop):Prop:=
 match x with
 |.str t=>bnd lo 0 λa=>bnd hi t.size λb=>(0<=a/\a<=b/\b<=t.size)/\K (.str (t.extract a.toNat b.toNat))
 |_=>False
def lG:Option Operand->Option (Option Opd)
 |none=>some none
 |some o=>match opd o with
  |some r=>some (some r)
  |none=>none
theorem jf{E:Entry}{G:Gh}{a:Act}{w:World}(hs:RS E G s a w){o':Option Operand}{r:Option Opd}(ho:lG o'=some r){d:Int}{K:Int->Prop}(h:bnd (r.map s.ev) d K):
  ∃n,K n/\((o'=none/\n=d)\/∃x k,o'=some x/\a.eval x=.int k n):=by
 cases o' with
 |none=>
  cases ho
  exact⟨d,h,.inl ⟨rfl,rfl⟩⟩
 |some x=>
  simp only[lG] at ho;split at ho
  .rename_i rx hx;cases ho;unfold bnd at h;simp only[ZM] at h;split at h
   .rename_i heq;cases heq
   .rename_i k n heq;have hv:=hs.ev hx;simp only[ZN] at heq;rw[heq] at hv;exact⟨n,h,.inr ⟨x,k,rfl,hv.aC⟩⟩
   .exact h.elim
  .cases ho
theorem nB{M:Hp}{B off sz:Nat}{l:List AV}(h:fO M B off sz l)(a b:Nat)(hb:b<=l.length):fO M B (off+a*sz) sz ((l.take b).drop a):=λi hi=>by
 simp only[Yf,Zn] at hi;rw[XI,Yv];obtain⟨h1,h2⟩:=h (a+i) (by omega)
 refine⟨h1,?_⟩;rw[Yo,<-YK];exact h2
theorem bT{o:Option AV}{d:Int}{K K':Int->Prop}(hk:∀n,K n->K' n)(h:bnd o d K):bnd o d K':=by
 unfold bnd at h|-;split at h<;>first|exact hk _ h|exact h
theorem dp{o:Option AV}{d:Int}{K:Int->Prop}(h:bnd o d K):∃n,(∀K':Int->Prop,K' n->bnd o d K')/\K n:=by
 unfold bnd at h|-;split at h
 .exact ⟨_,λK' hk=>hk,h⟩
 .exact ⟨_,λK' hk=>hk,h⟩
 .exact h.elim
theorem Ey{x:Operand}{t e:Nat}{lo hi mx:Option Operand}(ho:o.op=.slice t x lo hi mx){rx:Opd}{rl rh rm:Option Opd}(hx:opd x=some rx)(hlo:lG lo=some rl)(hhi:lG hi=some rh)(hmx:lG mx=some rm){sz:Nat}(ht:P.underlying t=some (.slice e))(hsz:dn P e=some sz)(hmh:mx.isSome=true->hi.isSome=true)
  (h:B6 sz (s.ev rx) (rl.map s.ev) (rh.map s.ev) (rm.map s.ev) λr=>K (s.put o.dst r)):OpS P o s K:=by
 have hd:∀c,o.op≠.defer c:=λc e=>by rw[ho] at e;cases e
 unfold B6 at h;split at h
 .rename_i oc l hxe;obtain⟨na,ka,h⟩:=dp h;obtain⟨nb,kb,h⟩:=dp h
  have hrunlo:∀E G a w,RS E G s a w->(lo=none/\na=0)\/∃x k,lo=some x/\a.eval x=.int k na:=λE G a w hs=>by
   obtain⟨n,hn,hr⟩:=jf hs hlo (ka (λn=>n=na) rfl);subst hn;exact hr
  have hrunhi:∀E G a w,RS E G s a w->(hi=none/\nb=(l.length:Int))\/∃x k,hi=some x/\a.eval x=.int k nb:=λE G a w hs=>by
   obtain⟨n,hn,hr⟩:=jf hs hhi (kb (λn=>n=nb) rfl);subst hn;exact hr
  cases hrm:rm.map s.ev with
  |none=>
   rw[hrm] at h;obtain⟨⟨h1,h2,h3,h4⟩,h5⟩:=h
   have hmn:mx=none:=by
    cases mx with
    |none=>rfl
    |some q=>
     simp only[lG] at hmx;split at hmx
     .cases hmx;cases hrm
     .cases hmx
   refine OpS.pure _ hd h5 λE G a w hs=>?_;have hxv:=hs.ev hx;rw[hxe] at hxv;obtain⟨ad,cap,B,off,hsv⟩:=hxv.sv h1;have hcap:=hsv.cap;have hlen:((l.take nb.toNat).drop na.toNat).length=nb.toNat-na.toNat:=by simp;omega
   refine⟨.slice (if cap=na.toNat then ad else ad.map (·.add (na.toNat*sz))) (nb.toNat-na.toNat) (cap-na.toNat),?_,?_⟩
   .have e1:(Instr.sliceBounds true l.length cap (lo.map a.eval) (hi.map a.eval) none).run P w=.ok (na.toNat,nb.toNat,cap) w:=by
     unfold Instr.sliceBounds;rcases hrunlo E G a w hs with ⟨q1,q2⟩|⟨xl,kl,q1,q2⟩<;>rcases hrunhi E G a w hs with ⟨p1,p2⟩|⟨xh,kh,p1,p2⟩<;>subst q1 p1
     .subst q2 p2;simp
     .subst q2;have:0<=nb/\nb<=(cap:Int):=by omega
      simp[p2,Instr.sliceBound,asIntOf,this]
     .subst p2;have:0<=na/\na<=(l.length:Int):=by omega
      simp[q2,Instr.sliceBound,asIntOf,this]
     .have h8:0<=nb/\nb<=(cap:Int):=by omega
      have h9:0<=na/\na<=((nb.toNat:Nat):Int):=by omega
      simp only[ZM,Xi,Xj,Xh,Instr.sliceBound,p2,q2,asIntOf,if_pos h8,XD,if_pos h9]
    unfold execOp;simp only[ho,Instr.sliceAt,Xi,run_underlying ht,Xh,hsv.eq,Instr.slice,hmn,XU,e1,aJ hsz,Xj]
   .rw [<-hlen];refine .flat (FV.iT (B:=B) (off:=off+na.toNat*sz) (sz:=sz) (by simp) (by rw[hlen];omega) (by rw[hlen];have:=hsv.len;omega) (by simp) (λhne=>?_) (nB hsv.el _ _ (by omega)))
    have hpos:0<((l.take nb.toNat).drop na.toNat).length:=List.length_pos_iff.2 hne;rw[hlen] at hpos;have hl0:l≠[]:=λe=>by subst e;simp at h4;omega
    rw[if_neg (by omega),hsv.at_ hl0]
    simp[bQ]
  |some m=>
   rw[hrm] at h;obtain⟨nm,km,⟨h1,h2,h3,h4,h6⟩,h5⟩:=dp h
   have hrunmx:∀E G a w,RS E G s a w->(mx=none/\nm=0)\/∃x k,mx=some x/\a.eval x=.int k nm:=λE G a w hs=>by
    obtain⟨n,hn,hr⟩:=jf hs hmx (by rw[hrm];exact km (λn=>n=nm) rfl)
    subst hn;exact hr
   refine OpS.pure _ hd h5 λE G a w hs=>?_;have hxv:=hs.ev hx;rw[hxe] at hxv;obtain⟨ad,cap,B,off,hsv⟩:=hxv.sv h1;have hcap:=hsv.cap;have hlen:((l.take nb.toNat).drop na.toNat).length=nb.toNat-na.toNat:=by simp;omega
   subst h4;refine⟨.slice (if nb.toNat=na.toNat then ad else ad.map (·.add (na.toNat*sz))) (nb.toNat-na.toNat) (nb.toNat-na.toNat),?_,?_⟩
   .rcases hrunmx E G a w hs with ⟨q0,q1⟩|⟨xm,kkm,r1,r2⟩
    .subst q0;cases hmx;cases hrm
    .rcases hrunhi E G a w hs with ⟨p1,_⟩|⟨xh,kh,p1,p2⟩
     .subst p1 r1;simp at hmh
     .have h8:0<=nb/\nb<=(cap:Int):=by omega
      have h9:0<=nb/\nb<=((nb.toNat:Nat):Int):=by omega
      have e1:(Instr.sliceBounds true l.length cap (lo.map a.eval) (hi.map a.eval) (mx.map a.eval)).run P w=.ok (na.toNat,nb.toNat,nb.toNat) w:=by
       unfold Instr.sliceBounds;rcases hrunlo E G a w hs with ⟨q1,q2⟩|⟨xl,kl,q1,q2⟩<;>subst q1 p1 r1
       .subst q2;simp only[ZM,XU,Xi,Xj,Xh,Instr.sliceBound,p2,r2,asIntOf,if_pos h8,if_pos h9];rfl
       .have h10:0<=na/\na<=((nb.toNat:Nat):Int):=by omega
        simp only[ZM,Xi,Xj,Xh,Instr.sliceBound,p2,q2,r2,asIntOf,if_pos h8,if_pos h9,if_pos h10]
      unfold execOp;simp only[ho,Instr.sliceAt,Xi,run_underlying ht,Xh,hsv.eq,Instr.slice,e1,aJ hsz,Xj]
   .rw [<-hlen];refine .flat (FV.iT (B:=B) (off:=off+na.toNat*sz) (sz:=sz) (by simp) (ZG _) (by rw[hlen];have:=hsv.len;omega) (λ_=>rfl) (λhne=>?_) (nB hsv.el _ _ (by omega)))
    have hpos:0<((l.take nb.toNat).drop na.toNat).length:=List.length_pos_iff.2 hne;rw[hlen] at hpos;have hl0:l≠[]:=λe=>by subst e;simp at h6;omega
    rw[if_neg (by omega),hsv.at_ hl0]
    simp[bQ]
 .rename_i bb m k hxe;obtain⟨na,ka,h⟩:=dp h;obtain⟨nb,kb,h⟩:=dp h
  have hrunlo:∀E G a w,RS E G s a w->(lo=none/\na=0)\/∃x k,lo=some x/\a.eval x=.int k na:=λE G a w hs=>by
   obtain⟨n,hn,hr⟩:=jf hs hlo (ka (λn=>n=na) rfl);subst hn;exact hr
  have hrunhi:∀E G a w,RS E G s a w->(hi=none/\nb=(m:Int))\/∃x k,hi=some x/\a.eval x=.int k nb:=λE G a w hs=>by
   obtain⟨n,hn,hr⟩:=jf hs hhi (kb (λn=>n=nb) rfl);subst hn;exact hr
  cases hrm:rm.map s.ev with
  |some q=>
   rw[hrm] at h;obtain⟨nm,km,⟨h1,h2,h3,h4,h6⟩,h5⟩:=dp h;subst h1
   have hrunmx:∀E G a w,RS E G s a w->(mx=none/\nm=0)\/∃x k,mx=some x/\a.eval x=.int k nm:=λE G a w hs=>by
    obtain⟨n,hn,hr⟩:=jf hs hmx (by rw[hrm];exact km (λn=>n=nm) rfl)
    subst hn;exact hr
   refine OpS.pure _ hd h5 λE G a w hs=>?_;have hxv:=hs.ev hx;rw[hxe] at hxv;obtain⟨ad,hv,hb,hmk,hml,had⟩:=hxv.dH;refine⟨.slice (if nm.toNat=0 then ad else ad.map (·.add (0*sz))) (nb.toNat-0) (nm.toNat-0),?_,?_⟩
   .rcases hrunmx E G a w hs with ⟨q0,q1⟩|⟨xm,kkm,r1,r2⟩
    .subst q0;cases hmx;cases hrm
    .rcases hrunhi E G a w hs with ⟨p1,_⟩|⟨xh,kh,p1,p2⟩
     .subst p1 r1;simp at hmh
     .have h8:0<=nm/\nm<=(k:Int):=by omega
      have h9:0<=nb/\nb<=((nm.toNat:Nat):Int):=by omega
      have e1:(Instr.sliceBounds true m k (lo.map a.eval) (hi.map a.eval) (mx.map a.eval)).run P w=.ok (0,nb.toNat,nm.toNat) w:=by
       unfold Instr.sliceBounds;rcases hrunlo E G a w hs with ⟨q1,q2⟩|⟨xl,kl,q1,q2⟩<;>subst q1 p1 r1
       .simp only[ZM,XU,Xi,Xj,Xh,Instr.sliceBound,p2,r2,asIntOf,if_pos h8,if_pos h9]
       .have h10:(0:Int)<=0/\(0:Int)<=((nb.toNat:Nat):Int):=by omega
        simp only[ZM,Xi,Xj,Xh,Instr.sliceBound,p2,q2,r2,asIntOf,if_pos h8,if_pos h9,if_pos h10];rfl
      unfold execOp;simp only[ho,Instr.sliceAt,Xi,run_underlying ht,Xh,hv,Instr.slice,e1,aJ hsz,Xj]
   .refine .bsl _ _ _ _ hb (by omega) (by first|(unfold glim;omega)|(unfold lim;omega)) λhk=>?_
    have hk':k≠0:=by omega
    rw[if_neg (by omega),had hk']
    simp[bQ]
  |none=>
   rw[hrm] at h;obtain⟨⟨h1,h2,h3,h4⟩,h5⟩:=h;subst h1
   have hmn:mx=none:=by
    cases mx with
    |none=>rfl
    |some q=>
     simp only[lG] at hmx;split at hmx
     .cases hmx;cases hrm
     .cases hmx
   refine OpS.pure _ hd h5 λE G a w hs=>?_;have hxv:=hs.ev hx;rw[hxe] at hxv;obtain⟨ad,hv,hb,hmk,hml,had⟩:=hxv.dH
   have e1:(Instr.sliceBounds true m k (lo.map a.eval) (hi.map a.eval) none).run P w=.ok (0,nb.toNat,k) w:=by
    unfold Instr.sliceBounds;rcases hrunlo E G a w hs with ⟨q1,q2⟩|⟨xl,kl,q1,q2⟩<;>rcases hrunhi E G a w hs with ⟨p1,p2⟩|⟨xh,kh,p1,p2⟩<;>subst q1 p1
    .subst p2;simp
    .have:0<=nb/\nb<=(k:Int):=by omega
     simp[p2,Instr.sliceBound,asIntOf,this]
    .subst p2;simp[q2,Instr.sliceBound,asIntOf]
    .have h8:0<=nb/\nb<=(k:Int):=by omega
     have h9:(0:Int)<=0/\(0:Int)<=((nb.toNat:Nat):Int):=by omega
     simp only[ZM,Xi,Xj,Xh,Instr.sliceBound,p2,q2,asIntOf,if_pos h8,XD,if_pos h9];rfl
   refine⟨.slice (if k=0 then ad else ad.map (·.add (0*sz))) (nb.toNat-0) (k-0),?_,?_⟩
   .unfold execOp;simp only[ho,Instr.sliceAt,Xi,run_underlying ht,Xh,hv,Instr.slice,hmn,XU,e1,aJ hsz,Xj]
   .refine .bsl _ _ _ _ hb (by omega) (by first|(unfold glim;omega)|(unfold lim;omega)) λhk=>?_
    rw[if_neg hk,had hk];simp[bQ]
 .exact h.elim
theorem B5{x:Operand}{t:Nat}{lo hi:Option Operand}(ho:o.op=.slice t x lo hi none){rx:Opd}{rl rh:Option Opd}(hx:opd x=some rx)(hlo:lG lo=some rl)(hhi:lG hi=some rh)(ht:P.underlying t=some .string)
  (h:zF (s.ev rx) (rl.map s.ev) (rh.map s.ev) λr=>K (s.put o.dst r)):OpS P o s K:=by
 have hd:∀c,o.op≠.defer c:=λc e=>by rw[ho] at e;cases e
 unfold zF at h;split at h
 .rename_i t hxe;obtain⟨na,ka,h⟩:=dp h;obtain⟨nb,kb,h⟩:=dp h;obtain⟨⟨h2,h3,h4⟩,h5⟩:=h;refine OpS.pure _ hd h5 λE G a w hs=>?_;have hxv:=hs.ev hx;rw[hxe] at hxv;obtain⟨hv,hsz⟩:=hxv.dG
  have hl:(lo=none/\na=0)\/∃x k,lo=some x/\a.eval x=.int k na:=by
   obtain⟨n,hn,hr⟩:=jf hs hlo (ka (λn=>n=na) rfl);subst hn;exact hr
  have hh:(hi=none/\nb=(t.size:Int))\/∃x k,hi=some x/\a.eval x=.int k nb:=by
   obtain⟨n,hn,hr⟩:=jf hs hhi (kb (λn=>n=nb) rfl);subst hn;exact hr
  refine⟨.string (t.extract na.toNat nb.toNat),?_,.flat (.str _ ?_)⟩
  .have e1:(Instr.sliceBounds false t.size t.size (lo.map a.eval) (hi.map a.eval) none).run P w=.ok (na.toNat,nb.toNat,t.size) w:=by
    unfold Instr.sliceBounds;rcases hl with ⟨q1,q2⟩|⟨xl,kl,q1,q2⟩<;>rcases hh with ⟨p1,p2⟩|⟨xh,kh,p1,p2⟩<;>subst q1 p1
    .subst q2 p2;simp
    .subst q2;have:0<=nb/\nb<=(t.size:Int):=by omega
     simp[p2,Instr.sliceBound,asIntOf,this]
    .subst p2;have:0<=na/\na<=(t.size:Int):=by omega
     simp[q2,Instr.sliceBound,asIntOf,this]
    .have h8:0<=nb/\nb<=(t.size:Int):=by omega
     have h9:0<=na/\na<=((nb.toNat:Nat):Int):=by omega
     simp only[ZM,Xi,Xj,Xh,Instr.sliceBound,p2,q2,asIntOf,if_pos h8,XD,if_pos h9]
   unfold execOp;simp only[ho,Instr.sliceAt,Xi,run_underlying ht,Xh,hv,Instr.slice,XU,XD,YZ,if_false,e1,Xj]
  .rw [ByteArray.size_extract];omega
 .exact h.elim
end
end Go.AM
