/-
  By an AI agent.
-/
import Derived.Test.YtcjfkbdbcgmomaaGreatDoorQad
import Derived.IntWalk
set_option linter.unusedSimpArgs false
set_option linter.unusedVariables false
namespace Go.AM
open Go.CK Go.RowKit
theorem JF{P:Program}{α β:Type}(f:α->Sem β)(g:α->β)(w:World)(xs:Array α)(h:∀x∈xs,(f x).run P w=.ok (g x) w):(xs.mapM f).run P w=.ok (xs.map g) w:=by
 rw[Array.mapM_eq_mapM_toList,Sem.run_map]
 have:∀l:List α,(∀x∈l,(f x).run P w=.ok (g x) w)->(l.mapM f).run P w=.ok (l.map g) w:=by
  intro l
  induction l with
  |nil=>intro _;simp
  |cons x l ih=>
   intro a;rw[List.mapM_cons];simp only[yW,a x (by simp),yV,ih (λy b=>a y (by simp[b])),yX,zP]
 rw[this _ (λx c=>h x (by simpa using c))]
 simp only[yV];congr 1;apply Array.ext';simp
def laid(off:Nat)(us:List Value)(n:Nat)(cs:Array Value):Array Value:=(us.zipIdx n).foldl (λcs (c,j)=>cs.setIfInBounds (off+j) c) cs
theorem oq(off:Nat):∀(us:List Value) (n:Nat) (cs:Array Value),(laid off us n cs).size=cs.size
 |[],_,_=>rfl
 |u::us,n,cs=>by
  have:=oq off us (n+1) (cs.setIfInBounds (off+n) u);simp only[laid,List.zipIdx_cons,Zv] at this|-;rw[this];simp
theorem qB(off:Nat):∀(us:List Value) (n:Nat) (cs:Array Value) (k:Nat),(laid off us n cs)[k]? =if off+n<=k/\k<off+n+us.length/\k<cs.size then us[k-(off+n)]? else cs[k]?
 |[],n,cs,k=>by simp[laid];intro b a;omega
 |u::us,n,cs,k=>by
  have:=qB off us (n+1) (cs.setIfInBounds (off+n) u) k;simp only[laid,List.zipIdx_cons,Zv] at this|-;rw[this];simp only[Array.size_setIfInBounds,zX]
  by_cases b:off+n=k
  .subst b;rw[if_neg (by omega)]
   by_cases a:off+n<cs.size
   .rw [if_pos (by omega)];simp[a]
   .rw [if_neg (by omega),Zh (by simp;omega),Zh (by omega)]
  .rw [zW b]
   by_cases a:off+(n+1)<=k/\k<off+(n+1)+us.length/\k<cs.size
   .rw [if_pos a,if_pos (by omega),show k-(off+n)=(k-(off+(n+1)))+1 by omega]
    simp
   .rw [if_neg a,if_neg (by omega)]
theorem dZ:∀(cs xs:List AV) (o k:Nat),(setAt xs o cs)[k]? =if o<=k/\k<o+cs.length/\k<xs.length then cs[k-o]? else xs[k]?
 |[],xs,o,k=>by simp[setAt];intro b a;omega
 |c::cs,xs,o,k=>by
  rw[setAt,dZ cs (xs.set o c) (o+1) k];simp only[zm,zX]
  by_cases b:o=k
  .subst b;rw[if_neg (by omega),zq,if_pos rfl]
   by_cases a:o<xs.length
   .rw [if_pos a,if_pos (by omega)];simp
   .rw [if_neg a,if_neg (by omega),zR (by omega)]
  .rw [zq,if_neg b]
   by_cases a:o+1<=k/\k<o+1+cs.length/\k<xs.length
   .rw [if_pos a,if_pos (by omega),show k-o=(k-(o+1))+1 by omega]
    simp
   .rw [if_neg a,if_neg (by omega)]
theorem yb(place:Nat->Option (Nat×Nat))(cells:Array Value)(i:Nat)(v:Value)(rest:List (Nat×Value)){off sz:Nat}(hp:place i=some (off,sz))(b:v.cells.size=sz)(c:off+v.cells.size<=cells.size):
  Instr.fill place cells ((i,v)::rest)=Instr.fill place (laid off v.cells.toList 0 cells) rest:=by
 rw[Instr.fill,hp];simp only[b,ne_eq,not_true,decide_false,Bool.false_or];have a:¬(off+sz>cells.size):=by omega
 simp only[decide_eq_true_eq,a,if_false];congr 1;rw[laid,<-Array.foldl_toList];congr 1;simp
def CR(M:Hp)(σ:Nat->Nat)(n:Nat)(xs:List AV)(vs:Array Value):Prop:=
 vs.size=xs.length/\∀(j:Nat) x v,xs[j]? =some x->vs[j]? =some v->v.oneCell'=true/\RV M σ n x v
theorem CR.laid{M:Hp}{σ:Nat->Nat}{n:Nat}{xs cs:List AV}{vs:Array Value}{us:List Value}(h:CR M σ n xs vs)(e:us.length=cs.length)(f:∀u∈us,u.oneCell'=true)(hr:∀j (c:j<cs.length) u,us[j]? =some u->RV M σ n cs[j] u)(off:Nat):
  CR M σ n (setAt xs off cs) (laid off us 0 vs):=by
 refine⟨by rw[oq,bn,h.1],λj x v b a=>?_⟩
 rw[dZ] at b;rw[qB] at a;rw[h.1,e,Zf] at a
 by_cases d:off<=j/\j<off+cs.length/\j<xs.length
 .rw [if_pos d] at b a;have c:j-off<cs.length:=by omega
  rw[zA c] at b;cases b;exact⟨f v (zE a),hr _ c v a⟩
 .rw [if_neg d] at b a;exact h.2 j x v b a
def mJ(ev:Opd->AV):List (Nat×Nat×Opd)->List AV->(List AV->Prop)->Prop
 |[],cs,K=>K cs
 |(off,sz,o)::r,cs,K=>req (ba (ev o)&&(Nat.beq (ev o).cells.length sz&&Nat.ble (off+sz) cs.length)) (mJ ev r (setAt cs off (ev o).cells) K)
theorem nR{s:St}:∀(parts:List (Nat×Nat×Opd)) (cs:List AV) (K:List AV->Prop),mJ s.ev parts cs K->∃ds,K ds/\∀E G a w,RS E G s a w->∀(os:List (Nat×Operand)) (place:Nat->Option (Nat×Nat)) (vs:Array Value),
  os.length=parts.length->(∀i (h:i<os.length) (A:i<parts.length),place os[i].1=some (parts[i].1,parts[i].2.1)/\opd os[i].2=some parts[i].2.2)->CR G.M G.σ s.bs.length cs vs->
  ∃c,Instr.fill place vs (os.map λx=>(x.1,a.eval x.2))=some c/\CR G.M G.σ s.bs.length ds c
 |[],cs,K,h=>⟨cs,h,λE G a w hs os place vs g _ l=>by
   have:os=[]:=ZV.1 (by simpa using g)
   subst this
   exact⟨vs,rfl,l⟩⟩
 |(off,sz,o)::r,cs,K,h=>by
  obtain⟨q,z⟩:=af.1 h;simp only[zD] at q;obtain⟨m,d,hle⟩:=q;have d:=zO d;have hle:=zr hle;obtain⟨ds,u,k⟩:=nR r _ K z;refine⟨ds,u,λE G a w hs os place vs g hp l=>?_⟩
  match os,g with
  |(i,x)::os,g=>
   obtain⟨f,e⟩:=hp 0 (by simp) (by simp)
   simp only[ZQ] at f e;obtain⟨c1,c2,c3⟩:=(hs.ev e).cells m;have b:(a.eval x).cells.size=sz:=by rw[<-ZJ,c1,d]
   have p:=l.laid c1 c2 c3 off
   obtain⟨c,y,v⟩:=k E G a w hs os place _ (by simpa using g) (λj t n=>by
    have:=hp (j+1) (by simpa using t) (by simpa using n)
    simpa using this) p
   refine⟨c,?_,v⟩;rw[zP,yb _ _ _ _ _ f b (by rw[b,l.1];exact hle)]
   exact y
section
variable{P:Program}{s:St}{o:Oper}{K:St->Prop}
theorem DS{M:Hp}{σ:Nat->Nat}{n:Nat}{vs:List Value}{xs:List AV}(h:o9 vs=some xs):CR M σ n xs vs.toArray:=by
 obtain⟨b,g,f⟩:=wx (M:=M) h;refine⟨by simpa using b,λj x v c e=>?_⟩
 have d:j<xs.length:=by
  rcases zt j xs.length with b|b
  .exact b
  .rw [zR b] at c;cases c
 rw[zA d] at c;cases c;have a:vs[j]? =some v:=by simpa using e
 exact⟨g v (zE a),.flat (f j d v a)⟩
theorem CR.agg{M:Hp}{σ:Nat->Nat}{n:Nat}{xs:List AV}{vs:Array Value}(h:CR M σ n xs vs):RV M σ n (.agg xs) (.agg vs):=by
 have:=RV.agg (M:=M) (σ:=σ) (n:=n) xs vs.toList (by simpa using h.1) (λv b=>?_) (λj a v b=>?_)
 .simpa using this
 .obtain ⟨j,a,rfl⟩:=ZZ.1 b;have c:j<xs.length:=by rw[<-h.1];simpa using a
  exact(h.2 j _ _ (zA c) (by simp at a;simp[a])).1
 .exact (h.2 j _ v (zA a) (by simpa using b)).2
theorem DM{t:TypeId}{ps:Array (Nat×Operand)}(q:o.op=.build t ps){fs:Array Field}{i:TypeInfo}{z:Value}{g:List AV}(v:P.underlying t=some (.struct fs))(A:P.info? t=some i)(u:i.zero=some z)(j:o9 z.cells.toList=some g)
  (B:∀f∈fs,∃k,dB P f.type=some k) {parts:List (Nat×Nat×Opd)} (y:ps.toList.length=parts.length)
  (hp:∀i (h:i<ps.toList.length) (r:i<parts.length),(∃f,fs[ps.toList[i].1]? =some f/\f.offset=parts[i].1/\dB P f.type=some parts[i].2.1)/\opd ps.toList[i].2=some parts[i].2.2)
  (h:mJ s.ev parts g λcs=>K (s.put o.dst (.agg cs))):OpS P o s K:=by
 have C:∀c,o.op≠.defer c:=λc e=>by rw[q] at e;cases e
 obtain⟨ds,D,d⟩:=nR parts g _ h;refine OpS.pure _ C D λE G a w hs=>?_
 have hm:=JF (P:=P) (λf:Field=>do Pure.pure (f.offset,<-sizeOf f.type)) (λf=>(f.offset,(dB P f.type).getD 0)) w fs (λf m=>by
  obtain⟨k,hk⟩:=B f m;simp[aR hk,hk])
 obtain⟨b,I,H⟩:=d E G a w hs ps.toList (λi=>(fs.map λf=>(f.offset,(dB P f.type).getD 0))[i]?) z.cells y (λi h r=>by
  obtain⟨⟨f,f1,f2,f3⟩,F⟩:=hp i h r;refine⟨?_,F⟩;simp only[Array.getElem?_map,f1,zM,f2,f3,ZS]) (by simpa using DS (M:=G.M) (σ:=G.σ) (n:=s.bs.length) j)
 refine⟨.agg b,?_,H.agg⟩;have p:Instr.fill (λx=>(fs.map λf=>(f.offset,(dB P f.type).getD 0))[x]?) z.cells (ps.map λx=>(x.1,a.eval x.2)).toList=some b:=by simpa using I
 unfold execOp;simp only[q,Instr.build,yW,zeroValue,typeInfo,run_program,A,u,yV,yX,run_underlying v];have l:(fs.mapM λf=>(do let a<-sizeOf f.type;Pure.pure (f.offset,a):Sem (Nat×Nat))).run P w=.ok (fs.map λf=>(f.offset,(dB P f.type).getD 0)) w:=hm;rw[l];simp only[yV];have he:(ps.map λ(x:Nat×Operand)=>match x with|(i,x)=>(i,a.eval x)).toList=(ps.map λx=>(x.1,a.eval x.2)).toList:=rfl;rw[he,p];rfl
theorem Br{t e:TypeId}{len sz:Nat}{ps:Array (Nat×Operand)}(l:o.op=.build t ps){i:TypeInfo}{z:Value}{f:List AV}(q:P.underlying t=some (.array len e))(j:dB P e=some sz)(u:P.info? t=some i)(p:i.zero=some z)(g:o9 z.cells.toList=some f)
  {parts:List (Nat×Nat×Opd)} (r:ps.toList.length=parts.length)
  (hp:∀i (h:i<ps.toList.length) (m:i<parts.length),(ps.toList[i].1*sz=parts[i].1/\parts[i].2.1=sz)/\opd ps.toList[i].2=some parts[i].2.2)
  (h:mJ s.ev parts f λcs=>K (s.put o.dst (.agg cs))):OpS P o s K:=by
 have v:∀c,o.op≠.defer c:=λc e=>by rw[l] at e;cases e
 obtain⟨ds,y,d⟩:=nR parts f _ h;refine OpS.pure _ v y λE G a w hs=>?_
 obtain⟨b,C,B⟩:=d E G a w hs ps.toList (λi=>some (i*sz,sz)) z.cells r (λi h m=>by
  obtain⟨⟨f1,f2⟩,A⟩:=hp i h m;exact⟨by rw[f1,f2],A⟩) (by simpa using DS (M:=G.M) (σ:=G.σ) (n:=s.bs.length) g)
 refine⟨.agg b,?_,B.agg⟩;have k:Instr.fill (λi=>some (i*sz,sz)) z.cells (ps.map λx=>(x.1,a.eval x.2)).toList=some b:=by simpa using C
 unfold execOp;simp only[l,Instr.build,yW,zeroValue,typeInfo,run_program,u,p,yV,yX,run_underlying q,aR j];have he:(ps.map λ(x:Nat×Operand)=>match x with|(i,x)=>(i,a.eval x)).toList=(ps.map λx=>(x.1,a.eval x.2)).toList:=rfl;rw[he,k];rfl
theorem ET(x:AV):x.norm.cells.length=x.cells.length:=by
 cases x<;>first|rfl|skip
 case agg cs=>simp[AV.norm,AV.cells]
theorem vP{G:Gh}{n sz:Nat}:∀(os:List (Nat×Value)) (xs:List AV) (k:Nat) (cs:Array Value),os.length=xs.length->(∀i (h:i<os.length),os[i].1=k+i)->(∀i (h:i<os.length) (E:i<xs.length),RV G.M G.σ n xs[i] os[i].2/\ba xs[i]=true/\xs[i].flat=true/\xs[i].cells.length=sz)->
  cs.size=(k+xs.length)*sz->∃vs,Instr.fill (λi=>some (i*sz,sz)) cs os=some vs/\vs.size=cs.size/\(∀j,j<k*sz->vs[j]? =cs[j]?)/\∃us,eZ G.M sz xs us/\∀(j:Nat) u,us[j]? =some u->vs[k*sz+j]? =some u
 |[],[],k,cs,_,_,_,hs=>⟨cs,rfl,rfl,λ_ _=>rfl,[],eZ.nil _ _,λj u h=>by simp at h⟩
 |(i,v)::os,x::xs,k,cs,f,s,r,hs=>by
  have g:=s 0 (by simp)
  simp only[ZQ,Zf] at g;subst g;obtain⟨m,l,d,c⟩:=r 0 (by simp) (by simp)
  simp only[ZQ] at m l d c;obtain⟨c1,c2,c3⟩:=m.cells l;have hvs:v.cells.size=sz:=by rw[<-ZJ,c1,c]
  have hmul:(i+1)*sz=i*sz+sz:=by rw[ZL,yM]
  have t:(i+1)*sz<=(i+(xs.length+1))*sz:=ZE _ (by omega)
  simp only[zX] at hs
  obtain⟨vs,D,C,w,us,B,A⟩:=vP os xs (i+1) (laid (i*sz) v.cells.toList 0 cs) (by simpa using f) (λj a=>by
   have:=s (j+1) (by simpa using a)
   simp only[Zg] at this;omega) (λj a b=>by
   have:=r (j+1) (by simpa using a) (by simpa using b)
   simpa using this) (by rw[oq,hs];congr 1;omega)
  refine⟨vs,?_,by rw[C,oq],λj a=>?_,v.cells.toList++us,?_,λj u a=>?_⟩
  .rw [yb (off:=i*sz) (sz:=sz) _ _ _ _ _ rfl hvs (by rw[hvs,hs];omega)]
   exact D
  .rw [w j (by omega),qB,if_neg (by omega)]
  .have e:eZ G.M sz [x] v.cells.toList:=by
    refine⟨by rw[c1,c];simp,λq y=>?_⟩
    obtain rfl:q=0:=by simpa using y
    simp only[ZQ];refine⟨c,λj a=>?_⟩;have b:j<v.cells.toList.length:=by rw[c1];exact a
    refine⟨v.cells.toList[j],by simp only[Nat.zero_mul,ZI];exact zA b,c2 _ (zc b),?_⟩
    have:=c3 j a _ (zA b);have p:=m.Jg d;have z:=(RV.flat (σ:=G.σ) (n:=0) p).cells l;have:=z.2.2 j a _ (zA b);refine this.aZ ?_;cases x<;>first|(simp[AV.flat,AV.aZ] at d;done)|skip
    case agg ds=>simp only[AV.flat,zS] at d;exact d _ (zc a)
    all_goals
     simp only[AV.cells,zX,ZP] at a;obtain rfl:j=0:=by omega
     exact d
   exact e.append B
  .by_cases o:j<sz
   .rw [zK (by rw[c1,c];exact o)] at a
    rw[w _ (by omega),qB,if_pos ⟨by omega,by rw[c1,c];omega,by rw[hs];omega⟩,show i*sz+j-(i*sz+0)=j by omega]
    exact a
   .rw [zZ (by rw[c1,c];omega),c1,c] at a
    have:=A _ u a;rw[show (i+1)*sz+(j-sz)=i*sz+j by omega] at this
    exact this
 |[],_::_,_,_,f,_,_,_=>by simp at f
 |_::_,[],_,_,f,_,_,_=>by simp at f
def dR(ev:Opd->AV)(sz:Nat):List Opd->(List AV->Prop)->Prop
 |[],K=>K []
 |o::os,K=>req (ba (ev o)&&((ev o).norm.flat&&Nat.beq (ev o).cells.length sz)) (dR ev sz os λl=>K ((ev o).norm::l))
theorem o5{s:St}{sz:Nat}:∀{os:List Opd} {K:List AV->Prop},dR s.ev sz os K->K (os.map λo=>(s.ev o).norm)/\∀o∈os,ba (s.ev o)=true/\(s.ev o).norm.flat=true/\(s.ev o).cells.length=sz
 |[],K,h=>⟨h,λo c=>by cases c⟩
 |o::os,K,h=>by
  obtain⟨b,f⟩:=af.1 h;simp only[zD] at b;obtain⟨e,d⟩:=o5 f;refine⟨e,λo' a=>?_⟩;rcases zI.1 a with rfl|a
  .exact ⟨b.1,b.2.1,zO b.2.2⟩
  .exact d o' a
theorem L1(x:AV)(h:ba x=true):ba x.norm=true:=by
 cases x<;>first|rfl|(simp[ba] at h)
theorem Bs{t e:TypeId}{n:Nat}{ps:Array (Nat×Operand)}(C:o.op=.buildSlice t n ps){i:TypeInfo}{z:Value}{sz:Nat}(Q:P.underlying t=some (.slice e))(F:P.info? e=some i)(O:i.zero=some z)(y:i.size=sz)(D:n*sz<=16777216)(X:n<=lim)
  {rs:List Opd} (R:ps.toList.length=rs.length) (p:rs.length=n) (hp:∀i (h:i<ps.toList.length) (Y:i<rs.length),ps.toList[i].1=i/\opd ps.toList[i].2=some rs[i])
  (h:dR s.ev sz rs λl=>K (s.put o.dst (.sl .full l))):OpS P o s K:=by
 have S:∀c,o.op≠.defer c:=λc e=>by rw[C] at e;cases e
 obtain⟨T,r⟩:=o5 h;subst y;refine OpS.val (.sl .full (rs.map λo=>(s.ev o).norm)) s S T λE G a w hs=>?_
 have key:∀cs:Array Value,cs.size=n*i.size->∃vs us,Instr.fill (λj=>some (j*i.size,i.size)) cs (ps.map λx=>(x.1,a.eval x.2)).toList=some vs/\vs.size=n*i.size/\eZ G.M i.size (rs.map λo=>(s.ev o).norm) us/\∀(j:Nat) u,us[j]? =some u->vs[j]? =some u:=λcs q=>by
  obtain⟨vs,m,H,_,us,A,U⟩:=vP (G:=G) (n:=s.bs.length) (sz:=i.size) (ps.toList.map λx=>(x.1,a.eval x.2)) (rs.map λo=>(s.ev o).norm) 0 cs (by simpa using R) (λj b=>by
   simp only[zF] at b;simp only[ZD,ZI];exact(hp j b (by omega)).1) (λj b g=>by
   simp only[zF] at b g;simp only[ZD];obtain⟨N,L,J⟩:=r _ (zc g);exact⟨(hs.ev (hp j b g).2).norm,L1 _ N,L,by rw[ET];exact J⟩) (by rw[q];simp[p])
  refine⟨vs,us,by simpa using m,by rw[H,q],A,λj u b=>?_⟩
  have:=U j u b
  rwa [Nat.zero_mul,ZI] at this
 have d:∀v:Array Value,((Array.range (n*i.size)).map λj=>v[j %v.size]!).size=n*i.size:=λv=>by simp
 obtain⟨vs,us,m,H,V,A⟩:=key ((Array.range (n*i.size)).map λj=>(if n*i.size=0 then #[] else z.cells)[j %(if n*i.size=0 then #[] else z.cells).size]!) (d _);have hr:=hs.newRow vs e us A;refine⟨.slice (some ⟨w.heap.size,0,none⟩) n n,_,_,?_,hr,?_⟩
 .have he:(ps.map λ(x:Nat×Operand)=>match x with|(i,x)=>(i,a.eval x)).toList=(ps.map λx=>(x.1,a.eval x.2)).toList:=rfl;have f:¬(n*i.size>2^24):=by omega
  unfold execOp;simp only[C,Instr.buildSlice,yW,run_underlying Q,yV,sizeOf,typeInfo,run_program,F,yX,if_neg f]
  by_cases I:n*i.size=0
  .simp only[I,if_true] at m|-;simp only[yW,yX,yV];rw[he,m];rfl
  .simp only[I,if_false] at m|-;simp only[yW,zeroValue,typeInfo,run_program,F,O,yX,yV];rw[he,m];rfl
 .have hlen:(rs.map λo=>(s.ev o).norm).length=n:=by simp[p]
  have:=FV.jw (M:=bm G.M w.heap.size 0 us) (o:=.full) (l:=rs.map λo=>(s.ev o).norm) (a:=some ⟨w.heap.size,0,none⟩) (k:=n) (B:=w.heap.size) (off:=0) (sz:=i.size) (by simp) (by omega) (by omega) (λ_=>hlen.symm) (λ_=>rfl)
   (V.elems (dn λo _=>hs.noM o) λj u b=>fP b)
  have W:Value.slice (some ⟨w.heap.size,0,none⟩) (rs.map λo=>(s.ev o).norm).length n=.slice (some ⟨w.heap.size,0,none⟩) n n:=by rw[hlen]
  exact .flat (W▸this)
theorem wrap_i64{n:Int}(b:0<=n)(a:n<=9223372036854775807):IntKind.i64.wrap n=n:=by
 exact IntWalk.i64_in n (by omega)
def mkK(sz:Nat)(z:AV)(l c:AV)(K:AV->Prop):Prop:=
 match l,c with
 |.int _ n,.int _ m=>(0<=n/\n<=m/\m<=4294967296)/\K (.sl (.own sz) (List.replicate n.toNat z))
 |_,_=>False
theorem fT{M:Hp}{x:AV}{v:Value}(s:cO v=some x)(g:ba x=true)(a:x.flat=true){sz:Nat}(d:v.cells.size=sz)(n m:Nat)(h:n<=m):
  ∃us,eZ M sz (List.replicate n x) us/\∀(j:Nat) u,us[j]? =some u->((Array.range (m*sz)).map λj=>v.cells[j %v.cells.size]!)[j]? =some u:=by
 have p:FV M x v:=ib s;obtain⟨c1,c2,c3⟩:=(RV.flat (σ:=λ_=>0) (n:=0) p).cells g;have f:x.cells.length=sz:=by rw[<-c1,ZJ,d]
 have hle:n*sz<=m*sz:=ZE _ h;refine⟨(List.range (n*sz)).map λj=>v.cells[j %v.cells.size]!,⟨by simp,λi r=>?_⟩,λj u c=>?_⟩
 .simp only[zf] at r;rw[Zt];refine⟨f,λj c=>?_⟩;have b:j<v.cells.toList.length:=by rw[c1];exact c
  have l:j<sz:=by omega
  have hmul:(i+1)*sz<=n*sz:=ZE _ r;rw[ZL,yM] at hmul;refine⟨v.cells.toList[j],?_,c2 _ (zc b),?_⟩
  .have e:(i*sz+j) %sz=j:=by rw[yP,Nat.mul_add_mod,Nat.mod_eq_of_lt l]
   have k:j<v.cells.size:=by omega
   simp[List.getElem?_range (show i*sz+j<n*sz by omega),d,e]
   exact getElem!_pos v.cells j k
  .have t:=c3 j c _ (zA b);refine t.aZ ?_;cases x<;>first|(simp[AV.flat,AV.aZ] at a;done)|skip
   case agg ds=>simp only[AV.flat,zS] at a;exact a _ (zc c)
   all_goals
    simp only[AV.cells,zX,ZP] at c;obtain rfl:j=0:=by omega
    exact a
 .have b:j<n*sz:=by
   rcases zt j (n*sz) with q|q
   .exact q
   .rw [zR (by simpa using q)] at c;cases c
  have o:j<m*sz:=by omega
  simp only[ZF,List.getElem?_range b,zM] at c;rw[<-c];simp[o]
theorem J3{t e d:Nat}{lo co:Operand}(S:o.op=.makeSlice t lo co)(f:o.dst=some d){i:TypeInfo}{z:Value}{x:AV}{sz:Nat}(Y:P.underlying t=some (.slice e))(Z:P.info? e=some i)(hz:i.zero=some z)(L:i.size=sz)(J:z.cells.size=sz)(hb:i.bytes<=4096)
  (hx:cO z=some x) (R:ba x=true) (y:x.flat=true) {W rc:Opd} (hl:opd lo=some W) (hc:opd co=some rc) (h:mkK sz x (s.ev W) (s.ev rc) λr=>K (s.put o.dst r)):OpS P o s K:=by
 have hd:∀c,o.op≠.defer c:=λc e=>by rw[S] at e;cases e
 unfold mkK at h;split at h
 .rename_i kl n kc m hle U;obtain⟨⟨h0,h1,V⟩,hK⟩:=h;rw[f] at hK;intro E G a w rd nn next Q hs H p
  have v:=hs.ev hl;rw[hle] at v;have A:=hs.ev hc;rw[U] at A;obtain⟨us,X,r2⟩:=fT (M:=G.M) hx R y J n.toNat m.toNat (by omega)
  have hr:=hs.newRow ((Array.range (m.toNat*sz)).map λj=>z.cells[j %z.cells.size]!) e us r2
  have B:(execOp a.eval o).run P w=.ok (.value (.slice (some ⟨w.heap.size,0,none⟩) n.toNat m.toNat)) (w.alloc (.cells ((Array.range (m.toNat*sz)).map λj=>z.cells[j %z.cells.size]!) e)):=by
   have hbm:(i.bytes:Int)*m<=281474976710656:=by
    have h4:(i.bytes:Int)<=4096:=by omega
    have:(i.bytes:Int)*m<=4096*4294967296:=Int.mul_le_mul h4 V (by omega) (by omega)
    omega
   have ha:IntKind.i64.wrap n=n:=wrap_i64 h0 (by omega)
   have I:IntKind.i64.wrap m=m:=wrap_i64 (by omega) (by omega)
   have F:¬m<0:=by omega
   have D:¬n<0:=by omega
   have C:¬m<n:=by omega
   have g:¬281474976710656<(i.bytes:Int)*m:=by omega
   subst L;unfold execOp
   by_cases h5:m.toNat*i.size=0
   .simp [S,Instr.makeSlice,run_underlying Y,v.aK,A.aK,asInt,asIntOf,typeInfo,Z,ha,I,F,D,C,g,sizeOf,h5,newRow];rw[show Array.range 0=#[] from rfl];simp
   .simp [S,Instr.makeSlice,run_underlying Y,v.aK,A.aK,asInt,asIntOf,typeInfo,Z,ha,I,F,D,C,g,sizeOf,newRow,zeroValue,hz];exact λh6=>absurd h6 h5
  have N:SV (bm G.M w.heap.size 0 us) (List.replicate n.toNat x) sz (.slice (some ⟨w.heap.size,0,none⟩) n.toNat m.toNat) (some ⟨w.heap.size,0,none⟩) m.toNat w.heap.size 0:=by
   refine⟨by simp,by simp;omega,by simp;unfold lim;omega,λ_=>rfl,?_⟩
   exact X.elems (dn λo _=>hs.noM o) λj u hj=>fP hj
  have k:Room E {G with M:=bm G.M w.heap.size 0 us} s (w.alloc (.cells ((Array.range (m.toNat*sz)).map λj=>z.cells[j %z.cells.size]!) e)) (some ⟨w.heap.size,0,none⟩) sz (List.replicate n.toNat x).length m.toNat:=by
   by_cases T:n.toNat<m.toNat
   .refine .inr ⟨w.heap.size,.bx s.bs.length 0,rfl,⟨⟨by simpa using T,⟨_,e,heap_alloc_new _ _,by simp⟩,λq O=>?_,.inr hs.fr.size⟩,λq O=>?_,λb cs hb e=>?_,by simp,λz l e=>?_,λb j e=>by cases e;simp[ah]⟩⟩
    .simp only[zf] at O;simp only[bm]
     rw[if_neg (λe=>by
      have h1:=e.2.2;have V:=X.1;simp only[zf] at V;omega)]
     exact hs.noM q
    .exact absurd (hs.cllt q _ O).1 (by omega)
    .exact absurd (hs.blt hb) (by have e':G.σ b=w.heap.size:=e;omega)
    .simp [St.at,aa] at e
   .exact .inl (by simp;omega)
  obtain⟨G',h3⟩:=hr.EH (H d f) N k;refine⟨λ_ _=>trivial,?_⟩;rw[Oper.semAt_eq _ _ _ hd,B];show next (a.put o.dst _) _
  rw[f];exact p _ G' _ _ hK h3 rfl
 .exact h.elim
def evs(ev:Opd->AV):List Opd->List AV
 |[]=>[]
 |o::os=>ev o::evs ev os
theorem vQ(ev:Opd->AV):∀os:List Opd,(evs ev os).length=os.length
 |[]=>rfl
 |_::os=>by simp[evs,vQ ev os]
theorem GX(ev:Opd->AV):∀(os:List Opd) (i:Nat),(evs ev os)[i]? =(os[i]?).map ev
 |[],_=>rfl
 |_::_,0=>rfl
 |_::os,i+1=>by simpa[evs] using GX ev os i
theorem RS.evs{E:Entry}{G:Gh}{a:Act}{w:World}(hs:RS E G s a w){os:List Operand}{rs:List Opd}(h:bp os=some rs):
  (os.map a.eval).length=(evs s.ev rs).length/\∀j (e:j<(AM.evs s.ev rs).length) v,(os.map a.eval)[j]? =some v->RV G.M G.σ s.bs.length ((AM.evs s.ev rs)[j]) v:=by
 obtain⟨g,f⟩:=Cx h;refine⟨by simp[vQ,g],λj e v b=>?_⟩
 rw[ZF] at b
 cases d:os[j]? with
 |none=>rw[d] at b;cases b
 |some o'=>
  rw[d] at b;cases b;obtain⟨r,hr,c⟩:=f j o' d;have:=GX s.ev rs j;rw[hr,zA e] at this;simp only[zM,zN] at this;rw[this];exact hs.ev c
theorem EW{f:Fn}{first b:Array Operand}(i:o.op=.makeFunc f first b){g d:List Opd}(l:bp first.toList=some g)(k:bp b.toList=some d)(h:K (s.put o.dst (.fn f (evs s.ev g) (evs s.ev d)))):OpS P o s K:=by
 have j:∀c,o.op≠.defer c:=λc e=>by rw[i] at e;cases e
 refine OpS.pure _ j h λE G a w hs=>?_;obtain⟨p,a2⟩:=hs.evs l;obtain⟨n,m⟩:=hs.evs k;refine⟨.func f (first.toList.map a.eval).toArray (b.toList.map a.eval).toArray,?_,.fn f _ _ _ _ p n a2 m⟩
 unfold execOp;simp[i,Instr.makeFunc];constructor<;>(apply Array.ext';simp)
def mmK(mx:Bool)(x y:AV)(K:AV->Prop):Prop:=
 match x,y with
 |.int k a,.int k' b=>req (decide (k=k')) (K (.int k (if mx then max a b else min a b)))
 |_,_=>False
theorem CJ{x y:Operand}{ts:Array TypeId}{mx:Bool}(j:o.op=.call {callee:=.builtin (if mx then .max else .min),args:=#[x,y],argTypes:=ts}){rx m:Opd}(p:opd x=some rx)(n:opd y=some m)
  (h:mmK mx (s.ev rx) (s.ev m) λr=>K (s.put o.dst r)):OpS P o s K:=by
 have q:∀c,o.op≠.defer c:=λc e=>by rw[j] at e;cases e
 unfold mmK at h;split at h
 .rename_i k a k' b i g;obtain⟨l,t⟩:=af.1 h;have l:=of_decide_eq_true l;subst l;refine OpS.pure _ q t λE G u w hs=>⟨_,?_,.flat (.int _ _)⟩;have f:=hs.ev p;rw[i] at f;have d:=hs.ev n;rw[g] at d;unfold execOp
  cases mx with
  |true=>
   have:(if b>a then b else a)=max a b:=by omega
   simp[j,resolve,invoke,builtin,Builtin.max_,Builtin.max2,f.aK,d.aK,<-this]
  |false=>
   have:(if b<a then b else a)=min a b:=by omega
   simp[j,resolve,invoke,builtin,Builtin.min_,Builtin.min2,f.aK,d.aK,<-this]
 .exact h.elim
def x8(len sz:Nat)(x i:AV)(K:AV->Prop):Prop:=
 match i with
 |.int _ n=>req (C1 x) ((0<=n/\n<(len:Int))/\K (tH (n.toNat*sz) x))
 |_=>False
theorem Fu{x i:Operand}{t e len:Nat}(l:o.op=.indexAddr t x i){rx j:Opd}(m:opd x=some rx)(u:opd i=some j){sz:Nat}(q:P.underlying t=some (.array len e))(d:dB P e=some sz)
  (h:x8 len sz (s.ev rx) (s.ev j) λr=>K (s.put o.dst r)):OpS P o s K:=by
 have v:∀c,o.op≠.defer c:=λc e=>by rw[l] at e;cases e
 unfold x8 at h;split at h
 .rename_i k n g;obtain⟨C,⟨A,z⟩,y⟩:=af.1 h;refine OpS.pure _ v y λE G a w hs=>?_;obtain⟨B,f,p,hr⟩:=vg (off:=n.toNat*sz) (hs.ev m) C;have b:=hs.ev u;rw[g] at b;refine⟨_,?_,hr⟩;unfold execOp;simp[l,Instr.indexAt,b.aK,asIntOf,run_underlying q,p,Instr.sureAddr,A,z,aR d,bS]
 .exact h.elim
def C9(agg:Bool)(len sz:Nat)(x i:AV)(K:AV->Prop):Prop:=
 match x,i with
 |.agg cs,.int _ n=>(0<=n/\n<(len:Int))/\(match agg with
  |true=>req (Nat.ble (n.toNat*sz+sz) cs.length) (K (.agg ((cs.drop (n.toNat*sz)).take sz)))
  |false=>∃c,cs[n.toNat]? =some c/\K c)
 |_,_=>False
theorem Fq{x i:Operand}{t e len:Nat}(B:o.op=.index t x i){rx D:Opd}(F:opd x=some rx)(J:opd i=some D){sz:Nat}{agg:Bool}(H:P.underlying t=some (.array len e))(p:dB P e=some sz)(M:od P e=some agg)(z:agg=false->sz=1)
  (h:C9 agg len sz (s.ev rx) (s.ev D) λr=>K (s.put o.dst r)):OpS P o s K:=by
 have L:∀c,o.op≠.defer c:=λc e=>by rw[B] at e;cases e
 unfold C9 at h;split at h
 .rename_i cs k n g y;obtain⟨⟨O,N⟩,h⟩:=h;split at h
  .obtain ⟨S,C⟩:=af.1 h;have hle:=zr S;refine OpS.pure _ L C λE G a w hs=>?_;have b:=hs.ev F;rw[g] at b;have d:=hs.ev J;rw[y] at d;obtain⟨vs,m,I,f,hr⟩:=b.eD;refine⟨.agg ((vs.drop (n.toNat*sz)).take sz).toArray,?_,.agg _ _ ?_ (λv m=>f v (List.mem_of_mem_drop (List.mem_of_mem_take m))) (λj Q v u=>?_)⟩
   .unfold execOp;simp[B,Instr.index,run_underlying H,m,d.aK,asIntOf,O,N,part,dy M,aR p,List.extract_eq_take_drop]
   .simp [I]
   .simp only[zn,Zd] at Q;rw[Zp,Zz];rw[Za,if_pos (by omega),List.getElem?_drop] at u
    exact hr _ (by omega) v u
  .obtain ⟨c,A,C⟩:=h;have R:=z rfl;subst R;refine OpS.pure _ L C λE G a w hs=>?_;have b:=hs.ev F;rw[g] at b;have d:=hs.ev J;rw[y] at d;obtain⟨vs,m,I,f,hr⟩:=b.eD
   have q:n.toNat<cs.length:=by
    rcases zt n.toNat cs.length with z|z
    .exact z
    .rw [zR z] at A;cases A
   rw[zA q] at A;cases A;have l:vs[n.toNat]? =some (vs[n.toNat]'(by omega)):=zA _
   refine⟨_,?_,hr _ q _ l⟩;unfold execOp;simp[B,Instr.index,run_underlying H,m,d.aK,asIntOf,O,N,part,dy M,aR p,l]
 .exact h.elim
def bnd(o:Option AV)(a:Int)(K:Int->Prop):Prop:=
 match o with
 |none=>K a
 |some (.int _ n)=>K n
 |some _=>False
def Et(sz:Nat)(x:AV)(lo d mx:Option AV)(K:AV->Prop):Prop:=
 match x with
 |.sl _ l=>bnd lo 0 λa=>bnd d l.length λb=>match mx with
  |none=>((∀y∈l,y.cells.length=sz)/\0<=a/\a<=b/\b<=l.length)/\K (.sl .no ((l.take b.toNat).drop a.toNat))
  |some _=>bnd mx 0 λm=>((∀y∈l,y.cells.length=sz)/\0<=a/\a<=b/\b=m/\m<=l.length)/\K (.sl .full ((l.take b.toNat).drop a.toNat))
 |.bsl b m k=>bnd lo 0 λa=>bnd d m λc=>match mx with
  |none=>(a=0/\0<=c/\c<=k/\c<=4294967296)/\K (.bsl b c.toNat k)
  |some _=>bnd mx 0 λq=>(a=0/\0<=c/\c<=q/\q<=k/\c<=4294967296)/\K (.bsl b c.toNat q.toNat)
 |_=>False
def BU(x:AV)(lo c:Option AV)(K:AV->Prop):Prop:=
 match x with
 |.str t=>bnd lo 0 λa=>bnd c t.size λb=>(0<=a/\a<=b/\b<=t.size)/\K (.str (t.extract a.toNat b.toNat))
 |_=>False
def lY:Option Operand->Option (Option Opd)
 |none=>some none
 |some o=>match opd o with
  |some r=>some (some r)
  |none=>none
theorem jH{E:Entry}{G:Gh}{a:Act}{w:World}(hs:RS E G s a w){o':Option Operand}{r:Option Opd}(b:lY o'=some r){d:Int}{K:Int->Prop}(h:bnd (r.map s.ev) d K):
  ∃n,K n/\((o'=none/\n=d)\/∃x k,o'=some x/\a.eval x=.int k n):=by
 cases o' with
 |none=>
  cases b
  exact⟨d,h,.inl ⟨rfl,rfl⟩⟩
 |some x=>
  simp only[lY] at b;split at b
  .rename_i rx e;cases b;unfold bnd at h;simp only[zM] at h;split at h
   .rename_i heq;cases heq
   .rename_i k n heq;have c:=hs.ev e;simp only[zN] at heq;rw[heq] at c;exact⟨n,h,.inr ⟨x,k,rfl,c.aK⟩⟩
   .exact h.elim
  .cases b
theorem nV{M:Hp}{B off sz:Nat}{l:List AV}(h:gl M B off sz l)(a b:Nat)(hb:b<=l.length):gl M B (off+a*sz) sz ((l.take b).drop a):=λi c=>by
 simp only[Zd,zn] at c;rw[Zz,Zp];obtain⟨e,d⟩:=h (a+i) (by omega)
 refine⟨e,?_⟩;rw[Zk,<-ZL];exact d
theorem b6{o:Option AV}{d:Int}{K K':Int->Prop}(hk:∀n,K n->K' n)(h:bnd o d K):bnd o d K':=by
 unfold bnd at h|-;split at h<;>first|exact hk _ h|exact h
theorem dE{o:Option AV}{d:Int}{K:Int->Prop}(h:bnd o d K):∃n,(∀K':Int->Prop,K' n->bnd o d K')/\K n:=by
 unfold bnd at h|-;split at h
 .exact ⟨_,λK' hk=>hk,h⟩
 .exact ⟨_,λK' hk=>hk,h⟩
 .exact h.elim
theorem HD{x:Operand}{t e:Nat}{lo H mx:Option Operand}(Y:o.op=.slice t x lo H mx){rx:Opd}{rl rh rm:Option Opd}(hx:opd x=some rx)(hlo:lY lo=some rl)(hhi:lY H=some rh)(g:lY mx=some rm){sz:Nat}(ht:P.underlying t=some (.slice e))(J:dB P e=some sz)(Z:mx.isSome=true->H.isSome=true)
  (h:Et sz (s.ev rx) (rl.map s.ev) (rh.map s.ev) (rm.map s.ev) λr=>K (s.put o.dst r)):OpS P o s K:=by
 have hd:∀c,o.op≠.defer c:=λc e=>by rw[Y] at e;cases e
 unfold Et at h;split at h
 .rename_i oc l C;obtain⟨b,ka,h⟩:=dE h;obtain⟨nb,kb,h⟩:=dE h
  have d:∀E G a w,RS E G s a w->(lo=none/\b=0)\/∃x k,lo=some x/\a.eval x=.int k b:=λE G a w hs=>by
   obtain⟨n,F,hr⟩:=jH hs hlo (ka (λn=>n=b) rfl);subst F;exact hr
  have f:∀E G a w,RS E G s a w->(H=none/\nb=(l.length:Int))\/∃x k,H=some x/\a.eval x=.int k nb:=λE G a w hs=>by
   obtain⟨n,F,hr⟩:=jH hs hhi (kb (λn=>n=nb) rfl);subst F;exact hr
  cases p:rm.map s.ev with
  |none=>
   rw[p] at h;obtain⟨⟨U,h2,h3,h4⟩,S⟩:=h
   have O:mx=none:=by
    cases mx with
    |none=>rfl
    |some q=>
     simp only[lY] at g;split at g
     .cases g;cases p
     .cases g
   refine OpS.pure _ hd S λE G a w hs=>?_;have i:=hs.ev hx;rw[C] at i;obtain⟨I,cap,B,off,j⟩:=i.sv U;have hcap:=j.cap;have hlen:((l.take nb.toNat).drop b.toNat).length=nb.toNat-b.toNat:=by simp;omega
   refine⟨.slice (if cap=b.toNat then I else I.map (·.add (b.toNat*sz))) (nb.toNat-b.toNat) (cap-b.toNat),?_,?_⟩
   .have V:(Instr.sliceBounds true l.length cap (lo.map a.eval) (H.map a.eval) none).run P w=.ok (b.toNat,nb.toNat,cap) w:=by
     unfold Instr.sliceBounds;rcases d E G a w hs with ⟨z,y⟩|⟨xl,kl,z,y⟩<;>rcases f E G a w hs with ⟨A,v⟩|⟨xh,kh,A,v⟩<;>subst z A
     .subst y v;simp
     .subst y;have:0<=nb/\nb<=(cap:Int):=by omega
      simp[v,Instr.sliceBound,asIntOf,this]
     .subst v;have:0<=b/\b<=(l.length:Int):=by omega
      simp[y,Instr.sliceBound,asIntOf,this]
     .have M:0<=nb/\nb<=(cap:Int):=by omega
      have L:0<=b/\b<=((nb.toNat:Nat):Int):=by omega
      simp only[zM,yW,yX,yV,Instr.sliceBound,v,y,asIntOf,if_pos M,Zu,if_pos L]
    unfold execOp;simp only[Y,Instr.sliceAt,yW,run_underlying ht,yV,j.eq,Instr.slice,O,yI,V,aR J,yX]
   .rw [<-hlen];refine .flat (FV.jw (B:=B) (off:=off+b.toNat*sz) (sz:=sz) (by simp) (by rw[hlen];omega) (by rw[hlen];have:=j.len;omega) (by simp) (λN=>?_) (nV j.el _ _ (by omega)))
    have D:0<((l.take nb.toNat).drop b.toNat).length:=List.length_pos_iff.2 N;rw[hlen] at D;have Q:l≠[]:=λe=>by subst e;simp at h4;omega
    rw[if_neg (by omega),j.at_ Q]
    simp[bS]
  |some m=>
   rw[p] at h;obtain⟨nm,km,⟨U,h2,h3,h4,h6⟩,S⟩:=dE h
   have u:∀E G a w,RS E G s a w->(mx=none/\nm=0)\/∃x k,mx=some x/\a.eval x=.int k nm:=λE G a w hs=>by
    obtain⟨n,F,hr⟩:=jH hs g (by rw[p];exact km (λn=>n=nm) rfl)
    subst F;exact hr
   refine OpS.pure _ hd S λE G a w hs=>?_;have i:=hs.ev hx;rw[C] at i;obtain⟨I,cap,B,off,j⟩:=i.sv U;have hcap:=j.cap;have hlen:((l.take nb.toNat).drop b.toNat).length=nb.toNat-b.toNat:=by simp;omega
   subst h4;refine⟨.slice (if nb.toNat=b.toNat then I else I.map (·.add (b.toNat*sz))) (nb.toNat-b.toNat) (nb.toNat-b.toNat),?_,?_⟩
   .rcases u E G a w hs with ⟨q0,z⟩|⟨xm,kkm,X,W⟩
    .subst q0;cases g;cases p
    .rcases f E G a w hs with ⟨A,_⟩|⟨xh,kh,A,v⟩
     .subst A X;simp at Z
     .have M:0<=nb/\nb<=(cap:Int):=by omega
      have L:0<=nb/\nb<=((nb.toNat:Nat):Int):=by omega
      have V:(Instr.sliceBounds true l.length cap (lo.map a.eval) (H.map a.eval) (mx.map a.eval)).run P w=.ok (b.toNat,nb.toNat,nb.toNat) w:=by
       unfold Instr.sliceBounds;rcases d E G a w hs with ⟨z,y⟩|⟨xl,kl,z,y⟩<;>subst z A X
       .subst y;simp only[zM,yI,yW,yX,yV,Instr.sliceBound,v,W,asIntOf,if_pos M,if_pos L];rfl
       .have T:0<=b/\b<=((nb.toNat:Nat):Int):=by omega
        simp only[zM,yW,yX,yV,Instr.sliceBound,v,y,W,asIntOf,if_pos M,if_pos L,if_pos T]
      unfold execOp;simp only[Y,Instr.sliceAt,yW,run_underlying ht,yV,j.eq,Instr.slice,V,aR J,yX]
   .rw [<-hlen];refine .flat (FV.jw (B:=B) (off:=off+b.toNat*sz) (sz:=sz) (by simp) (zG _) (by rw[hlen];have:=j.len;omega) (λ_=>rfl) (λN=>?_) (nV j.el _ _ (by omega)))
    have D:0<((l.take nb.toNat).drop b.toNat).length:=List.length_pos_iff.2 N;rw[hlen] at D;have Q:l≠[]:=λe=>by subst e;simp at h6;omega
    rw[if_neg (by omega),j.at_ Q]
    simp[bS]
 .rename_i bb m k C;obtain⟨b,ka,h⟩:=dE h;obtain⟨nb,kb,h⟩:=dE h
  have d:∀E G a w,RS E G s a w->(lo=none/\b=0)\/∃x k,lo=some x/\a.eval x=.int k b:=λE G a w hs=>by
   obtain⟨n,F,hr⟩:=jH hs hlo (ka (λn=>n=b) rfl);subst F;exact hr
  have f:∀E G a w,RS E G s a w->(H=none/\nb=(m:Int))\/∃x k,H=some x/\a.eval x=.int k nb:=λE G a w hs=>by
   obtain⟨n,F,hr⟩:=jH hs hhi (kb (λn=>n=nb) rfl);subst F;exact hr
  cases p:rm.map s.ev with
  |some q=>
   rw[p] at h;obtain⟨nm,km,⟨U,h2,h3,h4,h6⟩,S⟩:=dE h;subst U
   have u:∀E G a w,RS E G s a w->(mx=none/\nm=0)\/∃x k,mx=some x/\a.eval x=.int k nm:=λE G a w hs=>by
    obtain⟨n,F,hr⟩:=jH hs g (by rw[p];exact km (λn=>n=nm) rfl)
    subst F;exact hr
   refine OpS.pure _ hd S λE G a w hs=>?_;have i:=hs.ev hx;rw[C] at i;obtain⟨I,hv,hb,hmk,hml,R⟩:=i.cj;refine⟨.slice (if nm.toNat=0 then I else I.map (·.add (0*sz))) (nb.toNat-0) (nm.toNat-0),?_,?_⟩
   .rcases u E G a w hs with ⟨q0,z⟩|⟨xm,kkm,X,W⟩
    .subst q0;cases g;cases p
    .rcases f E G a w hs with ⟨A,_⟩|⟨xh,kh,A,v⟩
     .subst A X;simp at Z
     .have M:0<=nm/\nm<=(k:Int):=by omega
      have L:0<=nb/\nb<=((nm.toNat:Nat):Int):=by omega
      have V:(Instr.sliceBounds true m k (lo.map a.eval) (H.map a.eval) (mx.map a.eval)).run P w=.ok (0,nb.toNat,nm.toNat) w:=by
       unfold Instr.sliceBounds;rcases d E G a w hs with ⟨z,y⟩|⟨xl,kl,z,y⟩<;>subst z A X
       .simp only[zM,yI,yW,yX,yV,Instr.sliceBound,v,W,asIntOf,if_pos M,if_pos L]
       .have T:(0:Int)<=0/\(0:Int)<=((nb.toNat:Nat):Int):=by omega
        simp only[zM,yW,yX,yV,Instr.sliceBound,v,y,W,asIntOf,if_pos M,if_pos L,if_pos T];rfl
      unfold execOp;simp only[Y,Instr.sliceAt,yW,run_underlying ht,yV,hv,Instr.slice,V,aR J,yX]
   .refine .bsl _ _ _ _ hb (by omega) (by unfold lim;omega) λhk=>?_
    have hk':k≠0:=by omega
    rw[if_neg (by omega),R hk']
    simp[bS]
  |none=>
   rw[p] at h;obtain⟨⟨U,h2,h3,h4⟩,S⟩:=h;subst U
   have O:mx=none:=by
    cases mx with
    |none=>rfl
    |some q=>
     simp only[lY] at g;split at g
     .cases g;cases p
     .cases g
   refine OpS.pure _ hd S λE G a w hs=>?_;have i:=hs.ev hx;rw[C] at i;obtain⟨I,hv,hb,hmk,hml,R⟩:=i.cj
   have V:(Instr.sliceBounds true m k (lo.map a.eval) (H.map a.eval) none).run P w=.ok (0,nb.toNat,k) w:=by
    unfold Instr.sliceBounds;rcases d E G a w hs with ⟨z,y⟩|⟨xl,kl,z,y⟩<;>rcases f E G a w hs with ⟨A,v⟩|⟨xh,kh,A,v⟩<;>subst z A
    .subst v;simp
    .have:0<=nb/\nb<=(k:Int):=by omega
     simp[v,Instr.sliceBound,asIntOf,this]
    .subst v;simp[y,Instr.sliceBound,asIntOf]
    .have M:0<=nb/\nb<=(k:Int):=by omega
     have L:(0:Int)<=0/\(0:Int)<=((nb.toNat:Nat):Int):=by omega
     simp only[zM,yW,yX,yV,Instr.sliceBound,v,y,asIntOf,if_pos M,Zu,if_pos L];rfl
   refine⟨.slice (if k=0 then I else I.map (·.add (0*sz))) (nb.toNat-0) (k-0),?_,?_⟩
   .unfold execOp;simp only[Y,Instr.sliceAt,yW,run_underlying ht,yV,hv,Instr.slice,O,yI,V,aR J,yX]
   .refine .bsl _ _ _ _ hb (by omega) (by unfold lim;omega) λhk=>?_
    rw[if_neg hk,R hk];simp[bS]
 .exact h.elim
theorem Es{x:Operand}{t:Nat}{lo i:Option Operand}(z:o.op=.slice t x lo i none){rx:Opd}{q u:Option Opd}(C:opd x=some rx)(m:lY lo=some q)(p:lY i=some u)(F:P.underlying t=some .string)
  (h:BU (s.ev rx) (q.map s.ev) (u.map s.ev) λr=>K (s.put o.dst r)):OpS P o s K:=by
 have L:∀c,o.op≠.defer c:=λc e=>by rw[z] at e;cases e
 unfold BU at h;split at h
 .rename_i t j;obtain⟨b,B,h⟩:=dE h;obtain⟨nb,A,h⟩:=dE h;obtain⟨⟨X,W,V⟩,O⟩:=h;refine OpS.pure _ L O λE G a w hs=>?_;have g:=hs.ev C;rw[j] at g;obtain⟨D,H⟩:=g.cK
  have I:(lo=none/\b=0)\/∃x k,lo=some x/\a.eval x=.int k b:=by
   obtain⟨n,l,hr⟩:=jH hs m (B (λn=>n=b) rfl);subst l;exact hr
  have J:(i=none/\nb=(t.size:Int))\/∃x k,i=some x/\a.eval x=.int k nb:=by
   obtain⟨n,l,hr⟩:=jH hs p (A (λn=>n=nb) rfl);subst l;exact hr
  refine⟨.string (t.extract b.toNat nb.toNat),?_,.flat (.str _ ?_)⟩
  .have Q:(Instr.sliceBounds false t.size t.size (lo.map a.eval) (i.map a.eval) none).run P w=.ok (b.toNat,nb.toNat,t.size) w:=by
    unfold Instr.sliceBounds;rcases I with ⟨v,d⟩|⟨R,T,v,d⟩<;>rcases J with ⟨y,f⟩|⟨S,U,y,f⟩<;>subst v y
    .subst d f;simp
    .subst d;have:0<=nb/\nb<=(t.size:Int):=by omega
     simp[f,Instr.sliceBound,asIntOf,this]
    .subst f;have:0<=b/\b<=(t.size:Int):=by omega
     simp[d,Instr.sliceBound,asIntOf,this]
    .have N:0<=nb/\nb<=(t.size:Int):=by omega
     have M:0<=b/\b<=((nb.toNat:Nat):Int):=by omega
     simp only[zM,yW,yX,yV,Instr.sliceBound,f,d,asIntOf,if_pos N,Zu,if_pos M]
   unfold execOp;simp only[z,Instr.sliceAt,yW,run_underlying F,yV,D,Instr.slice,yI,Zu,ZX,if_false,Q,yX]
  .rw [ByteArray.size_extract];omega
 .exact h.elim
end
end Go.AM
