/-
  Texts of this aZ joined (wip/gen/bundle.py),those declarations only that are needed:AmRw Av AmVw. By an AI agent.
-/
import Derived.Test.YtpihbplamelcnaaGreatBap
set_option linter.unusedSimpArgs false
set_option linter.unusedVariables false
namespace Go.AM
open Go.CK Go.RowKit
def aS{α:Type}(f:α->AV)(z k:Nat)(l:List α):Box:=.row (cellsOf (l.map f)++List.replicate ((k-l.length)*z) .top)
structure Plain{α:Type}(f:α->AV)(z:Nat):Prop where
 pos:0<z
 sz:∀x,(f x).cells.length=z
 de:∀x,∀c∈(f x).cells,c.aG=c
 flat:∀x,∀c∈(f x).cells,c.a7=true
theorem uk:∀{l:List AV} {c:AV},c∈cellsOf l->∃x∈l,c∈x.cells
 |[],_,h=>by cases h
 |x::l,c,h=>by
  rcases zY.1 h with h|h
  .exact ⟨x,by simp,h⟩
  .obtain ⟨y,h1,h2⟩:=uk h;exact⟨y,by simp[h1],h2⟩
section
variable{α:Type}{f:α->AV}{z:Nat}
theorem Plain.len(h:Plain f z)(l:List α):(cellsOf (l.map f)).length=l.length*z:=by
 rw[bI (z:=z) λy hy=>by obtain⟨x,_,rfl⟩:=zk.1 hy;exact h.sz x,zF]
theorem Plain.mem(h:Plain f z){l:List α}{c:AV}(hc:c∈cellsOf (l.map f)):c.aG=c/\c.a7=true:=by
 obtain⟨y,h1,h2⟩:=uk hc;obtain⟨x,_,rfl⟩:=zk.1 h1;exact⟨h.de x c h2,h.flat x c h2⟩
theorem Plain.take(h:Plain f z)(l:List α)(p:List AV):(cellsOf (l.map f)++p).take (l.length*z)=cellsOf (l.map f):=by
 rw[<-h.len l];simp
theorem fG{bs:List Box}{b:Nat}{cs:List AV}(h:bs[b]? =some (.row cs)):rowAt bs b=some cs:=by
 unfold rowAt;rw[h]
theorem Kj{bs:List Box}{b m k:Nat}{cs:List AV}{K:Nat->Nat->List AV->Option Nat->Prop}(h:bs[b]? =some (.row cs))(k':K m k cs (some b)):sS bs (.bsl b m k) K:=by
 simp only[sS,fG h];exact k'
theorem qW.row(hp:Plain f z){e:List (Nat×AV)}{bs:List Box}{lo:Nat}{b m k:Nat}{l l':List α}{o:Cap}{K:AV->St->Prop}(hb:bs[b]? =some (aS f z k l))(hm:m=l.length)(hk:m<=k)(hlim:m+l'.length<=4294967296)
  (h:∀k',(l++l').length<=k'->K (.bsl bs.length (l++l').length k') ⟨e,bs.set b .dead++[aS f z k' (l++l')],lo⟩):qW z ⟨e,bs,lo⟩ (.bsl b m k) (.sl o (l'.map f)) K:=by
 subst hm;refine⟨Kj hb ?_⟩;refine⟨λy hy=>by obtain⟨x,_,rfl⟩:=zk.1 hy;exact hp.sz x,?_⟩
 rw[zF];refine⟨⟨hp.pos,?_,hlim,λx hx=>?_⟩,λk' hk'=>?_⟩
 .rw [zC,hp.len,zf,<-ZM];exact ZE _ (by omega)
 .rw [hp.take] at hx;exact(hp.mem hx).1
 .rw [hp.take,<-zg,<-oX,<-zu];have:=h k' (by simpa using hk')
  simp only[zC] at this;unfold aS at this;simp only[zC] at this;exact this
theorem qW.one(hp:Plain f z){e:List (Nat×AV)}{bs:List Box}{lo:Nat}{b m k:Nat}{l:List α}{x:α}{o:Cap}{K:AV->St->Prop}(hb:bs[b]? =some (aS f z k l))(hm:m=l.length)(hk:m<=k)(hlim:m+1<=4294967296)
  (h:∀k',(l++[x]).length<=k'->K (.bsl bs.length (l++[x]).length k') ⟨e,bs.set b .dead++[aS f z k' (l++[x])],lo⟩):qW z ⟨e,bs,lo⟩ (.bsl b m k) (.sl o [f x]) K:=
 qW.row (l':=[x]) hp hb hm hk hlim h
theorem MkN.row(hp:Plain f z)(x:α){e:List (Nat×AV)}{bs:List Box}{lo:Nat}{ik jk:IntKind}{n m:Int}{K:AV->St->Prop}(hn:0<=n/\n<=m/\m<=4294967296)(h:K (.bsl bs.length n.toNat m.toNat) ⟨e,bs++[aS f z m.toNat (List.replicate n.toNat x)],lo⟩):MkN z (f x) ⟨e,bs,lo⟩ (.int ik n) (.int jk m) K:=by
 refine⟨⟨⟨hp.pos,hn⟩,?_⟩⟩;simpa only[aS,List.map_replicate,zf] using h
theorem RS.KD{E:Entry}{G:Gh}{s:St}{a:Act}{w:World}(h:RS E G s a w):RS E G ⟨s.env,s.bs++[.row []],s.lo⟩ a w:=by
 have:=h.reb (bs':=s.bs++[.row []]) (σ':=G.σ) id (by simp) (λ_ _=>rfl) (λb x hb=>jR rfl hb) (λb cs' hc=>by
  rw[aT] at hc;split at hc
  .cases hc
  .exact ⟨cs',hc,rfl,zG _,λj x hx=>.inr ⟨hx,.inl rfl⟩⟩) (λb b' _ _ _ _ e=>e)
 exact this
theorem aE.Kc(s:St)(t:Nat)(h0:aq s.env t=some (.sl .full [])):aE s ⟨aV s.env t (.bsl s.bs.length 0 0),s.bs++[.row []],s.lo⟩:=λE G a w hs=>by
 have h1:=hs.KD;have hat:(⟨s.env,s.bs++[.row []],s.lo⟩:St).at (.sl t)=some (.sl .full []):=h0;have hv:=h1.val _ _ hat;simp only[AV.aG] at hv;refine⟨G,h1.upd (q:=.sl t) hat ?_⟩;obtain⟨ad,kk,B,off,sz',e1,_,_,_,e2,_⟩:=hv.fi;have:=e2 rfl;subst this;rw[e1];exact .bsl _ _ _ _ (by simp) (zG _) (zJ _) (λh=>absurd rfl h)
theorem ah.Kc{s t:St}(k:Nat)(h0:aq s.env k=some (.sl .full []))(h:ah ⟨aV s.env k (.bsl s.bs.length 0 0),s.bs++[.row []],s.lo⟩ t):ah s t:=⟨(aE.Kc s k h0).trans h.out⟩
theorem iB.Cx{M:Hp}{B:Nat}{L:List AV}{p:List AV}(hz:∀y∈L,y.cells.length=z)(h:Cells M B 0 (cellsOf L++p)):iB M B 0 z L:=λi hi=>by
 have hl:=bI hz;have hc:=hz _ (zc hi);refine⟨hc,λj hj=>?_⟩
 have hij:i*z+j<(cellsOf L).length:=by
  rw[hl];have:=ZE z hi;rw[Nat.succ_mul] at this;omega
 obtain⟨v,h1,h2,h3⟩:=h (i*z+j) (by rw[zC];omega)
 refine⟨v,?_,h2,?_⟩
 .rw [ZI] at h1|-;exact h1
 .rw [ZH hij] at h3;have hg:=kv hz i hi j (by omega)
  rw[zA hij,zA hj] at hg;rw[<-yX hg];exact h3
theorem aE.froze(hp:Plain f z)(s:St)(t:Nat){b m k:Nat}{l:List α}(h0:aq s.env t=some (.bsl b m k))(hb:s.bs[b]? =some (aS f z k l))(hm:m=l.length):aE s ⟨aV s.env t (.sl .no (l.map f)),s.bs.set b .dead,s.lo⟩:=λE G a w hs=>by
 subst hm;have hz:∀y∈l.map f,y.cells.length=z:=λy hy=>by obtain⟨x,_,rfl⟩:=zk.1 hy;exact hp.sz x
 have hat:s.at (.sl t)=some (.bsl b l.length k):=h0;have hv0:=hs.val _ _ hat;obtain⟨ad,hv,hbl,hmk,hml,had⟩:=hv0.er
 by_cases hk:k=0
 .subst hk;have hl:l=[]:=zL (by omega)
  subst hl
  have h1:=hs.reb (bs':=s.bs.set b .dead) (σ':=G.σ) id (by simp) (λ_ _=>rfl) (λc x hc=>nr hc) (λc cs' hc=>by
   rw[bY] at hc;split at hc
   .cases hc
   .exact ⟨cs',hc,rfl,zG _,λj x hx=>.inr ⟨hx,.inl rfl⟩⟩) (λb b' _ _ _ _ e=>e)
  refine⟨_,h1.upd (q:=.sl t) (x:=.sl .no ([].map f)) hat ?_⟩;show RV G.M G.σ _ _ (au G.σ a w (.sl t));rw[hv];exact .flat (FV.j9 (l:=[]) (B:=0) (off:=0) (sz:=z) (by simp) (zG _) (zJ _) (by simp) (λh=>absurd rfl h) (λi hi=>by cases hi))
 .have hne:cellsOf (l.map f)++List.replicate ((k-l.length)*z) .top≠[]:=λe=>by
   have:=congrArg List.length e;rw[zC,hp.len,zf,<-ZM,ZQ] at this;have h2:0<(l.length+(k-l.length))*z:=Nat.mul_pos (by omega) hp.pos
   omega
  have hbc:ab s.bs b=some (cellsOf (l.map f)++List.replicate ((k-l.length)*z) .top):=cM (fG hb) hne
  obtain⟨G',h1,h2,h3⟩:=hs.dead hbc (λx hx=>by
   rcases zY.1 hx with hx|hx
   .exact (hp.mem hx).2
   .rw [(Zc.1 hx).2];rfl)
  refine⟨G',h1.upd (q:=.sl t) (x:=.sl .no (l.map f)) (y:=.bsl b l.length k) h0 ?_⟩;show RV G'.M G'.σ _ _ (au G'.σ a w (.sl t));have hva:au G'.σ a w (.sl t)=.slice ad l.length k:=hv;rw[hva,had hk];have:=FV.j9 (M:=G'.M) (o:=.no) (l:=l.map f) (a:=some ⟨G.σ b,0,none⟩) (k:=k) (B:=G.σ b) (off:=0) (sz:=z) (by simp) (by simpa using hmk) (by first|(simpa using hml)|(have:=glim_le hml;simpa using this)) (by simp) (λ_=>rfl) (iB.Cx hz h3)
  rw[zF] at this;exact .flat this
theorem ae.froze(hp:Plain f z){s:St}{t:Nat}{b m k:Nat}{l:List α}{Q:AV->List Box->Prop}(h0:aq s.env t=some (.bsl b m k))(hb:s.bs[b]? =some (aS f z k l))(hm:m=l.length)(h:ae ⟨aV s.env t (.sl .no (l.map f)),s.bs.set b .dead,s.lo⟩ [.slot t] Q):ae s [.slot t] Q:=by
 obtain⟨s',h3,h4⟩:=h.out;exact⟨s',(aE.froze hp s t h0 hb hm).trans h3,h4⟩
end
section
variable{E:Entry}{G:Gh}{s:St}{a:Act}{w:World}
theorem uU{bs:List Box}{b:Nat}{cs:List AV}(hb:b<bs.length)(h0:cs≠[])(c:Nat):ab (bs.set b (.row cs)) c=if c=b then some cs else ab bs c:=by
 simp only[ab,zq]
 by_cases e:b=c
 .subst e;simp only[if_true,hb,my,if_neg h0]
 .rw [if_neg e,if_neg (λx=>e x.symm)]
theorem RS.My(h:RS E G s a w){b:Nat}{cs cs':List AV}(hb:ab s.bs b=some cs){w':World}{vs':Array Value}{T:TypeId}(hc':w'.heap[G.σ b]? =some (.cells vs' T (0,0)))(hsz:cs'.length<=vs'.size)(hne:cs'≠[])
  (hos:w'.os=w.os) (htp:w'.tape=w.tape) (hout:w'.output=w.output) (hsize:w.heap.size<=w'.heap.size) (hother:∀B,B<w.heap.size->B≠G.σ b->w'.heap[B]? =w.heap[B]?)
  (hv:∀(j:Nat) (hj:j<cs'.length) v,vs'[j]? =some v->v.oneCell'=true/\RV G.M G.σ s.bs.length cs'[j] v):RS E G ⟨s.env,s.bs.set b (.row cs'),s.lo⟩ a w':=by
 have hblt:=h.blt hb;have hbl:=aC hb;obtain⟨vs,T0,hc,hvl⟩:=h.box b cs hb;obtain⟨hM,hmine⟩:=h.bmem b cs hb;have hset:∀c,ab (s.bs.set b (.row cs')) c=if c=b then some cs' else ab s.bs c:=uU hbl hne;have hlen:(s.bs.set b (.row cs')).length=s.bs.length:=by simp
 have hcl:∀p B,G.cl p=some B->B≠G.σ b:=λp B hB e=>h.clbox p B hB b cs hb e.symm
 have hval:∀p y,(⟨s.env,s.bs.set b (.row cs'),s.lo⟩:St).at p=some y->(s.at p=some y/\au G.σ a w' p=au G.σ a w p)\/∃j,∃hj:j<cs'.length,p=.bx b j/\y=cs'[j]/\vs'[j]? =some (au G.σ a w' p):=λp y hp=>by
  cases p with
  |sl t=>exact .inl ⟨hp,rfl⟩
  |bx c j=>
   simp only[St.at,hset] at hp
   by_cases e:c=b
   .subst e;rw[if_pos rfl] at hp;simp only[ZG] at hp;obtain⟨hj,hy⟩:=zB.1 hp;refine .inr ⟨j,hj,rfl,hy.symm,?_⟩;simp only[au,World.cell?,hc'];have:j<vs'.size:=by omega
    simp[this]
   .rw [if_neg e] at hp;refine .inl ⟨hp,?_⟩
    cases hbc:ab s.bs c with
    |none=>rw[hbc] at hp;cases hp
    |some ds=>
     simp only[au];rw[bX (hother _ (h.blt hbc) (λe2=>e (h.inj c b ds cs hbc hb e2)))]
 have hbox:∀c ds,ab (s.bs.set b (.row cs')) c=some ds->(c=b/\ds=cs')\/(c≠b/\ab s.bs c=some ds):=λc ds hcd=>by
  rw[hset] at hcd;split at hcd
  .rename_i e;cases hcd;exact .inl ⟨e,rfl⟩
  .rename_i e;exact .inr ⟨e,hcd⟩
 have hcs:∀c ds,ab (s.bs.set b (.row cs')) c=some ds->∃es,ab s.bs c=some es:=λc ds hcd=>by
  rcases hbox c ds hcd with ⟨rfl,_⟩|⟨_,h1⟩
  .exact ⟨cs,hb⟩
  .exact ⟨ds,h1⟩
 refine⟨⟨hos.trans h.fr.os,htp.trans h.fr.tape,hout.trans h.fr.output,ZO h.fr.size hsize,h.fr.le,λB hB hn=>?_,h.fr.mem⟩,λB o u hu=>?_,h.nt,λp y hp=>?_,λc j y hp=>?_,λc ds hcd=>?_,λc ds hcd=>?_,λc c' ds ds' hcd hcd' e=>?_,λp z l hp=>?_,h.clinj,λp B hB c ds hcd=>?_,λp B hB=>?_,h.lo,by rw[hlen];exact h.len,h.sig,h.sp.step (Hp.le_refl _) (λ_ _=>rfl) (λc x hx=>?_) (λB o ho hk=>?_) (λ_ _ _ _ p k=>⟨p,k⟩) (λ_ k=>k)⟩
 .have hne2:B≠G.σ b:=λe=>by
   subst e;rcases hmine with hm|hm
   .exact hn hm
   .omega
  rw[hother B (ZV hB h.fr.size) hne2];exact h.fr.heap B hB hn
 .have h1:=h.ok _ _ _ hu;have hne2:B≠G.σ b:=λe=>by rw[e,hM] at hu;cases hu
  simp only[Hp.of] at h1|-;rw[bX (hother B (Hp.lt h.ok hu) hne2)];exact h1
 .rw [hlen];rcases hval p y hp with ⟨h1,h2⟩|⟨j,hj,rfl,rfl,h3⟩
  .rw [h2];exact h.val p y h1
  .have:=(hv j hj _ h3).2;rw[this.cm];exact this
 .rcases hval _ y hp with ⟨h1,h2⟩|⟨j',hj,e,rfl,h3⟩
  .rw [h2];exact h.one c j y h1
  .cases e;exact(hv _ hj _ h3).1
 .rcases hbox c ds hcd with ⟨rfl,rfl⟩|⟨h1,h2⟩
  .exact ⟨vs',T,hc',hsz⟩
  .obtain ⟨us,T',h4,h5⟩:=h.box c ds h2;exact⟨us,T',by rw[hother _ (h.blt h2) (λe2=>h1 (h.inj c b ds cs h2 hb e2))];exact h4,h5⟩
 .obtain ⟨es,h1⟩:=hcs c ds hcd;exact h.bmem c es h1
 .obtain ⟨es,h1⟩:=hcs c ds hcd;obtain⟨es',h1'⟩:=hcs c' ds' hcd';exact h.inj c c' es es' h1 h1' e
 .rcases hval p _ hp with ⟨h1,h2⟩|⟨j,hj,rfl,e,h3⟩
  .obtain ⟨ad,k,q1,q2,q3⟩:=h.own p z l h1;refine⟨ad,k,by rw[h2];exact q1,q2,?_⟩
   rcases q3 with q3|⟨B,hB,q4,q5⟩
   .exact .inl q3
   .obtain ⟨us,T',q6,q7⟩:=q5.cells;exact .inr ⟨B,hB,q4,q5.lt,⟨us,T',by rw[hother B (h.cllt p B hB).1 (hcl p B hB)];exact q6,q7⟩,q5.free,q5.mine⟩
  .have:=(hv j hj _ h3).2.cm;rw[<-e] at this;simp[AV.aG] at this
 .obtain ⟨es,h1⟩:=hcs c ds hcd;exact h.clbox p B hB c es h1
 .obtain ⟨h1,h2⟩:=h.cllt p B hB;exact⟨ZV h1 hsize,h2⟩
 .by_cases e:b=c
  .subst e;simp[ag,hbl,Box.lb?] at hx
  .simp only[ag,zq,if_neg e] at hx;exact hx
 .rw [hother B (zh.1 ho).1 (λe=>by subst e;rw[hc] at ho;cases ho;cases hk)]
  exact ho
end
theorem Plain.NB{α:Type}{f:α->AV}{z:Nat}(hp:Plain f z)(l:List α)(q n:Nat):∀x∈cellsOf (l.map f)++List.replicate q .top,x.aG=x/\x.lt n=true:=λx hx=>by
 rcases zY.1 hx with hx|hx
 .obtain ⟨h1,h2⟩:=hp.mem hx;refine⟨h1,?_⟩;cases x<;>first|(cases h2;done)|rfl
 .rw [(Zc.1 hx).2];exact⟨rfl,rfl⟩
theorem ae.slot{s:St}{t:Nat}{Q:AV->List Box->Prop}(h:Q (s.get t) s.bs):ae s [.slot t] Q:=⟨s,aE.refl s,.inl h⟩
theorem v7:Plain (AV.int .i64) 1:=⟨yH,λ_=>rfl,λx c h=>by simp[AV.cells] at h;subst h;rfl,λx c h=>by simp[AV.cells] at h;subst h;rfl⟩
def i7(v:AV)(xs:List Int):List (Int×AV):=xs.foldl (λl n=>iq l n v) []
theorem Eo(v:AV):∀(l:List (Int×AV)) (n m:Int),mZ (iq l n v) m=if m=n then some v else mZ l m
 |[],n,m=>by simp only[iq,mZ]
 |(k,x)::l,n,m=>by
  simp only[iq]
  by_cases h:n=k
  .subst h;simp only[if_true,mZ]
   by_cases h2:m=n<;>simp[h2]
  .simp only[if_neg h,mZ]
   by_cases h2:m=k
   .subst h2;rw[if_pos rfl,if_neg (λe=>h e.symm),if_pos rfl]
   .rw [if_neg h2,if_neg h2,Eo v l n m]
theorem MT(v:AV)(xs:List Int)(n:Int):mZ (i7 v xs) n=if n∈xs then some v else none:=by
 have:∀(xs:List Int) (l:List (Int×AV)),mZ (xs.foldl (λl n=>iq l n v) l) n=if n∈xs then some v else mZ l n:=λxs=>by
  induction xs with
  |nil=>intro l;simp
  |cons x xs ih=>
   intro l;rw[yG,ih,Eo]
   by_cases h1:n∈xs
   .simp [h1]
   .by_cases h2:n=x
    .simp [h2]
    .simp [h1,h2]
 rw[i7,this];simp[mZ]
theorem Ek(v:AV)(xs:List Int)(n:Int):iq (i7 v xs) n v=i7 v (xs++[n]):=by simp[i7]
theorem Dm.set{v:AV}{xs:List Int}{n:Int}{ok:Bool}{z:AV}{K:AV->Prop}(hv:cu v=true)(h1:n∈xs->K (okR ok v true))(h2:n∉xs->K (okR ok z false)):Dm (i7 v xs) n ok z K:=by
 refine⟨?_⟩;rw[MT]
 by_cases h:n∈xs
 .simp only[if_pos h];exact⟨hv,h1 h⟩
 .simp only[if_neg h];exact h2 h
theorem cells_one{α:Type}{f:α->AV}(hf:∀x,(f x).cells=[f x])(l:List α):cellsOf (l.map f)=l.map f:=by
 induction l with
 |nil=>rfl
 |cons x l ih=>rw[zP,cellsOf,ih,hf];rfl
theorem vv{α:Type}{f:α->AV}(hf:∀x,(f x).cells=[f x]){bs:List Box}{b k i:Nat}{l:List α}{x:α}(hb:bs[b]? =some (aS f 1 k l))(hx:l[i]? =some x):ab bs b=some (l.map f++List.replicate (k-l.length) AV.top):=by
 have hrow:bs[b]? =some (.row (l.map f++List.replicate (k-l.length) AV.top)):=by
  rw[hb];simp only[aS,cells_one hf,Nat.mul_one]
 refine cM (fG hrow) λe=>?_;have:=congrArg List.length e;rw[zC,zF,ZQ] at this;have hi:=(zB.1 hx).1;omega
theorem ElN.one{α:Type}{f:α->AV}(hf:∀x,(f x).cells=[f x]/\(f x).aG=f x){e:List (Nat×AV)}{bs:List Box}{lo b k i:Nat}{l:List α}{x:α}{K:AV->Prop}(hb:bs[b]? =some (aS f 1 k l))(hx:l[i]? =some x)(h:K (f x)):ElN false 1 ⟨e,bs,lo⟩ (.elp b i 1 0) K:=by
 refine⟨?_⟩;have hi:=(zB.1 hx).1;simp only[St.rd,vv (λx=>(hf x).1) hb hx,Nat.mul_one,Zk];rw[List.drop_append_of_le_length (by rw[zF];omega),<-List.map_drop,zH hi,(zB.1 hx).2]
 simp only[zP,ze,b9,(hf x).2];exact h
theorem EsN.one{α:Type}{f:α->AV}(hf:∀x,(f x).cells=[f x]/\ba (f x)=true){e:List (Nat×AV)}{bs:List Box}{lo b k i:Nat}{l:List α}{x y:α}{K:St->Prop}(hb:bs[b]? =some (aS f 1 k l))(hx:l[i]? =some x)(h:K ⟨e,bs.set b (aS f 1 k (l.set i y)),lo⟩):EsN 1 ⟨e,bs,lo⟩ b i 1 0 (f y) K:=by
 refine⟨?_⟩;have hi:=(zB.1 hx).1;simp only[mr,vv (λx=>(hf x).1) hb hx,Nat.mul_one,Zk];refine⟨⟨(hf y).2,by rw[(hf y).1];rfl,by omega,by rw[zC,zF];omega⟩,?_⟩
 have he:setAt (l.map f++List.replicate (k-l.length) AV.top) i (f y).cells=(l.set i y).map f++List.replicate (k-(l.set i y).length) AV.top:=by
  simp only[(hf y).1,setAt,zm,List.map_set];rw[List.set_append,if_pos (by rw[zF];exact hi)]
 rw[he];have e2:aS f 1 k (l.set i y)=.row ((l.set i y).map f++List.replicate (k-(l.set i y).length) AV.top):=by simp only[aS,cells_one (λx=>(hf x).1),Nat.mul_one]
 rw[<-e2];exact h
theorem KN:Plain AV.bool 1:=⟨yH,λ_=>rfl,λx c h=>by simp[AV.cells] at h;subst h;rfl,λx c h=>by simp[AV.cells] at h;subst h;rfl⟩
theorem RS.x5{α:Type}{f:α->AV}{z:Nat}(hp:Plain f z){E:Entry}{G:Gh}{s:St}{a:Act}{w:World}(hs:RS E G s a w){b k0:Nat}{l:List α}(hb:s.bs[b]? =some (aS f z k0 l)):
  ∃G',RS E G' ⟨s.env,s.bs.set b .dead,s.lo⟩ a w/\G'.σ=G.σ/\∀(m k:Nat) (v:Value),m<=l.length->RV G.M G.σ s.bs.length (.bsl b m k) v->FV G'.M (.sl .no ((l.take m).map f)) v:=by
 have hz:∀y∈l.map f,y.cells.length=z:=λy hy=>by obtain⟨x,_,rfl⟩:=zk.1 hy;exact hp.sz x
 by_cases hne:cellsOf (l.map f)++List.replicate ((k0-l.length)*z) AV.top=[]
 .have hl:l=[]:=by
   have:=congrArg List.length hne;rw[zC,hp.len,ZQ] at this;have h0:=hp.pos
   cases l with
   |nil=>rfl
   |cons x l=>simp only[zX,Nat.succ_mul] at this;omega
  subst hl
  have h1:=hs.reb (bs':=s.bs.set b .dead) (σ':=G.σ) id (by simp) (λ_ _=>rfl) (λc x hc=>nr hc) (λc cs' hc=>by
   rw[bY] at hc;split at hc
   .cases hc
   .exact ⟨cs',hc,rfl,zG _,λj x hx=>.inr ⟨hx,.inl rfl⟩⟩) (λb b' _ _ _ _ e=>e)
  refine⟨_,h1,rfl,λm k v hm hv=>?_⟩;simp only[ZQ,Nat.le_zero] at hm;subst hm;obtain⟨ad,rfl,_,_,_,_⟩:=hv.er;exact FV.j9 (l:=[]) (B:=0) (off:=0) (sz:=z) (by simp) (zJ _) (zJ _) (by simp) (λh=>absurd rfl h) (λi hi=>by cases hi)
 .have hbc:ab s.bs b=some (cellsOf (l.map f)++List.replicate ((k0-l.length)*z) .top):=cM (fG hb) hne
  obtain⟨G',h1,h2,h3⟩:=hs.dead hbc (λx hx=>by
   rcases zY.1 hx with hx|hx
   .exact (hp.mem hx).2
   .rw [(Zc.1 hx).2];rfl)
  refine⟨G',h1,h2,λm k v hm hv=>?_⟩;obtain⟨ad,rfl,_,hmk,hml,had⟩:=hv.er;have he:=oU (iB.Cx hz h3) 0 m (by simpa using hm)
  simp only[Nat.zero_mul,Zk,List.drop_zero,<-List.map_take] at he;have hlen:((l.take m).map f).length=m:=by simp;omega
  have:=FV.j9 (M:=G'.M) (o:=.no) (l:=(l.take m).map f) (a:=ad) (k:=k) (B:=G.σ b) (off:=0) (sz:=z) (by simp) (by omega) (by rw [hlen];first|exact hml|exact glim_le hml) (by simp) (λh0=>had (λe=>by
   subst e;have:m=0:=by omega
   subst this;simp at h0)) he
  rw[hlen] at this;exact this
theorem aE.dq{α:Type}{f:α->AV}{z:Nat}(hp:Plain f z)(s:St)(c i:Nat){cs:List AV}{b m k k0:Nat}{l:List α}(h0:s.bs[c]? =some (.cells cs))(hi:cs[i]? =some (.bsl b m k))(hb:s.bs[b]? =some (aS f z k0 l))(hm:m<=l.length):aE s ⟨s.env,(s.bs.set b .dead).set c (.cells (cs.set i (.sl .no ((l.take m).map f)))),s.lo⟩:=λE G a w hs=>by
 have hcb:c≠b:=λe=>by subst e;rw[h0] at hb;cases hb
 have hbc:ab s.bs c=some cs:=by simp only[ab,h0];rfl
 have hbc':ab (s.bs.set b .dead) c=some cs:=by rw[bY,if_neg hcb];exact hbc
 have hat:s.at (.bx c i)=some (.bsl b m k):=by simp only[St.at,hbc,ZG];exact hi
 have hv0:=hs.val _ _ hat;have hde:(AV.bsl b m k).aG=.bsl b m k:=rfl;rw[hde] at hv0;obtain⟨G',h1,hσ,hth⟩:=hs.x5 hp hb;have hfv:=hth m k _ hm hv0;have hat':(⟨s.env,s.bs.set b .dead,s.lo⟩:St).at (.bx c i)=some (.bsl b m k):=by simp only[St.at,hbc',ZG];exact hi
 have h2:=h1.upd (q:=.bx c i) (x:=.sl .no ((l.take m).map f)) hat' (by
  show RV G'.M G'.σ _ _ (au G'.σ a w (.bx c i));have hva:au G'.σ a w (.bx c i)=au G.σ a w (.bx c i):=by simp only[au,hσ]
  rw[hva];exact .flat hfv)
 refine⟨G',?_⟩;have e:(⟨s.env,s.bs.set b .dead,s.lo⟩:St).upd (.bx c i) (.sl .no ((l.take m).map f))=⟨s.env,(s.bs.set b .dead).set c (.cells (cs.set i (.sl .no ((l.take m).map f)))),s.lo⟩:=by simp only[St.upd,hbc',St.bz]
 rw[<-e];exact h2
theorem ae.dq{α:Type}{f:α->AV}{z:Nat}(hp:Plain f z){s:St}(c i:Nat){cs:List AV}{b m k k0:Nat}{l:List α}{rs:List cL}{Q:AV->List Box->Prop}(h0:s.bs[c]? =some (.cells cs))(hi:cs[i]? =some (.bsl b m k))(hb:s.bs[b]? =some (aS f z k0 l))(hm:m<=l.length)(h:ae ⟨s.env,(s.bs.set b .dead).set c (.cells (cs.set i (.sl .no ((l.take m).map f)))),s.lo⟩ rs Q):ae s rs Q:=by
 obtain⟨s',h3,h4⟩:=h.out;exact⟨s',(aE.dq hp s c i h0 hi hb hm).trans h3,h4⟩
end Go.AM
namespace Go.CK
open Go.RowKit Go.AM
abbrev c6(n:Int):AV:=.int .i64 n
abbrev slA{α:Type}(f:α->AV)(l:List α):AV:=.sl .no (l.map f)
def CF(M:Hp)(cs:List AV)(c:List Value):Prop:=c.length=cs.length/\∀j (h:j<cs.length) v,c[j]? =some v->FV M cs[j] v
theorem CF.nil{M:Hp}:CF M [] []:=⟨rfl,λj h=>by cases h⟩
theorem CF.cons{M:Hp}{x:AV}{cs:List AV}{v:Value}{c:List Value}(h:FV M x v)(k:CF M cs c):CF M (x::cs) (v::c):=
 ⟨by simp[k.1],λj hj u hu=>by
  cases j with
  |zero=>simp only[Zs,zN] at hu;subst hu;exact h
  |succ j=>exact k.2 j (by simpa using hj) u (by simpa using hu)⟩
theorem Sl.fv{α:Type}{R:Hp->List Value->α->Prop}{f:α->AV}{M:Hp}{sz:Nat}{a:Option Addr}{l:List α}{k:Nat}(h:Sl M sz (R M) a l)(hk:l.length<=k)(hR:∀x∈l,∀c,R M c x->CF M (f x).cells c/\∀u∈c,u.oneCell'=true):FV M (.sl .no (l.map f)) (.slice a l.length k):=by
 have hlen:(l.map f).length=l.length:=by simp
 rw[<-hlen]
 by_cases h0:0<l.length
 .obtain ⟨b,o,ha⟩:=h.addr h0;refine FV.j9 (B:=b) (off:=o) (sz:=sz) (λz e=>by cases e) (by rw[hlen];exact hk) (by rw[hlen];exact h.le) (λe=>by cases e) (λ_=>ha) (λi hi=>?_)
  rw[hlen] at hi;obtain⟨b',o',cs,h1,h2,h3,h4⟩:=h.at_ i hi;rw[ha] at h1;simp only[zN,Addr.mk.injEq,and_true] at h1;obtain⟨rfl,rfl⟩:=h1;obtain⟨⟨h5,h6⟩,h7⟩:=hR _ (zc hi) cs h4;rw[ZD];refine⟨by rw[<-h5,h2],λj hj=>?_⟩
  have hj2:j<cs.length:=by rw[h5];exact hj
  have hj3:cs[j]? =some cs[j]:=zA hj2;exact⟨cs[j],h3 j _ hj3,h7 _ (zc hj2),h6 j hj _ hj3⟩
 .have:l=[]:=ZY.1 (by omega)
  subst this;exact FV.j9 (B:=0) (off:=0) (sz:=0) (λz e=>by cases e) (by simp) (by simp) (λe=>by cases e) (λe=>absurd rfl e) (λi hi=>by cases hi)
theorem RSl.cf{α:Type}{R:Hp->List Value->α->Prop}{f:α->AV}{M:Hp}{sz:Nat}{c:List Value}{l:List α}(h:RSl sz R M c l)(hR:∀x∈l,∀c,R M c x->CF M (f x).cells c/\∀u∈c,u.oneCell'=true):CF M (slA f l).cells c/\∀u∈c,u.oneCell'=true:=by
 obtain⟨a,k,rfl,h1,h2⟩:=h;exact⟨.cons (h2.fv h1 hR) .nil,by simp[Value.oneCell']⟩
mutual
def Tm.av:Tm->AV
 |.mk k n s l=>.agg [.int .i64 k,.int .i64 n,.str s,.sl .no (Tm.avs l)]
def Tm.avs:List Tm->List AV
 |[]=>[]
 |t::l=>Tm.av t::Tm.avs l
end
theorem Tm.Db:∀l:List Tm,Tm.avs l=l.map Tm.av
 |[]=>rfl
 |t::l=>by rw[Tm.avs,Tm.Db l];rfl
def Tm.avw(t:Tm):AV:=.agg [.int .i64 t.kind,.int .i64 t.num,.str t.name,.sl .no (t.args.map Tm.av)]
theorem Tm.xL(t:Tm):t.av=t.avw:=by
 obtain⟨k,n,s,l⟩:=t;rw[Tm.av,Tm.Db];rfl
theorem Tm.xM(t:Tm):t.av.cells.length=4:=by rw[Tm.xL];rfl
theorem RTm.cf{M:Hp}{c:List Value}{t:Tm}(h:RTm M c t):CF M t.av.cells c/\∀u∈c,u.oneCell'=true:=by
 refine⟨?_,h.one⟩
 induction t using Tm.bD generalizing c with
 |h k n s l ih=>
  obtain⟨a,cap,rfl,ik,iN,is,ic,hsl⟩:=h.inv;rw[Tm.av,Tm.Db];exact .cons (.int _ _) (.cons (.int _ _) (.cons (.str _ is) (.cons (hsl.fv ic λx hx c hc=>⟨ih x hx hc,hc.one⟩) .nil)))
end Go.CK
namespace Go.AM
def AV.good(x:AV):Prop:=∃M v,FV M x v
end Go.AM
namespace Go.CK
open Go.RowKit Go.AM
theorem w8{s:ByteArray}(h:(AV.str s).good):s.size<=140737488355328:=by
 obtain⟨M,v,h⟩:=h
 cases h with
 |str _ h=>exact h
theorem oK{cs:List AV}(h:(AV.agg cs).good):∀c∈cs,c.good:=by
 obtain⟨M,v,h⟩:=h
 cases h with
 |agg _ vs hl h1 hv=>
  intro c hc;obtain⟨j,hj,rfl⟩:=Zz hc;exact⟨M,vs[j],hv j hj _ (zA (by omega))⟩
theorem M3{o:Cap}{l:List AV}(h:(AV.sl o l).good):l.length<=140737488355328/\∀y∈l,y.good:=by
 obtain⟨M,v,h⟩:=h;obtain⟨a,k,B,off,sz,_,_,_,hl,_,_,he⟩:=h.fi;refine⟨hl,λy hy=>?_⟩;obtain⟨i,hi,rfl⟩:=Zz hy;obtain⟨_,hc⟩:=he i hi;generalize l[i]=y at hc
 by_cases ha:∃cs,y=.agg cs
 .obtain ⟨cs,rfl⟩:=ha
  have hx:∀j,∃v:Value,∀(h:j<cs.length),v.oneCell'=true/\FV M cs[j] v:=λj=>by
   by_cases hj:j<cs.length
   .obtain ⟨v,_,h2,h3⟩:=hc j hj;exact⟨v,λ_=>⟨h2,h3⟩⟩
   .exact ⟨undef,λh=>absurd h hj⟩
  refine⟨M,.agg (List.ofFn λj:Fin cs.length=>(hx j).choose).toArray,.agg cs _ (by simp) (λv hv=>?_) (λj hj v hjv=>?_)⟩
  .obtain ⟨j,rfl⟩:=List.mem_ofFn.1 hv;exact((hx j).choose_spec j.2).1
  .rw [List.getElem?_ofFn,dif_pos hj] at hjv;cases hjv;exact((hx j).choose_spec hj).2
 .have h1:y.cells=[y]:=by
   cases y<;>first|rfl|exact absurd ⟨_,rfl⟩ ha
  obtain⟨v,_,_,h3⟩:=hc 0 (by rw[h1];simp)
  have:y.cells[0]'(by rw[h1];simp)=y:=by simp[h1]
  rw[this] at h3;exact⟨M,v,h3⟩
theorem cE{α:Type}{f:α->AV}{l:List α}(h:(AV.sl .no (l.map f)).good):l.length<=140737488355328/\∀y∈l,(f y).good:=by
 obtain⟨h1,h2⟩:=M3 h;exact⟨by simpa using h1,λy hy=>h2 _ (zk.2 ⟨y,hy,rfl⟩)⟩
theorem pD{t:Tm}(h:t.avw.good):t.name.size<=140737488355328/\t.args.length<=140737488355328/\∀x∈t.args,x.avw.good:=by
 have hs:=cE (oK h (.sl .no (t.args.map Tm.av)) (by simp))
 exact⟨w8 (oK h (.str t.name) (by simp)),hs.1,λx hx=>by rw[<-Tm.xL];exact hs.2 x hx⟩
theorem EO{t:Tm}(h:t.av.good):t.avw.good:=by rw[<-Tm.xL];exact h
theorem Fun.assume{P:Program}{f:FuncId}{vals:List AV}{r:AV}(hf:vals.all AV.flat=true)(h:(∀x∈vals,x.good)->Fun P f vals r):Fun P f vals r:=λbs E G a0 w args lo h1 h2 h3=>by
 refine h (λx hx=>?_) bs E G a0 w args lo h1 h2 h3;obtain⟨j,hj,rfl⟩:=Zz hx;have hjv:args[j]? =some (args[j]'(by omega)):=zA (by omega)
 exact⟨G.M,_,(h3 j hj _ hjv).Mn (zS.1 hf _ (zc hj))⟩
theorem gU.tmK{l:List Tm}{n:Nat}{K:AV->Prop}{x:Tm}(h:l[n]? =some x)(k:K x.avw):gU 4 (l.map Tm.av) (n:Int) K:=.known (by simpa using h) (by omega) Tm.xM (by rw[Tm.xL];exact k)
theorem gU.tm{l:List Tm}{n:Nat}{K:AV->Prop}(h1:n<l.length)(k:∀x,l[n]? =some x->K x.avw):gU 4 (l.map Tm.av) (n:Int) K:=.Ph h1 Tm.xM λx hx=>by rw[Tm.xL];exact k x hx
theorem Szs.tm{l:List Tm}:Szs 4 (l.map Tm.av):=.map Tm.xM
def At.av(x:At):AV:=.agg [.str x.name,.sl .no (x.args.map Tm.av)]
def Gl.av(x:Gl):AV:=.agg [.int .i64 x.op,.str x.name,.sl .no (x.args.map Tm.av)]
theorem RGl.cf{M:Hp}{c:List Value}{x:Gl}(h:RGl M c x):CF M x.av.cells c/\∀u∈c,u.oneCell'=true:=by
 refine⟨?_,h.one⟩;obtain⟨a1,k1,rfl,_,q1,q2,q3⟩:=h;exact(.cons (.int .i64 x.op) (.cons (.str x.name q1) (.cons (q3.fv q2 (λ_ _ _ hc=>RTm.cf hc)) .nil)))
theorem Gl.good{x:Gl}(h:x.av.good):x.name.size<=140737488355328/\(x.args.length<=140737488355328/\∀y∈x.args,y.avw.good):=⟨w8 (oK h (.str x.name) (by simp)),⟨(cE (oK h (.sl .no (x.args.map Tm.av)) (by simp))).1,λy hy=>EO ((cE (oK h (.sl .no (x.args.map Tm.av)) (by simp))).2 y hy)⟩⟩
def Rl.av(x:Rl):AV:=.agg [.str x.name,.sl .no (x.keep.map At.av),.sl .no (x.remove.map At.av),.sl .no (x.guard.map Gl.av),.sl .no (x.body.map Gl.av),.int .i64 x.vars]
end Go.CK
namespace Go.AM
open Go.CK Go.RowKit
def scalar:AV->Bool
 |.bool _=>true
 |.int _ _=>true
 |.str _=>true
 |_=>false
def Vw(bs:List Box)(x y:AV):Prop:=∀(E:Entry) (G:Gh) (a:Act) (w:World) (lo:Nat),RS E G ⟨[],bs,lo⟩ a w->∀v,RV G.M G.σ bs.length x v->RV (Hp.of w) G.σ 0 y v
theorem Vw.same{bs:List Box}{x:AV}(h:x.flat=true):Vw bs x x:=λ_ _ _ _ _ hs _ hv=>.flat ((hv.Mn h).mono hs.ok)
theorem Vw.row{α:Type}{f:α->AV}{z:Nat}(hp:Plain f z){bs:List Box}{b m k:Nat}{l:List α}(hb:bs[b]? =some (aS f z k l))(hm:m=l.length):Vw bs (.bsl b m k) (.sl .no (l.map f)):=λE G a w lo hs v hv=>by
 refine .flat ?_;subst hm;obtain⟨ad,rfl,hbl,hmk,hml,had⟩:=hv.er;have hz:∀y∈l.map f,y.cells.length=z:=λy hy=>by obtain⟨x,_,rfl⟩:=zk.1 hy;exact hp.sz x
 have hlm:(l.map f).length=l.length:=by simp
 by_cases hk:k=0
 .subst hk;have hl:l=[]:=zL (by omega)
  subst hl;exact FV.j9 (l:=[]) (B:=0) (off:=0) (sz:=z) (by simp) (zG _) (zJ _) (by simp) (λh=>absurd rfl h) (λi hi=>by cases hi)
 .have hne:cellsOf (l.map f)++List.replicate ((k-l.length)*z) .top≠[]:=λe=>by
   have:=congrArg List.length e;rw[zC,hp.len,zf,<-ZM,ZQ] at this;have h2:0<(l.length+(k-l.length))*z:=Nat.mul_pos (by omega) hp.pos
   omega
  have hbc:ab bs b=some (cellsOf (l.map f)++List.replicate ((k-l.length)*z) .top):=cM (fG hb) hne;rw[had hk]
  have hel:iB (Hp.of w) (G.σ b) 0 z (l.map f):=iB.Cx (p:=List.replicate ((k-l.length)*z) .top) hz λj hj=>by
   obtain⟨u,h1,h2,h3⟩:=hs.C5 (s:=⟨[],bs,lo⟩) hbc j hj;refine⟨u,by rw[ZI];exact h1,h2,?_⟩
   have hc:(cellsOf (l.map f)++List.replicate ((k-l.length)*z) AV.top)[j].aG=(cellsOf (l.map f)++List.replicate ((k-l.length)*z) AV.top)[j]/\(cellsOf (l.map f)++List.replicate ((k-l.length)*z) AV.top)[j].a7=true:=by
    have:=zc hj;rcases zY.1 this with hx|hx
    .exact hp.mem hx
    .rw [(Zc.1 hx).2];exact⟨rfl,rfl⟩
   rw[hc.1] at h3;exact(h3.a7 hc.2).mono hs.ok
  have:=FV.j9 (M:=Hp.of w) (o:=.no) (l:=l.map f) (a:=some ⟨G.σ b,0,none⟩) (k:=k) (B:=G.σ b) (off:=0) (sz:=z) (by simp) (by rw[hlm];exact hmk) (by rw [hlm];first|exact hml|exact glim_le hml) (by simp) (λ_=>rfl) hel
  rw[hlm] at this;exact this
inductive Vws (bs:List Box):List AV->List AV->Prop
 |nil:Vws bs [] []
 |cons {x y:AV} {xs ys:List AV} (h:Vw bs x y) (k:Vws bs xs ys):Vws bs (x::xs) (y::ys)
theorem Vws.len{bs:List Box}{xs ys:List AV}(h:Vws bs xs ys):ys.length=xs.length:=by
 induction h with
 |nil=>rfl
 |cons _ _ ih=>simp[ih]
theorem Vws.get{bs:List Box}{xs ys:List AV}(h:Vws bs xs ys):∀j (hj:j<xs.length) (hj':j<ys.length),Vw bs xs[j] ys[j]:=by
 induction h with
 |nil=>intro j hj;cases hj
 |cons h _ ih=>
  intro j hj hj'
  cases j with
  |zero=>exact h
  |succ j=>exact ih j (by simpa using hj) (by simpa using hj')
theorem Fun.view{P:Program}{f:FuncId}{vals vals':List AV}{r:AV}{bs:List Box}(h:Fun P f vals' r)(hr:scalar r=true)(hv:Vws bs vals vals'):Sem P f vals bs λr' bs'=>r'=r/\bs'=bs:=by
 intro E G a0 w args lo hpre hl hval
 have h0:RS ⟨λ_=>False,Hp.of w,w,0,0,G.σ,[]⟩ ⟨Hp.of w,G.σ,λ_=>none⟩ ⟨[],[],0⟩ ⟨#[],[]⟩ w:=by
  have hat:∀p x,(⟨[],[],0⟩:St).at p=some x->False:=λp x hp=>by
   cases p with
   |sl t=>simp[St.at,aq] at hp
   |bx b j=>simp[St.at,ab] at hp
  have hbx:∀b cs,ab ([]:List Box) b=some cs->False:=λb cs hb=>by simp[ab] at hb
  exact⟨Fr.refl _ _ _,Hp.le_refl _,rfl,λp x hp=>(hat p x hp).elim,λb j x hp=>(hat _ x hp).elim,λb cs hb=>(hbx b cs hb).elim,λb cs hb=>(hbx b cs hb).elim,λb b' cs cs' hb _ _=>(hbx b cs hb).elim,λp z l hp=>(hat p _ hp).elim,(λp q B hp=>by cases hp),(λp B hp=>by cases hp),(λp B hp=>by cases hp),rfl,zG _,(λb hb=>by cases hb),Sp.none _ _ _ _ _ _⟩
 refine(h [] _ _ _ w args 0 h0 (by rw[hl,hv.len]) (λj hj v hjv=>?_)).mono ?_
 .have hj2:j<vals.length:=by rw[<-hv.len];exact hj
  exact hv.get j hj2 hj E G a0 w lo hpre v (hval j hj2 v hjv)
 .rintro e w' ⟨v,r',bs',G',rfl,⟨rfl,_⟩,h'⟩;refine⟨v,r',bs,⟨G.M,G.σ,λp=>match p with|.sl _=>none|.bx b j=>G.cl (.bx b j)⟩,rfl,⟨rfl,rfl⟩,?_⟩
  have hno:∀B,¬eO ⟨Hp.of w,G.σ,λ_=>none⟩ [] B:=λB hB=>by
   rcases hB with ⟨b,cs,hb,_⟩|⟨b,j,hb⟩|⟨b,x,hb,_⟩
   .simp [ab] at hb
   .cases hb
   .exact eM hb
  have hfr:Fr (eO ⟨Hp.of w,G.σ,λ_=>none⟩ []) (Hp.of w) w G'.M w':=h'.fr;have hat0:(⟨[(0,r')],bs',([]:List Box).length⟩:St).at (.sl 0)=some r':=rfl
  have hatc:∀p x,(⟨[(0,r')],bs,bs.length⟩:St).at p=some x->(p=.sl 0/\x=r')\/(∃b j,p=.bx b j/\(⟨[],bs,lo⟩:St).at (.bx b j)=some x):=λp x hp=>by
   cases p with
   |sl t=>
    simp only[St.at,aq] at hp;split at hp
    .rename_i hb;have:=zO hb;subst this;cases hp;exact .inl ⟨rfl,rfl⟩
    .cases hp
   |bx b j=>exact .inr ⟨b,j,rfl,hp⟩
  have hbv:∀b j x,(⟨[],bs,lo⟩:St).at (.bx b j)=some x->au G.σ ⟨#[v],[]⟩ w' (.bx b j)=au G.σ a0 w (.bx b j):=λb j x hx=>by
   simp only[St.at] at hx
   cases hb:ab bs b with
   |none=>rw[hb] at hx;cases hx
   |some cs=>simp only[au];rw[bX (hfr.heap _ (hpre.blt hb) (hno _))]
  have hrv:RV G.M G.σ bs.length r'.aG v:=by
   have h1:=h'.val _ _ hat0
   cases r' with
   |bool b=>exact .flat (by have:=h1.cZ;rw[show v=.bool b from this];exact .bool b)
   |int k n=>exact .flat (by have:=h1.aI;rw[show v=.int k n from this];exact .int k n)
   |str s=>exact .flat (by have:=h1.eo;rw[show v=.string s from this.1];exact .str s this.2)
   |_=>cases hr
  refine⟨⟨hfr.os,hfr.tape,hfr.output,hfr.size,Hp.le_refl _,λB hB _=>hfr.heap B hB (hno B),λB hB _ _=>rfl⟩,Hp.le_trans hpre.ok (Hp.le_trans hfr.le h'.ok),rfl,λp x hp=>?_,λb j x hp=>?_,λb cs hb=>?_,λb cs hb=>?_,hpre.inj,λp z l hp=>?_,λp q B hp hq'=>?_,λp B hB b cs hb=>?_,λp B hB=>?_,rfl,zG _,λ_ _=>rfl,?_⟩
  .rcases hatc p x hp with ⟨rfl,rfl⟩|⟨b,j,rfl,hx⟩
   .exact hrv
   .show RV G.M G.σ bs.length x.aG _;rw[hbv b j x hx];exact hpre.val _ _ hx
  .rcases hatc _ x hp with ⟨e,_⟩|⟨b',j',e,hx⟩
   .cases e
   .cases e;show (au G.σ _ w' _).oneCell'=true;rw[hbv b j x hx];exact hpre.one _ _ _ hx
  .obtain ⟨vs,T,h1,h2⟩:=hpre.box b cs hb;exact⟨vs,T,(hfr.heap _ (hpre.blt hb) (hno _)).trans h1,h2⟩
  .obtain ⟨h1,_⟩:=hpre.bmem b cs hb;exact⟨h1,.inl (.inl ⟨b,cs,hb,rfl⟩)⟩
  .rcases hatc p _ hp with ⟨rfl,hx⟩|⟨b,j,rfl,hx⟩
   .subst hx;cases hr
   .obtain ⟨ad,k,h1,h2,h3⟩:=hpre.own _ _ _ hx;refine⟨ad,k,(hbv b j _ hx).trans h1,h2,?_⟩;rcases h3 with h3|⟨B,hB,h4,h5⟩
    .exact .inl h3
    .have hlt:=(hpre.cllt _ B hB).1;obtain⟨vs,T,h6,h7⟩:=h5.cells;exact .inr ⟨B,hB,h4,h5.lt,⟨vs,T,(hfr.heap B hlt (hno B)).trans h6,h7⟩,h5.free,.inl (.inr (.inl ⟨b,j,hB⟩))⟩
  .cases p with
   |sl t=>cases hp
   |bx b j=>
    cases q with
    |sl u=>cases hq'
    |bx b' j'=>exact hpre.clinj _ _ B hp hq'
  .cases p with
   |sl t=>cases hB
   |bx b' j'=>exact hpre.clbox _ B hB b cs hb
  .cases p with
   |sl t=>cases hB
   |bx b' j'=>exact⟨ZV (hpre.cllt _ B hB).1 hfr.size,.inl (.inr (.inl ⟨b',j',hB⟩))⟩
  .refine ⟨λB o hs=>?_,λb x hb=>?_,hpre.sp.inj,[],rfl,.nil⟩
   .rcases hs with ⟨b,x,hb,e,ho⟩|⟨hmem,_⟩
    .obtain ⟨h1,h2,_⟩:=hpre.sp.ob B o (.inl ⟨b,x,hb,e,ho⟩);have hlt:=(zh.1 h1).1;refine⟨(hfr.heap B hlt (hno B)).trans h1,λp hp=>?_,.inl (.inr (.inr ⟨b,x,hb,e⟩))⟩
     cases p with
     |sl t=>cases hp
     |bx b' j'=>exact h2 _ hp
    .cases hmem
   .exact hpre.sp.base b x hb
theorem aa.view{P:Program}{f:FuncId}{vals raw vals':List AV}{r:AV}{bs:List Box}{K:AV->List Box->Prop}(h:Fun P f vals' r)(hr:scalar r=true)(hv:Vws bs raw vals')(hK:K r bs):aa P f vals raw bs K:=
 .raw (h.view hr hv) λr' bs' ⟨e1,e2⟩=>by subst e1 e2;exact hK
theorem Sem.assume{P:Program}{f:FuncId}{vals:List AV}{bs:List Box}{Q:AV->List Box->Prop}(h:(∀x∈vals,x.flat=true->x.good)->(∀cs,AV.ept cs∈vals->∀c∈cs,c.good)->Sem P f vals bs Q):Sem P f vals bs Q:=λE G a0 w args lo h1 h2 h3=>by
 refine h (λx hx hf=>?_) (λcs hx c hc=>?_) E G a0 w args lo h1 h2 h3
 .obtain ⟨j,hj,rfl⟩:=Zz hx;exact⟨G.M,_,(h3 j hj _ (zA (by omega))).Mn hf⟩
 .obtain ⟨j,hj,e⟩:=Zz hx;have hv:=h3 j hj _ (zA (by omega))
  rw[e] at hv;obtain⟨B,off,_,hcs⟩:=hv.sr;obtain⟨i,hi,rfl⟩:=Zz hc;obtain⟨v,_,_,h6⟩:=hcs i hi;exact⟨G.M,v,h6⟩
theorem qW.Oq{α:Type}{f:α->AV}{z:Nat}(hp:Plain f z){e:List (Nat×AV)}{bs:List Box}{lo:Nat}{l':List α}{o:Cap}{K:AV->St->Prop}(hlim:l'.length<=4294967296)
  (h:∀k',l'.length<=k'->K (.bsl bs.length l'.length k') ⟨e,bs++[aS f z k' l'],lo⟩):qW z ⟨e,bs,lo⟩ (.sl .full []) (.sl o (l'.map f)) K:=by
 refine⟨?_⟩;unfold qS;simp only[sS,Af];refine⟨λy hy=>by obtain⟨x,_,rfl⟩:=zk.1 hy;exact hp.sz x,?_⟩
 rw[zF];refine⟨⟨hp.pos,by simp,by omega,λx hx=>by simp at hx⟩,λk' hk'=>?_⟩
 have:=h k' (by omega)
 simp only[aS,jL,ZI,List.take_nil,Zo] at this|-;exact this
theorem Kv{α:Type}(own:List α)(x y c:α):((own++[x])++[c]).set own.length y=(own++[y])++[c]:=by simp
theorem Mw{α:Type}{f:α->AV}{z:Nat}(hp:Plain f z)(l:List α)(q n:Nat):(cellsOf (l.map f)++List.replicate q AV.top).all (λx=>x.lt n)=true:=zS.2 λx hx=>(hp.NB l q n x hx).2
theorem a8(l:List Bool)(q n:Nat):(cellsOf (l.map AV.bool)++List.replicate q AV.top).all (λx=>x.lt n)=true:=Mw KN l q n
theorem aJ{n:Nat}{cs:List AV}{r:List Box}(h:cs.all (λx=>x.lt n)=true)(k:ai n r=true):ai n (.row cs::r)=true:=by simp only[ai,h,k,Bool.and_self]
end Go.AM
