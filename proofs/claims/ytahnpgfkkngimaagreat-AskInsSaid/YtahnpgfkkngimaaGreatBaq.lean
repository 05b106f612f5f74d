/-
  Texts of this aQ joined (wip/gen/bundle.py),those declarations only that are needed:AmRw Av AmVw AmTa. By an AI agent.
-/
import Derived.Test.YtahnpgfkkngimaaGreatBap
set_option linter.unusedSimpArgs false
set_option linter.unusedVariables false
namespace Go.AM
open Go.CK Go.RowKit
def aL{α:Type}(f:α->AV)(z k:Nat)(l:List α):Box:=.row (cellsOf (l.map f)++List.replicate ((k-l.length)*z) .top)
structure Plain{α:Type}(f:α->AV)(z:Nat):Prop where
 pos:0<z
 sz:∀x,(f x).cells.length=z
 de:∀x,∀c∈(f x).cells,c.aF=c
 flat:∀x,∀c∈(f x).cells,c.aU=true
theorem se:∀{l:List AV} {c:AV},c∈cellsOf l->∃x∈l,c∈x.cells
 |[],_,h=>by cases h
 |x::l,c,h=>by
  rcases ZY.1 h with h|h
  .exact ⟨x,by simp,h⟩
  .obtain ⟨y,h1,h2⟩:=se h;exact⟨y,by simp[h1],h2⟩
section
variable{α:Type}{f:α->AV}{z:Nat}
theorem Plain.len(h:Plain f z)(l:List α):(cellsOf (l.map f)).length=l.length*z:=by
 rw[bA (z:=z) λy hy=>by obtain⟨x,_,rfl⟩:=Zk.1 hy;exact h.sz x,ZF]
theorem Plain.mem(h:Plain f z){l:List α}{c:AV}(hc:c∈cellsOf (l.map f)):c.aF=c/\c.aU=true:=by
 obtain⟨y,h1,h2⟩:=se hc;obtain⟨x,_,rfl⟩:=Zk.1 h1;exact⟨h.de x c h2,h.flat x c h2⟩
theorem Plain.take(h:Plain f z)(l:List α)(p:List AV):(cellsOf (l.map f)++p).take (l.length*z)=cellsOf (l.map f):=by
 rw[<-h.len l];simp
theorem eT{bs:List Box}{b:Nat}{cs:List AV}(h:bs[b]? =some (.row cs)):rowAt bs b=some cs:=by
 unfold rowAt;rw[h]
theorem F6{bs:List Box}{b m k:Nat}{cs:List AV}{K:Nat->Nat->List AV->Option Nat->Prop}(h:bs[b]? =some (.row cs))(k':K m k cs (some b)):qx bs (.bsl b m k) K:=by
 simp only[qx,eT h];exact k'
theorem lh.row(hp:Plain f z){e:List (Nat×AV)}{bs:List Box}{lo:Nat}{b m k:Nat}{l l':List α}{o:Cap}{K:AV->St->Prop}(hb:bs[b]? =some (aL f z k l))(hm:m=l.length)(hk:m<=k)(hlim:m+l'.length<=4294967296)
  (h:∀k',(l++l').length<=k'->K (.bsl bs.length (l++l').length k') ⟨e,bs.set b .dead++[aL f z k' (l++l')],lo⟩):lh z ⟨e,bs,lo⟩ (.bsl b m k) (.sl o (l'.map f)) K:=by
 subst hm;refine⟨F6 hb ?_⟩;refine⟨λy hy=>by obtain⟨x,_,rfl⟩:=Zk.1 hy;exact hp.sz x,?_⟩
 rw[ZF];refine⟨⟨hp.pos,?_,hlim,λx hx=>?_⟩,λk' hk'=>?_⟩
 .rw [ZC,hp.len,Zf,<-YK];exact YB _ (by omega)
 .rw [hp.take] at hx;exact(hp.mem hx).1
 .rw [hp.take,<-Zg,<-nF,<-Zt];have:=h k' (by simpa using hk')
  simp only[ZC] at this;unfold aL at this;simp only[ZC] at this;exact this
theorem lh.one(hp:Plain f z){e:List (Nat×AV)}{bs:List Box}{lo:Nat}{b m k:Nat}{l:List α}{x:α}{o:Cap}{K:AV->St->Prop}(hb:bs[b]? =some (aL f z k l))(hm:m=l.length)(hk:m<=k)(hlim:m+1<=4294967296)
  (h:∀k',(l++[x]).length<=k'->K (.bsl bs.length (l++[x]).length k') ⟨e,bs.set b .dead++[aL f z k' (l++[x])],lo⟩):lh z ⟨e,bs,lo⟩ (.bsl b m k) (.sl o [f x]) K:=
 lh.row (l':=[x]) hp hb hm hk hlim h
theorem MkN.row(hp:Plain f z)(x:α){e:List (Nat×AV)}{bs:List Box}{lo:Nat}{ik jk:IntKind}{n m:Int}{K:AV->St->Prop}(hn:0<=n/\n<=m/\m<=4294967296)(h:K (.bsl bs.length n.toNat m.toNat) ⟨e,bs++[aL f z m.toNat (List.replicate n.toNat x)],lo⟩):MkN z (f x) ⟨e,bs,lo⟩ (.int ik n) (.int jk m) K:=by
 refine⟨⟨⟨hp.pos,hn⟩,?_⟩⟩;simpa only[aL,List.map_replicate,Zf] using h
theorem RS.Gn{E:Entry}{G:Gh}{s:St}{a:Act}{w:World}(h:RS E G s a w):RS E G ⟨s.env,s.bs++[.row []],s.lo⟩ a w:=by
 have:=h.reb (bs':=s.bs++[.row []]) (σ':=G.σ) id (by simp) (λ_ _=>rfl) (λb x hb=>iz rfl hb) (λb cs' hc=>by
  rw[aS] at hc;split at hc
  .cases hc
  .exact ⟨cs',hc,rfl,ZG _,λj x hx=>.inr ⟨hx,.inl rfl⟩⟩) (λb b' _ _ _ _ e=>e)
 exact this
theorem aB.wO(s:St)(t:Nat)(h0:ak s.env t=some (.sl .full [])):aB s ⟨aN s.env t (.bsl s.bs.length 0 0),s.bs++[.row []],s.lo⟩:=λE G a w hs=>by
 have h1:=hs.Gn;have hat:(⟨s.env,s.bs++[.row []],s.lo⟩:St).at (.sl t)=some (.sl .full []):=h0;have hv:=h1.val _ _ hat;simp only[AV.aF] at hv;refine⟨G,h1.upd (q:=.sl t) hat ?_⟩;obtain⟨ad,kk,B,off,sz',e1,_,_,_,e2,_⟩:=hv.ez;have:=e2 rfl;subst this;rw[e1];exact .bsl _ _ _ _ (by simp) (ZG _) (ZJ _) (λh=>absurd rfl h)
theorem af.wO{s:St}{rs:List cm}{Q:AV->List Box->Prop}(k:Nat)(h0:ak s.env k=some (.sl .full []))(h:af ⟨aN s.env k (.bsl s.bs.length 0 0),s.bs++[.row []],s.lo⟩ rs Q):af s rs Q:=by
 obtain⟨s',h3,h4⟩:=h.out;exact⟨s',(aB.wO s k h0).trans h3,h4⟩
theorem ah.wO{s t:St}(k:Nat)(h0:ak s.env k=some (.sl .full []))(h:ah ⟨aN s.env k (.bsl s.bs.length 0 0),s.bs++[.row []],s.lo⟩ t):ah s t:=⟨(aB.wO s k h0).trans h.out⟩
theorem fO.yR{M:Hp}{B:Nat}{L:List AV}{p:List AV}(hz:∀y∈L,y.cells.length=z)(h:Cells M B 0 (cellsOf L++p)):fO M B 0 z L:=λi hi=>by
 have hl:=bA hz;have hc:=hz _ (Zc hi);refine⟨hc,λj hj=>?_⟩
 have hij:i*z+j<(cellsOf L).length:=by
  rw[hl];have:=YB z hi;rw[Nat.succ_mul] at this;omega
 obtain⟨v,h1,h2,h3⟩:=h (i*z+j) (by rw[ZC];omega)
 refine⟨v,?_,h2,?_⟩
 .rw [YG] at h1|-;exact h1
 .rw [YF hij] at h3;have hg:=jb hz i hi j (by omega)
  rw[ZA hij,ZA hj] at hg;rw[<-XV hg];exact h3
theorem aB.froze(hp:Plain f z)(s:St)(t:Nat){b m k:Nat}{l:List α}(h0:ak s.env t=some (.bsl b m k))(hb:s.bs[b]? =some (aL f z k l))(hm:m=l.length):aB s ⟨aN s.env t (.sl .no (l.map f)),s.bs.set b .dead,s.lo⟩:=λE G a w hs=>by
 subst hm;have hz:∀y∈l.map f,y.cells.length=z:=λy hy=>by obtain⟨x,_,rfl⟩:=Zk.1 hy;exact hp.sz x
 have hat:s.at (.sl t)=some (.bsl b l.length k):=h0;have hv0:=hs.val _ _ hat;obtain⟨ad,hv,hbl,hmk,hml,had⟩:=hv0.dH
 by_cases hk:k=0
 .subst hk;have hl:l=[]:=ZL (by omega)
  subst hl
  have h1:=hs.reb (bs':=s.bs.set b .dead) (σ':=G.σ) id (by simp) (λ_ _=>rfl) (λc x hc=>lZ hc) (λc cs' hc=>by
   rw[bL] at hc;split at hc
   .cases hc
   .exact ⟨cs',hc,rfl,ZG _,λj x hx=>.inr ⟨hx,.inl rfl⟩⟩) (λb b' _ _ _ _ e=>e)
  refine⟨_,h1.upd (q:=.sl t) (x:=.sl .no ([].map f)) hat ?_⟩;show RV G.M G.σ _ _ (al G.σ a w (.sl t));rw[hv];exact .flat (FV.iT (l:=[]) (B:=0) (off:=0) (sz:=z) (by simp) (ZG _) (ZJ _) (by simp) (λh=>absurd rfl h) (λi hi=>by cases hi))
 .have hne:cellsOf (l.map f)++List.replicate ((k-l.length)*z) .top≠[]:=λe=>by
   have:=congrArg List.length e;rw[ZC,hp.len,Zf,<-YK,YO] at this;have h2:0<(l.length+(k-l.length))*z:=Nat.mul_pos (by omega) hp.pos
   omega
  have hbc:aa s.bs b=some (cellsOf (l.map f)++List.replicate ((k-l.length)*z) .top):=cr (eT hb) hne
  obtain⟨G',h1,h2,h3⟩:=hs.dead hbc (λx hx=>by
   rcases ZY.1 hx with hx|hx
   .exact (hp.mem hx).2
   .rw [(Ya.1 hx).2];rfl)
  refine⟨G',h1.upd (q:=.sl t) (x:=.sl .no (l.map f)) (y:=.bsl b l.length k) h0 ?_⟩;show RV G'.M G'.σ _ _ (al G'.σ a w (.sl t));have hva:al G'.σ a w (.sl t)=.slice ad l.length k:=hv;rw[hva,had hk];have:=FV.iT (M:=G'.M) (o:=.no) (l:=l.map f) (a:=some ⟨G.σ b,0,none⟩) (k:=k) (B:=G.σ b) (off:=0) (sz:=z) (by simp) (by simpa using hmk) (by first|(simpa using hml)|(have:=glim_le hml;simpa using this)) (by simp) (λ_=>rfl) (fO.yR hz h3)
  rw[ZF] at this;exact .flat this
theorem af.froze(hp:Plain f z){s:St}{t:Nat}{b m k:Nat}{l:List α}{Q:AV->List Box->Prop}(h0:ak s.env t=some (.bsl b m k))(hb:s.bs[b]? =some (aL f z k l))(hm:m=l.length)(h:af ⟨aN s.env t (.sl .no (l.map f)),s.bs.set b .dead,s.lo⟩ [.slot t] Q):af s [.slot t] Q:=by
 obtain⟨s',h3,h4⟩:=h.out;exact⟨s',(aB.froze hp s t h0 hb hm).trans h3,h4⟩
end
section
variable{E:Entry}{G:Gh}{s:St}{a:Act}{w:World}
theorem sW{bs:List Box}{b:Nat}{cs:List AV}(hb:b<bs.length)(h0:cs≠[])(c:Nat):aa (bs.set b (.row cs)) c=if c=b then some cs else aa bs c:=by
 simp only[aa,Zq]
 by_cases e:b=c
 .subst e;simp only[if_true,hb,lx,if_neg h0]
 .rw [if_neg e,if_neg (λx=>e x.symm)]
theorem RS.Is(h:RS E G s a w){b:Nat}{cs cs':List AV}(hb:aa s.bs b=some cs){w':World}{vs':Array Value}{T:TypeId}(hc':w'.heap[G.σ b]? =some (.cells vs' T (0,0)))(hsz:cs'.length<=vs'.size)(hne:cs'≠[])
  (hos:w'.os=w.os) (htp:w'.tape=w.tape) (hout:w'.output=w.output) (hsize:w.heap.size<=w'.heap.size) (hother:∀B,B<w.heap.size->B≠G.σ b->w'.heap[B]? =w.heap[B]?)
  (hv:∀(j:Nat) (hj:j<cs'.length) v,vs'[j]? =some v->v.oneCell'=true/\RV G.M G.σ s.bs.length cs'[j] v):RS E G ⟨s.env,s.bs.set b (.row cs'),s.lo⟩ a w':=by
 have hblt:=h.blt hb;have hbl:=aA hb;obtain⟨vs,T0,hc,hvl⟩:=h.box b cs hb;obtain⟨hM,hmine⟩:=h.bmem b cs hb;have hset:∀c,aa (s.bs.set b (.row cs')) c=if c=b then some cs' else aa s.bs c:=sW hbl hne;have hlen:(s.bs.set b (.row cs')).length=s.bs.length:=by simp
 have hcl:∀p B,G.cl p=some B->B≠G.σ b:=λp B hB e=>h.clbox p B hB b cs hb e.symm
 have hval:∀p y,(⟨s.env,s.bs.set b (.row cs'),s.lo⟩:St).at p=some y->(s.at p=some y/\al G.σ a w' p=al G.σ a w p)\/∃j,∃hj:j<cs'.length,p=.bx b j/\y=cs'[j]/\vs'[j]? =some (al G.σ a w' p):=λp y hp=>by
  cases p with
  |sl t=>exact .inl ⟨hp,rfl⟩
  |bx c j=>
   simp only[St.at,hset] at hp
   by_cases e:c=b
   .subst e;rw[if_pos rfl] at hp;simp only[YE] at hp;obtain⟨hj,hy⟩:=ZB.1 hp;refine .inr ⟨j,hj,rfl,hy.symm,?_⟩;simp only[al,World.cell?,hc'];have:j<vs'.size:=by omega
    simp[this]
   .rw [if_neg e] at hp;refine .inl ⟨hp,?_⟩
    cases hbc:aa s.bs c with
    |none=>rw[hbc] at hp;cases hp
    |some ds=>
     simp only[al];rw[bK (hother _ (h.blt hbc) (λe2=>e (h.inj c b ds cs hbc hb e2)))]
 have hbox:∀c ds,aa (s.bs.set b (.row cs')) c=some ds->(c=b/\ds=cs')\/(c≠b/\aa s.bs c=some ds):=λc ds hcd=>by
  rw[hset] at hcd;split at hcd
  .rename_i e;cases hcd;exact .inl ⟨e,rfl⟩
  .rename_i e;exact .inr ⟨e,hcd⟩
 have hcs:∀c ds,aa (s.bs.set b (.row cs')) c=some ds->∃es,aa s.bs c=some es:=λc ds hcd=>by
  rcases hbox c ds hcd with ⟨rfl,_⟩|⟨_,h1⟩
  .exact ⟨cs,hb⟩
  .exact ⟨ds,h1⟩
 refine⟨⟨hos.trans h.fr.os,htp.trans h.fr.tape,hout.trans h.fr.output,YM h.fr.size hsize,h.fr.le,λB hB hn=>?_,h.fr.mem⟩,λB o u hu=>?_,h.nt,λp y hp=>?_,λc j y hp=>?_,λc ds hcd=>?_,λc ds hcd=>?_,λc c' ds ds' hcd hcd' e=>?_,λp z l hp=>?_,h.clinj,λp B hB c ds hcd=>?_,λp B hB=>?_,h.lo,by rw[hlen];exact h.len,h.sig,h.sp.step (Hp.le_refl _) (λ_ _=>rfl) (λc x hx=>?_) (λB o ho hk=>?_) (λ_ _ _ _ p k=>⟨p,k⟩) (λ_ k=>k)⟩
 .have hne2:B≠G.σ b:=λe=>by
   subst e;rcases hmine with hm|hm
   .exact hn hm
   .omega
  rw[hother B (YT hB h.fr.size) hne2];exact h.fr.heap B hB hn
 .have h1:=h.ok _ _ _ hu;have hne2:B≠G.σ b:=λe=>by rw[e,hM] at hu;cases hu
  simp only[Hp.of] at h1|-;rw[bK (hother B (Hp.lt h.ok hu) hne2)];exact h1
 .rw [hlen];rcases hval p y hp with ⟨h1,h2⟩|⟨j,hj,rfl,rfl,h3⟩
  .rw [h2];exact h.val p y h1
  .have:=(hv j hj _ h3).2;rw[this.bP];exact this
 .rcases hval _ y hp with ⟨h1,h2⟩|⟨j',hj,e,rfl,h3⟩
  .rw [h2];exact h.one c j y h1
  .cases e;exact(hv _ hj _ h3).1
 .rcases hbox c ds hcd with ⟨rfl,rfl⟩|⟨h1,h2⟩
  .exact ⟨vs',T,hc',hsz⟩
  .obtain ⟨us,T',h4,h5⟩:=h.box c ds h2;exact⟨us,T',by rw[hother _ (h.blt h2) (λe2=>h1 (h.inj c b ds cs h2 hb e2))];exact h4,h5⟩
 .obtain ⟨es,h1⟩:=hcs c ds hcd;exact h.bmem c es h1
 .obtain ⟨es,h1⟩:=hcs c ds hcd;obtain⟨es',h1'⟩:=hcs c' ds' hcd';exact h.inj c c' es es' h1 h1' e
 .rcases hval p _ hp with ⟨h1,h2⟩|⟨j,hj,rfl,e,h3⟩
  .obtain ⟨ad,k,q1,q2,q3⟩:=h.own p z l h1;refine⟨ad,k,by rw[h2];exact q1,q2,?_⟩
   rcases q3 with q3|⟨B,hB,q4,q5⟩
   .exact .inl q3
   .obtain ⟨us,T',q6,q7⟩:=q5.cells;exact .inr ⟨B,hB,q4,q5.lt,⟨us,T',by rw[hother B (h.cllt p B hB).1 (hcl p B hB)];exact q6,q7⟩,q5.free,q5.mine⟩
  .have:=(hv j hj _ h3).2.bP;rw[<-e] at this;simp[AV.aF] at this
 .obtain ⟨es,h1⟩:=hcs c ds hcd;exact h.clbox p B hB c es h1
 .obtain ⟨h1,h2⟩:=h.cllt p B hB;exact⟨YT h1 hsize,h2⟩
 .by_cases e:b=c
  .subst e;simp[ag,hbl,Box.lb?] at hx
  .simp only[ag,Zq,if_neg e] at hx;exact hx
 .rw [hother B (Zh.1 ho).1 (λe=>by subst e;rw[hc] at ho;cases ho;cases hk)]
  exact ho
end
theorem Plain.KV{α:Type}{f:α->AV}{z:Nat}(hp:Plain f z)(l:List α)(q n:Nat):∀x∈cellsOf (l.map f)++List.replicate q .top,x.aF=x/\x.lt n=true:=λx hx=>by
 rcases ZY.1 hx with hx|hx
 .obtain ⟨h1,h2⟩:=hp.mem hx;refine⟨h1,?_⟩;cases x<;>first|(cases h2;done)|rfl
 .rw [(Ya.1 hx).2];exact⟨rfl,rfl⟩
theorem af.slot{s:St}{t:Nat}{Q:AV->List Box->Prop}(h:Q (s.get t) s.bs):af s [.slot t] Q:=⟨s,aB.refl s,.inl h⟩
theorem tL:Plain (AV.int .i64) 1:=⟨XF,λ_=>rfl,λx c h=>by simp[AV.cells] at h;subst h;rfl,λx c h=>by simp[AV.cells] at h;subst h;rfl⟩
theorem cells_one{α:Type}{f:α->AV}(hf:∀x,(f x).cells=[f x])(l:List α):cellsOf (l.map f)=l.map f:=by
 induction l with
 |nil=>rfl
 |cons x l ih=>rw[ZP,cellsOf,ih,hf];rfl
theorem tp{α:Type}{f:α->AV}(hf:∀x,(f x).cells=[f x]){bs:List Box}{b k i:Nat}{l:List α}{x:α}(hb:bs[b]? =some (aL f 1 k l))(hx:l[i]? =some x):aa bs b=some (l.map f++List.replicate (k-l.length) AV.top):=by
 have hrow:bs[b]? =some (.row (l.map f++List.replicate (k-l.length) AV.top)):=by
  rw[hb];simp only[aL,cells_one hf,Nat.mul_one]
 refine cr (eT hrow) λe=>?_;have:=congrArg List.length e;rw[ZC,ZF,YO] at this;have hi:=(ZB.1 hx).1;omega
theorem ElN.one{α:Type}{f:α->AV}(hf:∀x,(f x).cells=[f x]/\(f x).aF=f x){e:List (Nat×AV)}{bs:List Box}{lo b k i:Nat}{l:List α}{x:α}{K:AV->Prop}(hb:bs[b]? =some (aL f 1 k l))(hx:l[i]? =some x)(h:K (f x)):ElN false 1 ⟨e,bs,lo⟩ (.elp b i 1 0) K:=by
 refine⟨?_⟩;have hi:=(ZB.1 hx).1;simp only[St.rd,tp (λx=>(hf x).1) hb hx,Nat.mul_one,Yi];rw[List.drop_append_of_le_length (by rw[ZF];omega),<-List.map_drop,ZH hi,(ZB.1 hx).2]
 simp only[ZP,Ze,bM,(hf x).2];exact h
theorem EsN.one{α:Type}{f:α->AV}(hf:∀x,(f x).cells=[f x]/\aV (f x)=true){e:List (Nat×AV)}{bs:List Box}{lo b k i:Nat}{l:List α}{x y:α}{K:St->Prop}(hb:bs[b]? =some (aL f 1 k l))(hx:l[i]? =some x)(h:K ⟨e,bs.set b (aL f 1 k (l.set i y)),lo⟩):EsN 1 ⟨e,bs,lo⟩ b i 1 0 (f y) K:=by
 refine⟨?_⟩;have hi:=(ZB.1 hx).1;simp only[lp,tp (λx=>(hf x).1) hb hx,Nat.mul_one,Yi];refine⟨⟨(hf y).2,by rw[(hf y).1];rfl,by omega,by rw[ZC,ZF];omega⟩,?_⟩
 have he:setAt (l.map f++List.replicate (k-l.length) AV.top) i (f y).cells=(l.set i y).map f++List.replicate (k-(l.set i y).length) AV.top:=by
  simp only[(hf y).1,setAt,Zm,List.map_set];rw[List.set_append,if_pos (by rw[ZF];exact hi)]
 rw[he];have e2:aL f 1 k (l.set i y)=.row ((l.set i y).map f++List.replicate (k-(l.set i y).length) AV.top):=by simp only[aL,cells_one (λx=>(hf x).1),Nat.mul_one]
 rw[<-e2];exact h
theorem RS.vS{α:Type}{f:α->AV}{z:Nat}(hp:Plain f z){E:Entry}{G:Gh}{s:St}{a:Act}{w:World}(hs:RS E G s a w){b k0:Nat}{l:List α}(hb:s.bs[b]? =some (aL f z k0 l)):
  ∃G',RS E G' ⟨s.env,s.bs.set b .dead,s.lo⟩ a w/\G'.σ=G.σ/\∀(m k:Nat) (v:Value),m<=l.length->RV G.M G.σ s.bs.length (.bsl b m k) v->FV G'.M (.sl .no ((l.take m).map f)) v:=by
 have hz:∀y∈l.map f,y.cells.length=z:=λy hy=>by obtain⟨x,_,rfl⟩:=Zk.1 hy;exact hp.sz x
 by_cases hne:cellsOf (l.map f)++List.replicate ((k0-l.length)*z) AV.top=[]
 .have hl:l=[]:=by
   have:=congrArg List.length hne;rw[ZC,hp.len,YO] at this;have h0:=hp.pos
   cases l with
   |nil=>rfl
   |cons x l=>simp only[ZX,Nat.succ_mul] at this;omega
  subst hl
  have h1:=hs.reb (bs':=s.bs.set b .dead) (σ':=G.σ) id (by simp) (λ_ _=>rfl) (λc x hc=>lZ hc) (λc cs' hc=>by
   rw[bL] at hc;split at hc
   .cases hc
   .exact ⟨cs',hc,rfl,ZG _,λj x hx=>.inr ⟨hx,.inl rfl⟩⟩) (λb b' _ _ _ _ e=>e)
  refine⟨_,h1,rfl,λm k v hm hv=>?_⟩;simp only[YO,Nat.le_zero] at hm;subst hm;obtain⟨ad,rfl,_,_,_,_⟩:=hv.dH;exact FV.iT (l:=[]) (B:=0) (off:=0) (sz:=z) (by simp) (ZJ _) (ZJ _) (by simp) (λh=>absurd rfl h) (λi hi=>by cases hi)
 .have hbc:aa s.bs b=some (cellsOf (l.map f)++List.replicate ((k0-l.length)*z) .top):=cr (eT hb) hne
  obtain⟨G',h1,h2,h3⟩:=hs.dead hbc (λx hx=>by
   rcases ZY.1 hx with hx|hx
   .exact (hp.mem hx).2
   .rw [(Ya.1 hx).2];rfl)
  refine⟨G',h1,h2,λm k v hm hv=>?_⟩;obtain⟨ad,rfl,_,hmk,hml,had⟩:=hv.dH;have he:=nB (fO.yR hz h3) 0 m (by simpa using hm)
  simp only[Nat.zero_mul,Yi,Xb,<-List.map_take] at he;have hlen:((l.take m).map f).length=m:=by simp;omega
  have:=FV.iT (M:=G'.M) (o:=.no) (l:=(l.take m).map f) (a:=ad) (k:=k) (B:=G.σ b) (off:=0) (sz:=z) (by simp) (by omega) (by rw [hlen];first|exact hml|exact glim_le hml) (by simp) (λh0=>had (λe=>by
   subst e;have:m=0:=by omega
   subst this;simp at h0)) he
  rw[hlen] at this;exact this
theorem aB.bY{α:Type}{f:α->AV}{z:Nat}(hp:Plain f z)(s:St)(c i:Nat){cs:List AV}{b m k k0:Nat}{l:List α}(h0:s.bs[c]? =some (.cells cs))(hi:cs[i]? =some (.bsl b m k))(hb:s.bs[b]? =some (aL f z k0 l))(hm:m<=l.length):aB s ⟨s.env,(s.bs.set b .dead).set c (.cells (cs.set i (.sl .no ((l.take m).map f)))),s.lo⟩:=λE G a w hs=>by
 have hcb:c≠b:=λe=>by subst e;rw[h0] at hb;cases hb
 have hbc:aa s.bs c=some cs:=by simp only[aa,h0];rfl
 have hbc':aa (s.bs.set b .dead) c=some cs:=by rw[bL,if_neg hcb];exact hbc
 have hat:s.at (.bx c i)=some (.bsl b m k):=by simp only[St.at,hbc,YE];exact hi
 have hv0:=hs.val _ _ hat;have hde:(AV.bsl b m k).aF=.bsl b m k:=rfl;rw[hde] at hv0;obtain⟨G',h1,hσ,hth⟩:=hs.vS hp hb;have hfv:=hth m k _ hm hv0;have hat':(⟨s.env,s.bs.set b .dead,s.lo⟩:St).at (.bx c i)=some (.bsl b m k):=by simp only[St.at,hbc',YE];exact hi
 have h2:=h1.upd (q:=.bx c i) (x:=.sl .no ((l.take m).map f)) hat' (by
  show RV G'.M G'.σ _ _ (al G'.σ a w (.bx c i));have hva:al G'.σ a w (.bx c i)=al G.σ a w (.bx c i):=by simp only[al,hσ]
  rw[hva];exact .flat hfv)
 refine⟨G',?_⟩;have e:(⟨s.env,s.bs.set b .dead,s.lo⟩:St).upd (.bx c i) (.sl .no ((l.take m).map f))=⟨s.env,(s.bs.set b .dead).set c (.cells (cs.set i (.sl .no ((l.take m).map f)))),s.lo⟩:=by simp only[St.upd,hbc',St.bh]
 rw[<-e];exact h2
theorem af.bY{α:Type}{f:α->AV}{z:Nat}(hp:Plain f z){s:St}(c i:Nat){cs:List AV}{b m k k0:Nat}{l:List α}{rs:List cm}{Q:AV->List Box->Prop}(h0:s.bs[c]? =some (.cells cs))(hi:cs[i]? =some (.bsl b m k))(hb:s.bs[b]? =some (aL f z k0 l))(hm:m<=l.length)(h:af ⟨s.env,(s.bs.set b .dead).set c (.cells (cs.set i (.sl .no ((l.take m).map f)))),s.lo⟩ rs Q):af s rs Q:=by
 obtain⟨s',h3,h4⟩:=h.out;exact⟨s',(aB.bY hp s c i h0 hi hb hm).trans h3,h4⟩
theorem Jo.no{l:List AV}{K:Bool->Prop}(h:∀b,(b=true->l=[])->K b):Jo l K:=⟨λhl=>h false (λe=>by cases e),λhl b=>h b λ_=>hl⟩
end Go.AM
namespace Go.CK
open Go.RowKit Go.AM
abbrev c7(n:Int):AV:=.int .i64 n
abbrev slA{α:Type}(f:α->AV)(l:List α):AV:=.sl .no (l.map f)
def CF(M:Hp)(cs:List AV)(c:List Value):Prop:=c.length=cs.length/\∀j (h:j<cs.length) v,c[j]? =some v->FV M cs[j] v
theorem CF.nil{M:Hp}:CF M [] []:=⟨rfl,λj h=>by cases h⟩
theorem CF.cons{M:Hp}{x:AV}{cs:List AV}{v:Value}{c:List Value}(h:FV M x v)(k:CF M cs c):CF M (x::cs) (v::c):=
 ⟨by simp[k.1],λj hj u hu=>by
  cases j with
  |zero=>simp only[Yq,ZN] at hu;subst hu;exact h
  |succ j=>exact k.2 j (by simpa using hj) u (by simpa using hu)⟩
theorem CF.app{M:Hp}{cs ds:List AV}{c d:List Value}(h:CF M cs c)(k:CF M ds d):CF M (cs++ds) (c++d):=by
 refine⟨by simp[h.1,k.1],λj hj u hu=>?_⟩
 by_cases e:j<cs.length
 .rw [ZK (by rw[h.1];exact e)] at hu
  rw[YF e];exact h.2 j e u hu
 .rw [ZZ (by rw[h.1];omega)] at hu
  rw[YX (by omega)]
  have:=k.2 (j-cs.length) (by simp at hj;omega) u (by rw[h.1] at hu;exact hu)
  exact this
theorem CF.agg{M:Hp}{cs:List AV}{c:List Value}(h:CF M cs c)(h1:∀u∈c,u.oneCell'=true):FV M (.agg cs) (.agg c.toArray):=.agg cs c h.1 h1 h.2
theorem Sl.fv{α:Type}{R:Hp->List Value->α->Prop}{f:α->AV}{M:Hp}{sz:Nat}{a:Option Addr}{l:List α}{k:Nat}(h:Sl M sz (R M) a l)(hk:l.length<=k)(hR:∀x∈l,∀c,R M c x->CF M (f x).cells c/\∀u∈c,u.oneCell'=true):FV M (.sl .no (l.map f)) (.slice a l.length k):=by
 have hlen:(l.map f).length=l.length:=by simp
 rw[<-hlen]
 by_cases h0:0<l.length
 .obtain ⟨b,o,ha⟩:=h.addr h0;refine FV.iT (B:=b) (off:=o) (sz:=sz) (λz e=>by cases e) (by rw[hlen];exact hk) (by rw[hlen];exact h.le) (λe=>by cases e) (λ_=>ha) (λi hi=>?_)
  rw[hlen] at hi;obtain⟨b',o',cs,h1,h2,h3,h4⟩:=h.at_ i hi;rw[ha] at h1;simp only[ZN,Addr.mk.injEq,and_true] at h1;obtain⟨rfl,rfl⟩:=h1;obtain⟨⟨h5,h6⟩,h7⟩:=hR _ (Zc hi) cs h4;rw[YA];refine⟨by rw[<-h5,h2],λj hj=>?_⟩
  have hj2:j<cs.length:=by rw[h5];exact hj
  have hj3:cs[j]? =some cs[j]:=ZA hj2;exact⟨cs[j],h3 j _ hj3,h7 _ (Zc hj2),h6 j hj _ hj3⟩
 .have:l=[]:=YW.1 (by omega)
  subst this;exact FV.iT (B:=0) (off:=0) (sz:=0) (λz e=>by cases e) (by simp) (by simp) (λe=>by cases e) (λe=>absurd rfl e) (λi hi=>by cases hi)
theorem RSl.cf{α:Type}{R:Hp->List Value->α->Prop}{f:α->AV}{M:Hp}{sz:Nat}{c:List Value}{l:List α}(h:RSl sz R M c l)(hR:∀x∈l,∀c,R M c x->CF M (f x).cells c/\∀u∈c,u.oneCell'=true):CF M (slA f l).cells c/\∀u∈c,u.oneCell'=true:=by
 obtain⟨a,k,rfl,h1,h2⟩:=h;exact⟨.cons (h2.fv h1 hR) .nil,by simp[Value.oneCell']⟩
mutual
def Tm.av:Tm->AV
 |.mk k n s l=>.agg [.int .i64 k,.int .i64 n,.str s,.sl .no (Tm.avs l)]
def Tm.avs:List Tm->List AV
 |[]=>[]
 |t::l=>Tm.av t::Tm.avs l
end
theorem Tm.zk:∀l:List Tm,Tm.avs l=l.map Tm.av
 |[]=>rfl
 |t::l=>by rw[Tm.avs,Tm.zk l];rfl
def Tm.avw(t:Tm):AV:=.agg [.int .i64 t.kind,.int .i64 t.num,.str t.name,.sl .no (t.args.map Tm.av)]
theorem Tm.nK(t:Tm):t.av=t.avw:=by
 obtain⟨k,n,s,l⟩:=t;rw[Tm.av,Tm.zk];rfl
theorem Tm.vq(t:Tm):t.av.cells.length=4:=by rw[Tm.nK];rfl
theorem RTm.cf{M:Hp}{c:List Value}{t:Tm}(h:RTm M c t):CF M t.av.cells c/\∀u∈c,u.oneCell'=true:=by
 refine⟨?_,h.one⟩
 induction t using Tm.bD generalizing c with
 |h k n s l ih=>
  obtain⟨a,cap,rfl,ik,iN,is,ic,hsl⟩:=h.inv;rw[Tm.av,Tm.zk];exact .cons (.int _ _) (.cons (.int _ _) (.cons (.str _ is) (.cons (hsl.fv ic λx hx c hc=>⟨ih x hx hc,hc.one⟩) .nil)))
theorem RTm.fv{M:Hp}{c:List Value}{t:Tm}(h:RTm M c t):FV M t.av (.agg c.toArray):=by
 have:=h.cf;rw[Tm.nK] at this|-;exact this.1.agg this.2
end Go.CK
namespace Go.AM
def AV.good(x:AV):Prop:=∃M v,FV M x v
end Go.AM
namespace Go.CK
open Go.RowKit Go.AM
theorem AU{s:ByteArray}(h:(AV.str s).good):s.size<=9223372036854775807:=by
 obtain⟨M,v,h⟩:=h
 cases h with
 |str _ h=>exact h
theorem AW{cs:List AV}(h:(AV.agg cs).good):∀c∈cs,c.good:=by
 obtain⟨M,v,h⟩:=h
 cases h with
 |agg _ vs hl h1 hv=>
  intro c hc;obtain⟨j,hj,rfl⟩:=Yx hc;exact⟨M,vs[j],hv j hj _ (ZA (by omega))⟩
theorem I3{o:Cap}{l:List AV}(h:(AV.sl o l).good):l.length<=9223372036854775807/\∀y∈l,y.good:=by
 obtain⟨M,v,h⟩:=h;obtain⟨a,k,B,off,sz,_,_,_,hl,_,_,he⟩:=h.ez;refine⟨hl,λy hy=>?_⟩;obtain⟨i,hi,rfl⟩:=Yx hy;obtain⟨_,hc⟩:=he i hi;generalize l[i]=y at hc
 by_cases ha:∃cs,y=.agg cs
 .obtain ⟨cs,rfl⟩:=ha
  have hx:∀j,∃v:Value,∀(h:j<cs.length),v.oneCell'=true/\FV M cs[j] v:=λj=>by
   by_cases hj:j<cs.length
   .obtain ⟨v,_,h2,h3⟩:=hc j hj;exact⟨v,λ_=>⟨h2,h3⟩⟩
   .exact ⟨undef,λh=>absurd h hj⟩
  refine⟨M,.agg (List.ofFn λj:Fin cs.length=>(hx j).choose).toArray,.agg cs _ (by simp) (λv hv=>?_) (λj hj v hjv=>?_)⟩
  .obtain ⟨j,rfl⟩:=List.mem_ofFn.1 hv;exact((hx j).choose_spec j.2).1
  .rw [List.getElem?_ofFn,dif_pos hj] at hjv;cases hjv;exact((hx j).choose_spec hj).2
 .have h1:y.cells=[y]:=by
   cases y<;>first|rfl|exact absurd ⟨_,rfl⟩ ha
  obtain⟨v,_,_,h3⟩:=hc 0 (by rw[h1];simp)
  have:y.cells[0]'(by rw[h1];simp)=y:=by simp[h1]
  rw[this] at h3;exact⟨M,v,h3⟩
theorem bH{α:Type}{f:α->AV}{l:List α}(h:(AV.sl .no (l.map f)).good):l.length<=9223372036854775807/\∀y∈l,(f y).good:=by
 obtain⟨h1,h2⟩:=I3 h;exact⟨by simpa using h1,λy hy=>h2 _ (Zk.2 ⟨y,hy,rfl⟩)⟩
theorem oe{t:Tm}(h:t.avw.good):t.name.size<=9223372036854775807/\t.args.length<=9223372036854775807/\∀x∈t.args,x.avw.good:=by
 have hs:=bH (AW h (.sl .no (t.args.map Tm.av)) (by simp))
 exact⟨AU (AW h (.str t.name) (by simp)),hs.1,λx hx=>by rw[<-Tm.nK];exact hs.2 x hx⟩
theorem N1{t:Tm}(h:t.av.good):t.avw.good:=by rw[<-Tm.nK];exact h
theorem Fun.assume{P:Program}{f:FuncId}{vals:List AV}{r:AV}(hf:vals.all AV.flat=true)(h:(∀x∈vals,x.good)->Fun P f vals r):Fun P f vals r:=λbs E G a0 w args lo h1 h2 h3=>by
 refine h (λx hx=>?_) bs E G a0 w args lo h1 h2 h3;obtain⟨j,hj,rfl⟩:=Yx hx;have hjv:args[j]? =some (args[j]'(by omega)):=ZA (by omega)
 exact⟨G.M,_,(h3 j hj _ hjv).Ii (ZS.1 hf _ (Zc hj))⟩
theorem eL.tmK{l:List Tm}{n:Nat}{K:AV->Prop}{x:Tm}(h:l[n]? =some x)(k:K x.avw):eL 4 (l.map Tm.av) (n:Int) K:=.known (by simpa using h) (by omega) Tm.vq (by rw[Tm.nK];exact k)
theorem eL.tm{l:List Tm}{n:Nat}{K:AV->Prop}(h1:n<l.length)(k:∀x,l[n]? =some x->K x.avw):eL 4 (l.map Tm.av) (n:Int) K:=.K3 h1 Tm.vq λx hx=>by rw[Tm.nK];exact k x hx
theorem Szs.tm{l:List Tm}:Szs 4 (l.map Tm.av):=.map Tm.vq
def At.av(x:At):AV:=.agg [.str x.name,.sl .no (x.args.map Tm.av)]
def Gl.av(x:Gl):AV:=.agg [.int .i64 x.op,.str x.name,.sl .no (x.args.map Tm.av)]
theorem RGl.cf{M:Hp}{c:List Value}{x:Gl}(h:RGl M c x):CF M x.av.cells c/\∀u∈c,u.oneCell'=true:=by
 refine⟨?_,h.one⟩;obtain⟨a1,k1,rfl,_,q1,q2,q3⟩:=h;exact(.cons (.int .i64 x.op) (.cons (.str x.name q1) (.cons (q3.fv q2 (λ_ _ _ hc=>RTm.cf hc)) .nil)))
theorem Gl.good{x:Gl}(h:x.av.good):x.name.size<=9223372036854775807/\(x.args.length<=9223372036854775807/\∀y∈x.args,y.avw.good):=⟨AU (AW h (.str x.name) (by simp)),⟨(bH (AW h (.sl .no (x.args.map Tm.av)) (by simp))).1,λy hy=>N1 ((bH (AW h (.sl .no (x.args.map Tm.av)) (by simp))).2 y hy)⟩⟩
theorem RGl.fv{M:Hp}{c:List Value}{x:Gl}(h:RGl M c x):FV M x.av (.agg c.toArray):=h.cf.1.agg h.cf.2
def Bd.av(x:Bd):AV:=.agg [.int .i64 x.var,.int .i64 x.term.kind,.int .i64 x.term.num,.str x.term.name,.sl .no (x.term.args.map Tm.av)]
theorem RBd.cf{M:Hp}{c:List Value}{x:Bd}(h:RBd M c x):CF M x.av.cells c/\∀u∈c,u.oneCell'=true:=by
 refine⟨?_,h.one⟩;obtain⟨c1,rfl,_,q1⟩:=h;have w0:=Tm.nK x.term;have t:=(CF.app (CF.cons (FV.int .i64 x.var) CF.nil) (RTm.cf q1).1);rw[w0] at t;exact t
end Go.CK
namespace Go.AM
open Go.CK Go.RowKit
def scalar:AV->Bool
 |.bool _=>true
 |.int _ _=>true
 |.str _=>true
 |_=>false
def Vw(bs:List Box)(x y:AV):Prop:=∀(E:Entry) (G:Gh) (a:Act) (w:World) (lo:Nat),RS E G ⟨[],bs,lo⟩ a w->∀v,RV G.M G.σ bs.length x v->RV (Hp.of w) G.σ 0 y v
theorem Vw.same{bs:List Box}{x:AV}(h:x.flat=true):Vw bs x x:=λ_ _ _ _ _ hs _ hv=>.flat ((hv.Ii h).mono hs.ok)
theorem Vw.row{α:Type}{f:α->AV}{z:Nat}(hp:Plain f z){bs:List Box}{b m k:Nat}{l:List α}(hb:bs[b]? =some (aL f z k l))(hm:m=l.length):Vw bs (.bsl b m k) (.sl .no (l.map f)):=λE G a w lo hs v hv=>by
 refine .flat ?_;subst hm;obtain⟨ad,rfl,hbl,hmk,hml,had⟩:=hv.dH;have hz:∀y∈l.map f,y.cells.length=z:=λy hy=>by obtain⟨x,_,rfl⟩:=Zk.1 hy;exact hp.sz x
 have hlm:(l.map f).length=l.length:=by simp
 by_cases hk:k=0
 .subst hk;have hl:l=[]:=ZL (by omega)
  subst hl;exact FV.iT (l:=[]) (B:=0) (off:=0) (sz:=z) (by simp) (ZG _) (ZJ _) (by simp) (λh=>absurd rfl h) (λi hi=>by cases hi)
 .have hne:cellsOf (l.map f)++List.replicate ((k-l.length)*z) .top≠[]:=λe=>by
   have:=congrArg List.length e;rw[ZC,hp.len,Zf,<-YK,YO] at this;have h2:0<(l.length+(k-l.length))*z:=Nat.mul_pos (by omega) hp.pos
   omega
  have hbc:aa bs b=some (cellsOf (l.map f)++List.replicate ((k-l.length)*z) .top):=cr (eT hb) hne;rw[had hk]
  have hel:fO (Hp.of w) (G.σ b) 0 z (l.map f):=fO.yR (p:=List.replicate ((k-l.length)*z) .top) hz λj hj=>by
   obtain⟨u,h1,h2,h3⟩:=hs.ze (s:=⟨[],bs,lo⟩) hbc j hj;refine⟨u,by rw[YG];exact h1,h2,?_⟩
   have hc:(cellsOf (l.map f)++List.replicate ((k-l.length)*z) AV.top)[j].aF=(cellsOf (l.map f)++List.replicate ((k-l.length)*z) AV.top)[j]/\(cellsOf (l.map f)++List.replicate ((k-l.length)*z) AV.top)[j].aU=true:=by
    have:=Zc hj;rcases ZY.1 this with hx|hx
    .exact hp.mem hx
    .rw [(Ya.1 hx).2];exact⟨rfl,rfl⟩
   rw[hc.1] at h3;exact(h3.aU hc.2).mono hs.ok
  have:=FV.iT (M:=Hp.of w) (o:=.no) (l:=l.map f) (a:=some ⟨G.σ b,0,none⟩) (k:=k) (B:=G.σ b) (off:=0) (sz:=z) (by simp) (by rw[hlm];exact hmk) (by rw [hlm];first|exact hml|exact glim_le hml) (by simp) (λ_=>rfl) hel
  rw[hlm] at this;exact this
inductive Vws (bs:List Box):List AV->List AV->Prop
 |nil:Vws bs [] []
 |cons {x y:AV} {xs ys:List AV} (h:Vw bs x y) (k:Vws bs xs ys):Vws bs (x::xs) (y::ys)
theorem Vws.len{bs:List Box}{xs ys:List AV}(h:Vws bs xs ys):ys.length=xs.length:=by
 induction h with
 |nil=>rfl
 |cons _ _ ih=>simp[ih]
theorem Vws.get{bs:List Box}{xs ys:List AV}(h:Vws bs xs ys):∀j (hj:j<xs.length) (hj':j<ys.length),Vw bs xs[j] ys[j]:=by
 induction h with
 |nil=>intro j hj;cases hj
 |cons h _ ih=>
  intro j hj hj'
  cases j with
  |zero=>exact h
  |succ j=>exact ih j (by simpa using hj) (by simpa using hj')
theorem Fun.view{P:Program}{f:FuncId}{vals vals':List AV}{r:AV}{bs:List Box}(h:Fun P f vals' r)(hr:scalar r=true)(hv:Vws bs vals vals'):Sem P f vals bs λr' bs'=>r'=r/\bs'=bs:=by
 intro E G a0 w args lo hpre hl hval
 have h0:RS ⟨λ_=>False,Hp.of w,w,0,0,G.σ,[]⟩ ⟨Hp.of w,G.σ,λ_=>none⟩ ⟨[],[],0⟩ ⟨#[],[]⟩ w:=by
  have hat:∀p x,(⟨[],[],0⟩:St).at p=some x->False:=λp x hp=>by
   cases p with
   |sl t=>simp[St.at,ak] at hp
   |bx b j=>simp[St.at,aa] at hp
  have hbx:∀b cs,aa ([]:List Box) b=some cs->False:=λb cs hb=>by simp[aa] at hb
  exact⟨Fr.refl _ _ _,Hp.le_refl _,rfl,λp x hp=>(hat p x hp).elim,λb j x hp=>(hat _ x hp).elim,λb cs hb=>(hbx b cs hb).elim,λb cs hb=>(hbx b cs hb).elim,λb b' cs cs' hb _ _=>(hbx b cs hb).elim,λp z l hp=>(hat p _ hp).elim,(λp q B hp=>by cases hp),(λp B hp=>by cases hp),(λp B hp=>by cases hp),rfl,ZG _,(λb hb=>by cases hb),Sp.none _ _ _ _ _ _⟩
 refine(h [] _ _ _ w args 0 h0 (by rw[hl,hv.len]) (λj hj v hjv=>?_)).mono ?_
 .have hj2:j<vals.length:=by rw[<-hv.len];exact hj
  exact hv.get j hj2 hj E G a0 w lo hpre v (hval j hj2 v hjv)
 .rintro e w' ⟨v,r',bs',G',rfl,⟨rfl,_⟩,h'⟩;refine⟨v,r',bs,⟨G.M,G.σ,λp=>match p with|.sl _=>none|.bx b j=>G.cl (.bx b j)⟩,rfl,⟨rfl,rfl⟩,?_⟩
  have hno:∀B,¬dV ⟨Hp.of w,G.σ,λ_=>none⟩ [] B:=λB hB=>by
   rcases hB with ⟨b,cs,hb,_⟩|⟨b,j,hb⟩|⟨b,x,hb,_⟩
   .simp [aa] at hb
   .cases hb
   .exact dS hb
  have hfr:Fr (dV ⟨Hp.of w,G.σ,λ_=>none⟩ []) (Hp.of w) w G'.M w':=h'.fr;have hat0:(⟨[(0,r')],bs',([]:List Box).length⟩:St).at (.sl 0)=some r':=rfl
  have hatc:∀p x,(⟨[(0,r')],bs,bs.length⟩:St).at p=some x->(p=.sl 0/\x=r')\/(∃b j,p=.bx b j/\(⟨[],bs,lo⟩:St).at (.bx b j)=some x):=λp x hp=>by
   cases p with
   |sl t=>
    simp only[St.at,ak] at hp;split at hp
    .rename_i hb;have:=ZO hb;subst this;cases hp;exact .inl ⟨rfl,rfl⟩
    .cases hp
   |bx b j=>exact .inr ⟨b,j,rfl,hp⟩
  have hbv:∀b j x,(⟨[],bs,lo⟩:St).at (.bx b j)=some x->al G.σ ⟨#[v],[]⟩ w' (.bx b j)=al G.σ a0 w (.bx b j):=λb j x hx=>by
   simp only[St.at] at hx
   cases hb:aa bs b with
   |none=>rw[hb] at hx;cases hx
   |some cs=>simp only[al];rw[bK (hfr.heap _ (hpre.blt hb) (hno _))]
  have hrv:RV G.M G.σ bs.length r'.aF v:=by
   have h1:=h'.val _ _ hat0
   cases r' with
   |bool b=>exact .flat (by have:=h1.cB;rw[show v=.bool b from this];exact .bool b)
   |int k n=>exact .flat (by have:=h1.aC;rw[show v=.int k n from this];exact .int k n)
   |str s=>exact .flat (by have:=h1.dG;rw[show v=.string s from this.1];exact .str s this.2)
   |_=>cases hr
  refine⟨⟨hfr.os,hfr.tape,hfr.output,hfr.size,Hp.le_refl _,λB hB _=>hfr.heap B hB (hno B),λB hB _ _=>rfl⟩,Hp.le_trans hpre.ok (Hp.le_trans hfr.le h'.ok),rfl,λp x hp=>?_,λb j x hp=>?_,λb cs hb=>?_,λb cs hb=>?_,hpre.inj,λp z l hp=>?_,λp q B hp hq'=>?_,λp B hB b cs hb=>?_,λp B hB=>?_,rfl,ZG _,λ_ _=>rfl,?_⟩
  .rcases hatc p x hp with ⟨rfl,rfl⟩|⟨b,j,rfl,hx⟩
   .exact hrv
   .show RV G.M G.σ bs.length x.aF _;rw[hbv b j x hx];exact hpre.val _ _ hx
  .rcases hatc _ x hp with ⟨e,_⟩|⟨b',j',e,hx⟩
   .cases e
   .cases e;show (al G.σ _ w' _).oneCell'=true;rw[hbv b j x hx];exact hpre.one _ _ _ hx
  .obtain ⟨vs,T,h1,h2⟩:=hpre.box b cs hb;exact⟨vs,T,(hfr.heap _ (hpre.blt hb) (hno _)).trans h1,h2⟩
  .obtain ⟨h1,_⟩:=hpre.bmem b cs hb;exact⟨h1,.inl (.inl ⟨b,cs,hb,rfl⟩)⟩
  .rcases hatc p _ hp with ⟨rfl,hx⟩|⟨b,j,rfl,hx⟩
   .subst hx;cases hr
   .obtain ⟨ad,k,h1,h2,h3⟩:=hpre.own _ _ _ hx;refine⟨ad,k,(hbv b j _ hx).trans h1,h2,?_⟩;rcases h3 with h3|⟨B,hB,h4,h5⟩
    .exact .inl h3
    .have hlt:=(hpre.cllt _ B hB).1;obtain⟨vs,T,h6,h7⟩:=h5.cells;exact .inr ⟨B,hB,h4,h5.lt,⟨vs,T,(hfr.heap B hlt (hno B)).trans h6,h7⟩,h5.free,.inl (.inr (.inl ⟨b,j,hB⟩))⟩
  .cases p with
   |sl t=>cases hp
   |bx b j=>
    cases q with
    |sl u=>cases hq'
    |bx b' j'=>exact hpre.clinj _ _ B hp hq'
  .cases p with
   |sl t=>cases hB
   |bx b' j'=>exact hpre.clbox _ B hB b cs hb
  .cases p with
   |sl t=>cases hB
   |bx b' j'=>exact⟨YT (hpre.cllt _ B hB).1 hfr.size,.inl (.inr (.inl ⟨b',j',hB⟩))⟩
  .refine ⟨λB o hs=>?_,λb x hb=>?_,hpre.sp.inj,[],rfl,.nil⟩
   .rcases hs with ⟨b,x,hb,e,ho⟩|⟨hmem,_⟩
    .obtain ⟨h1,h2,_⟩:=hpre.sp.ob B o (.inl ⟨b,x,hb,e,ho⟩);have hlt:=(Zh.1 h1).1;refine⟨(hfr.heap B hlt (hno B)).trans h1,λp hp=>?_,.inl (.inr (.inr ⟨b,x,hb,e⟩))⟩
     cases p with
     |sl t=>cases hp
     |bx b' j'=>exact h2 _ hp
    .cases hmem
   .exact hpre.sp.base b x hb
theorem ab.view{P:Program}{f:FuncId}{vals raw vals':List AV}{r:AV}{bs:List Box}{K:AV->List Box->Prop}(h:Fun P f vals' r)(hr:scalar r=true)(hv:Vws bs raw vals')(hK:K r bs):ab P f vals raw bs K:=
 .raw (h.view hr hv) λr' bs' ⟨e1,e2⟩=>by subst e1 e2;exact hK
theorem Sem.assume{P:Program}{f:FuncId}{vals:List AV}{bs:List Box}{Q:AV->List Box->Prop}(h:(∀x∈vals,x.flat=true->x.good)->(∀cs,AV.ept cs∈vals->∀c∈cs,c.good)->Sem P f vals bs Q):Sem P f vals bs Q:=λE G a0 w args lo h1 h2 h3=>by
 refine h (λx hx hf=>?_) (λcs hx c hc=>?_) E G a0 w args lo h1 h2 h3
 .obtain ⟨j,hj,rfl⟩:=Yx hx;exact⟨G.M,_,(h3 j hj _ (ZA (by omega))).Ii hf⟩
 .obtain ⟨j,hj,e⟩:=Yx hx;have hv:=h3 j hj _ (ZA (by omega))
  rw[e] at hv;obtain⟨B,off,_,hcs⟩:=hv.qg;obtain⟨i,hi,rfl⟩:=Yx hc;obtain⟨v,_,_,h6⟩:=hcs i hi;exact⟨G.M,v,h6⟩
theorem lh.GN{α:Type}{f:α->AV}{z:Nat}(hp:Plain f z){e:List (Nat×AV)}{bs:List Box}{lo:Nat}{l':List α}{o:Cap}{K:AV->St->Prop}(hlim:l'.length<=4294967296)
  (h:∀k',l'.length<=k'->K (.bsl bs.length l'.length k') ⟨e,bs++[aL f z k' l'],lo⟩):lh z ⟨e,bs,lo⟩ (.sl .full []) (.sl o (l'.map f)) K:=by
 refine⟨?_⟩;unfold mG;simp only[qx,wD];refine⟨λy hy=>by obtain⟨x,_,rfl⟩:=Zk.1 hy;exact hp.sz x,?_⟩
 rw[ZF];refine⟨⟨hp.pos,by simp,by omega,λx hx=>by simp at hx⟩,λk' hk'=>?_⟩
 have:=h k' (by omega)
 simp only[aL,iv,YG,List.take_nil,Ym] at this|-;exact this
theorem Gg{α:Type}(own:List α)(x y c:α):((own++[x])++[c]).set own.length y=(own++[y])++[c]:=by simp
end Go.AM
namespace Go.AM
open Go.CK Go.RowKit
variable{A B K:Prop}{b:Bool}{p:Prop}
theorem cY(k:A)(h:b=true:=by with_reducible rfl):aq b A B:=.yes h k
theorem cN(k:B)(h:b=false:=by with_reducible rfl):aq b A B:=.no h k
theorem cI[Decidable p](k:A)(h:p:=by omega):aq (decide p) A B:=.is h k
theorem cJ[Decidable p](k:B)(h:¬p:=by omega):aq (decide p) A B:=.K6 h k
theorem cYa(k:A)(h:b=true:=by assumption):aq b A B:=.yes h k
theorem cNa(k:B)(h:b=false:=by assumption):aq b A B:=.no h k
theorem cIr[Decidable p](k:A)(h:p:=by with_reducible rfl):aq (decide p) A B:=.is h k
theorem cId[Decidable p](k:A)(h:p:=by decide):aq (decide p) A B:=.is h k
theorem cJd[Decidable p](k:B)(h:¬p:=by decide):aq (decide p) A B:=.K6 h k
theorem wI{n:Int}{K:Int->Prop}(k:K n)(h:-9223372036854775808<=n/\n<=9223372036854775807:=by omega):nP .i64 n K:=.i64 h k
theorem nS(k:K)(h:p:=by first|omega|assumption|(show dB _=true;rfl)|(simp;done)|(simp;omega)|(simp [lim,glim];done)|(simp [lim,glim];omega)|((repeat' (first|assumption|exact Szs.nil|exact Szs.tm|refine Szs.app ?_ ?_|refine Szs.cons rfl ?_|exact Szs.map (λ_=>rfl)|exact Szs.rep rfl|refine Szs.take ?_ _|refine Szs.drop ?_ _|refine Szs.set ?_ rfl _));done)):cG p K:=⟨h,k⟩
theorem iA{l:List Tm}{n:Nat}{K:AV->Prop}{x:Tm}(k:K x.avw)(h:l[n]? =some x:=by assumption):eL 4 (l.map Tm.av) (n:Int) K:=Go.CK.eL.tmK h k
theorem iC{l:List Tm}{n:Nat}{K:AV->Prop}(k:∀x,l[n]? =some x->K x.avw)(h1:n<l.length:=by omega):eL 4 (l.map Tm.av) (n:Int) K:=Go.CK.eL.tm h1 k
section
variable{α:Type}{f:α->AV}{sz:Nat}{l:List α}{K:AV->Prop}{x:α}
theorem iE{n:Nat}(k:K (f x))(h:l[n]? =some x:=by assumption)(hs:∀x,(f x).cells.length=sz:=by intro _;rfl):eL sz (l.map f) (n:Int) K:=.Ko h hs k
theorem iF{n:Int}(k:K (f x))(h:l[n.toNat]? =some x:=by assumption)(h0:0<=n:=by omega)(hs:∀x,(f x).cells.length=sz:=by intro _;rfl):eL sz (l.map f) n K:=.known h h0 hs k
theorem iH{n:Nat}(k:∀x,l[n]? =some x->K (f x))(h1:n<l.length:=by omega)(hs:∀x,(f x).cells.length=sz:=by intro _;rfl):eL sz (l.map f) (n:Int) K:=.K3 h1 hs k
end
theorem iJ{sz:Nat}{l:List AV}{n:Int}{K:AV->Prop}{y:AV}(k:K y)(h:l[n.toNat]? =some y:=by rfl)(h0:0<=n:=by decide)(hs:y.cells.length=sz:=by first|rfl|assumption):eL sz l n K:=.of h0 h hs k
theorem hB{P:Program}{f:FuncId}(k:K)(h:dI P f=true:=by kernel_rfl):Jp P f K:=⟨h,k⟩
theorem aP{bs:List Box}{n:Nat}{x:LB}(k:K)(h:ag bs n=some x:=by rfl):Jt bs n x K:=⟨h,k⟩
section
variable{vs:List AV}
theorem pE{bs:List Box}(k:K):wK vs bs bs K:=⟨.inl ⟨[],by simp⟩,k⟩
theorem pS{bs bs':List Box}(k:K)(h:stb bs bs' vs:=by (repeat' (first|exact True.intro|exact rfl|refine And.intro ?_ ?_))):wK vs bs bs' K:=⟨.inr h,k⟩
theorem pT{bs bs':List Box}(k:K)(h:∃t,bs'=bs++t:=by exact⟨_,rfl⟩):wK vs bs bs' K:=⟨.inl h,k⟩
end
theorem mA{bs:List Box}{b:Nat}{K:List (Int×AV)->Prop}{Kq:List (Int×AV×Nat)->Nat->Prop}{l:List (Int×AV)}(k:K l)(h:bs[b]? =some (.mp l):=by first|rfl|assumption):wL bs b K Kq:=.of h k
theorem mAq{bs:List Box}{b:Nat}{K:List (Int×AV)->Prop}{Kq:List (Int×AV×Nat)->Nat->Prop}{l:List (Int×AV×Nat)}{c:Nat}(k:Kq l c)(h:bs[b]? =some (.mq l c):=by first|rfl|assumption):wL bs b K Kq:=.q h k
theorem vE{x y:AV}(k:K)(h:x=y:=by with_reducible rfl):WkN x y K:=.eq h k
theorem vI{i:IntKind}{x y:Int}(k:K)(h:x=y:=by omega):WkN (.int i x) (.int i y) K:=.int h k
theorem vB{x y:Bool}(k:K)(h:x=y:=by assumption):WkN (.bool x) (.bool y) K:=.bool h k
theorem vD{z:Nat}{l m:List AV}(e:l=m)(k:K)(h:Szs z l:=by (repeat' (first|assumption|exact Szs.nil|exact Szs.tm|refine Szs.app ?_ ?_|refine Szs.cons rfl ?_|exact Szs.map (λ_=>rfl)|exact Szs.rep rfl|refine Szs.take ?_ _|refine Szs.drop ?_ _|refine Szs.set ?_ rfl _));done):WkN (.sl .full l) (.sl (.own z) m) K:=.aQ h e k
theorem xB(k:K)(h:p:=by with_reducible rfl):BxN p K:=⟨h,k⟩
theorem gC{b:Bool}{A B:Prop}(h:aq b A B):aq b A B:=h
theorem gD{p:Prop}[Decidable p]{A B:Prop}(h:aq (decide p) A B):aq (decide p) A B:=h
theorem gN{p K:Prop}(h:cG p K):cG p K:=h
theorem gW{i:IntKind}{n:Int}{K:Int->Prop}(h:nP i n K):nP i n K:=h
theorem gL{l:List AV}{K:Int->Prop}(h:sX l K):sX l K:=h
theorem gI{sz:Nat}{l:List AV}{n:Int}{K:AV->Prop}(h:eL sz l n K):eL sz l n K:=h
theorem gT{l:List Tm}{n:Int}{K:AV->Prop}(h:eL 4 (l.map Tm.av) n K):eL 4 (l.map Tm.av) n K:=h
theorem gM{α:Type}{f:α->AV}{sz:Nat}{l:List α}{n:Int}{K:AV->Prop}(h:eL sz (l.map f) n K):eL sz (l.map f) n K:=h
theorem gH{P:Program}{f:FuncId}{K:Prop}(h:Jp P f K):Jp P f K:=h
theorem gA{bs:List Box}{n:Nat}{x:LB}{K:Prop}(h:Jt bs n x K):Jt bs n x K:=h
theorem gB{bs:List Box}{n:Nat}{K:List AV->Prop}(h:vP bs n K):vP bs n K:=h
theorem gP{z:Nat}{s:St}{x y:AV}{K:AV->St->Prop}(h:lh z s x y K):lh z s x y K:=h
theorem gMp{bs:List Box}{b:Nat}{K:List (Int×AV)->Prop}{Kq:List (Int×AV×Nat)->Nat->Prop}(h:wL bs b K Kq):wL bs b K Kq:=h
theorem gE{g:Bool}{n:Nat}{s:St}{p:AV}{K:AV->Prop}(h:ElN g n s p K):ElN g n s p K:=h
theorem gS{n:Nat}{s:St}{b i z off:Nat}{v:AV}{K:St->Prop}(h:EsN n s b i z off v K):EsN n s b i z off v K:=h
theorem gPr{vs:List AV}{bs bs':List Box}{K:Prop}(h:wK vs bs bs' K):wK vs bs bs' K:=h
theorem gMs{l:List (Int×AV)}{n:Int}{ok:Bool}{z:AV}{K:AV->Prop}(h:zq l n ok z K):zq l n ok z K:=h
theorem gF{P:Program}{f:FuncId}{vals raw:List AV}{bs:List Box}{K:AV->List Box->Prop}(h:ab P f vals raw bs K):ab P f vals raw bs K:=h
theorem gG{P:Program}{f:FuncId}{vals:List AV}{K:AV->Prop}(h:aM P f vals K):aM P f vals K:=h
theorem gV{x y:AV}{K:Prop}(h:WkN x y K):WkN x y K:=h
theorem gK{z:Nat}{l m:List AV}{K:Prop}(h:WkN (.sl .full l) (.sl (.own z) m) K):WkN (.sl .full l) (.sl (.own z) m) K:=h
theorem gX{p K:Prop}(h:BxN p K):BxN p K:=h
theorem ab.to{P:Program}{f:FuncId}{vals raw:List AV}{bs bs2:List Box}{v:AV}{K:AV->List Box->Prop}(h:Sem P f raw bs λr bs'=>r=v/\bs'=bs2)(hK:K v bs2):ab P f vals raw bs K:=.raw h λr bs' ⟨e1,e2⟩=>by subst e1 e2;exact hK
def bG(n:Nat):AV:=.int .i64 (n:Int)
theorem mW:Plain bG 1:=⟨XF,λ_=>rfl,λx c h=>by simp[bG,AV.cells] at h;subst h;rfl,λx c h=>by simp[bG,AV.cells] at h;subst h;rfl⟩
theorem eLn{e:List (Nat×AV)}{bs:List Box}{lo b k i:Nat}{l:List Nat}{x:Nat}{K:AV->Prop}(h:K (.int .i64 (x:Int)))(hb:bs[b]? =some (aL bG 1 k l):=by first|rfl|assumption)(hx:l[i]? =some x:=by assumption):ElN false 1 ⟨e,bs,lo⟩ (.elp b i 1 0) K:=.one (f:=bG) (λ_=>⟨rfl,rfl⟩) hb hx h
theorem eSn{e:List (Nat×AV)}{bs:List Box}{lo b k i:Nat}{l:List Nat}{x y:Nat}{K:St->Prop}(h:K ⟨e,bs.set b (aL bG 1 k (l.set i y)),lo⟩)(hb:bs[b]? =some (aL bG 1 k l):=by first|rfl|assumption)(hx:l[i]? =some x:=by assumption):EsN 1 ⟨e,bs,lo⟩ b i 1 0 (.int .i64 (y:Int)) K:=.one (f:=bG) (λ_=>⟨rfl,rfl⟩) hb hx h
theorem aOn{e:List (Nat×AV)}{bs:List Box}{lo:Nat}{b m k:Nat}{l:List Nat}{x:Nat}{o:Cap}{K:AV->St->Prop}(h:∀k',(l++[x]).length<=k'->K (.bsl bs.length (l++[x]).length k') ⟨e,bs.set b .dead++[aL bG 1 k' (l++[x])],lo⟩)(hb:bs[b]? =some (aL bG 1 k l):=by first|rfl|assumption)(hm:m=l.length:=by first|rfl|assumption)(hk:m<=k:=by omega)(hlim:m+1<=4294967296:=by first|omega|assumption):lh 1 ⟨e,bs,lo⟩ (.bsl b m k) (.sl o [.int .i64 (x:Int)]) K:=.one mW hb hm hk hlim h
def mpE{β:Type}(enc:β->AV)(l:List (Int×β)):List (Int×AV):=l.map λe=>(e.1,enc e.2)
def lk{β:Type}:List (Int×β)->Int->Option β
 |[],_=>none
 |(k,x)::l,n=>if n=k then some x else lk l n
def pt{β:Type}:List (Int×β)->Int->β->List (Int×β)
 |[],n,y=>[(n,y)]
 |(k,x)::l,n,y=>if n=k then (k,y)::l else (k,x)::pt l n y
theorem nf{β:Type}(enc:β->AV):∀(l:List (Int×β)) (n:Int),lP (mpE enc l) n=(lk l n).map enc
 |[],n=>rfl
 |(k,x)::l,n=>by
  have:=nf enc l n;simp only[mpE] at this;simp only[mpE,ZP,lP,lk];split
  .rfl
  .exact this
theorem kQ{β:Type}(enc:β->AV):∀(l:List (Int×β)) (n:Int) (y:β),fw (mpE enc l) n (enc y)=mpE enc (pt l n y)
 |[],n,y=>rfl
 |(k,x)::l,n,y=>by
  have:=kQ enc l n y;simp only[mpE] at this;simp only[mpE,ZP,fw,pt];split
  .rfl
  .simp only[ZP,this]
theorem dC{β:Type}:∀(l:List (Int×β)) (n:Int) (y:β) (m:Int),lk (pt l n y) m=if m=n then some y else lk l m
 |[],n,y,m=>by simp only[pt,lk]
 |(k,x)::l,n,y,m=>by
  simp only[pt]
  by_cases h:n=k
  .subst h;rw[if_pos rfl];simp only[lk];split<;>rfl
  .rw [if_neg h];simp only[lk,dC l n y m]
   by_cases h1:m=k
   .subst h1;rw[if_pos rfl,if_pos rfl,if_neg (λe=>h e.symm)]
   .rw [if_neg h1,if_neg h1]
theorem mE{β:Type}{enc:β->AV}{l:List (Int×β)}{n:Int}{ok:Bool}{z:AV}{K:AV->Prop}(h1:∀v,lk l n=some v->K (okR ok (enc v) true))(h2:lk l n=none->K (okR ok z false))(hv:∀v,dB (enc v)=true:=by intro _;rfl):zq (mpE enc l) n ok z K:=⟨by
 rw[nf]
 cases h:lk l n with
 |none=>exact h2 h
 |some v=>exact⟨hv v,h1 v h⟩⟩
theorem mEs{β:Type}{enc:β->AV}{l:List (Int×β)}{n:Int}{ok:Bool}{z:AV}{K:AV->Prop}{v:β}(k:K (okR ok (enc v) true))(h:lk l n=some v:=by assumption)(hv:dB (enc v)=true:=by rfl):zq (mpE enc l) n ok z K:=⟨by rw[nf,h];exact⟨hv,k⟩⟩
theorem mEn{β:Type}{enc:β->AV}{l:List (Int×β)}{n:Int}{ok:Bool}{z:AV}{K:AV->Prop}(k:K (okR ok z false))(h:lk l n=none:=by assumption):zq (mpE enc l) n ok z K:=⟨by rw[nf,h];exact k⟩
theorem eN{β:Type}{enc:β->AV}{e:List (Nat×AV)}{bs:List Box}{lo b:Nat}{n:Int}{l:List (Int×β)}{zx:AV}{K:AV->St->Prop}(h:K (.tup [zx,.int .i64 (mpE enc l).length]) ⟨e,bs.set b (.mp (mpE enc l++[(n,zx)])),lo⟩)(hb:bs[b]? =some (.mp (mpE enc l)):=by first|rfl|assumption)(hn:lk l n=none:=by assumption)(hz:dB zx=true:=by rfl):Jr zx ⟨e,bs,lo⟩ (.mpt b) (.int .i64 n) K:=⟨by
 simp only[sq,hb];exact⟨⟨by rw[nf,hn];rfl,hz⟩,h⟩⟩
theorem sN{e:List (Nat×AV)}{bs:List Box}{lo b:Nat}{n:Int}{l:List (Int×AV)}{x v:AV}{K:St->Prop}(h:K ⟨e,bs.set b (.mp (l++[(n,v)])),lo⟩)(hb:bs[b]? =some (.mp (l++[(n,x)])):=by first|rfl|assumption)(hv:dB v=true:=by rfl):Jl ⟨e,bs,lo⟩ (.mpt b) (.int .i64 (l.length:Int)) v K:=⟨by
 simp only[r6,hb,Ys,List.getElem?_concat_length];refine⟨⟨by omega,hv⟩,?_⟩
 rw[Xc _ _ (ZG _),XY];exact h⟩
theorem Gw{β:Type}:∀{l:List (Int×β)} {n:Int},lk l n=none->∀y,pt l n y=l++[(n,y)]
 |[],_,_,_=>rfl
 |(k,x)::l,n,h,y=>by
  simp only[lk] at h;split at h
  .cases h
  .rename_i hk;simp only[pt,if_neg hk,Gw h y,Ze]
theorem DD{β:Type}{enc:β->AV}{l:List (Int×β)}{n:Int}(h:lk l n=none)(y:β):mpE enc l++[(n,enc y)]=mpE enc (pt l n y):=by
 rw[Gw h];simp[mpE]
theorem gEn{zx:AV}{s:St}{m k:AV}{K:AV->St->Prop}(h:Jr zx s m k K):Jr zx s m k K:=h
theorem gSt{s:St}{m j v:AV}{K:St->Prop}(h:Jl s m j v K):Jl s m j v K:=h
theorem au{s t:St}(h:E5 true t.env λe=>fBs t.bs λb=>wkE 100 [] s.env e/\eqB s.bs b True:=by (conv=>whnf);(refine And.intro ?_ ?_<;>conv=>whnf);(all_goals repeat' ((first|(refine gV ?_;first|refine vE ?_|refine vI ?_|refine vB ?_|refine gK (vC ?_)|refine vN ?_)|refine gX (xB ?_)|exact True.intro)<;>conv=>whnf)))(hl:s.lo=t.lo:=by rfl):ah s t:=ah.at_ h hl
end Go.AM
