/-
  Texts of this bj joined (wip/gen/bundle.py),those declarations only that are needed:AmN AmA AmB. By an AI agent.
-/
import Derived.Test.YtcjfkbdbcgmomaaGreatDoorBab
set_option linter.unusedSimpArgs false
set_option linter.unusedVariables false
namespace Go.AM
open Go.CK Go.RowKit
def bl(M:Hp)(B off:Nat)(us:List Value):Hp:=λb o=>if b=B/\off<=o/\o<off+us.length then us[o-off]? else M b o
theorem fe{M:Hp}{B off:Nat}{us:List Value}{j:Nat}{u:Value}(h:us[j]? =some u):bl M B off us B (off+j)=some u:=by
 have hj:j<us.length:=by
  rcases zt j us.length with h1|h1
  .exact h1
  .rw [zS h1] at h;cases h
 unfold bl;rw[if_pos ⟨rfl,by omega,by omega⟩,show off+j-off=j by omega]
 exact h
theorem cV{M:Hp}{B off:Nat}{us:List Value}(h:∀o,off<=o->M B o=none):M.le (bl M B off us):=λb o v hv=>by
 simp only[bl];rw[if_neg]
 .exact hv
 .rintro ⟨rfl,h1,_⟩;rw[h o h1] at hv;cases hv
theorem bT{M:Hp}{B off:Nat}{us:List Value}{b:Nat}(h:b≠B)(o:Nat):bl M B off us b o=M b o:=by
 simp only[bl];rw[if_neg (λe=>h e.1)]
theorem lp{M:Hp}{B off:Nat}{us:List Value}{b o:Nat}{v:Value}(h:bl M B off us b o=some v):(b=B/\∃j,o=off+j/\us[j]? =some v)\/M b o=some v:=by
 simp only[bl] at h;split at h
 .rename_i hc;exact .inl ⟨hc.1,o-off,by omega,h⟩
 .exact .inr h
def ez(M:Hp)(sz:Nat)(l:List AV)(us:List Value):Prop:=
 us.length=l.length*sz/\∀i (h:i<l.length),l[i].cells.length=sz/\∀j (hj:j<l[i].cells.length),∃u,us[i*sz+j]? =some u/\u.oneCell'=true/\FV M (l[i].cells[j]) u
theorem ez.nil(M:Hp)(sz:Nat):ez M sz [] []:=⟨by simp,λi hi=>by cases hi⟩
theorem ez.append{M:Hp}{sz:Nat}{l l2:List AV}{us us2:List Value}(h:ez M sz l us)(h2:ez M sz l2 us2):ez M sz (l++l2) (us++us2):=by
 refine⟨by rw[zC,zC,h.1,h2.1,ZL],λi hi=>?_⟩
 by_cases hlt:i<l.length
 .have hmul:(i+1)*sz<=l.length*sz:=ZE _ hlt;rw[ZL,Nat.one_mul] at hmul;simp only[ZH hlt];obtain⟨a1,a2⟩:=h.2 i hlt;refine⟨a1,λj hj=>?_⟩;obtain⟨u,b1,b2,b3⟩:=a2 j hj;exact⟨u,by rw[zK (by rw[h.1];omega)];exact b1,b2,b3⟩
 .obtain ⟨k,rfl⟩:∃k,i=l.length+k:=⟨i-l.length,by omega⟩
  have hk:k<l2.length:=by simp at hi;omega
  have he:(l++l2)[l.length+k]'hi=l2[k]:=by
   rw[ZW (by omega)]
   simp
  obtain⟨a1,a2⟩:=h2.2 k hk;rw[he];refine⟨a1,λj hj=>?_⟩;obtain⟨u,b1,b2,b3⟩:=a2 j hj;refine⟨u,?_,b2,b3⟩;rw[ZL,<-h.1,zZ (by omega),show us.length+k*sz+j-us.length=k*sz+j by omega]
  exact b1
theorem ez.elems{M M':Hp}(hM:M.le M'){sz B off:Nat}{l:List AV}{us:List Value}(h:ez M sz l us)(hu:∀j u,us[j]? =some u->M' B (off+j)=some u):iq M' B off sz l:=λi hi=>by
 obtain⟨a1,a2⟩:=h.2 i hi;refine⟨a1,λj hj=>?_⟩;obtain⟨u,b1,b2,b3⟩:=a2 j hj;exact⟨u,by rw[Zh];exact hu _ _ b1,b2,b3.mono hM⟩
theorem iq.rowOf{M:Hp}{B off sz:Nat}{l:List AV}(h:iq M B off sz l):∃us,ez M sz l us/\∀j u,us[j]? =some u->M B (off+j)=some u:=by
 have hget:∀o,o<l.length*sz->∃u,M B (off+o)=some u:=λo ho=>by
  have hsz:0<sz:=by
   rcases Nat.eq_zero_or_pos sz with h0|h0
   .subst h0;omega
   .exact h0
  have hi:o/sz<l.length:=(Zn hsz).2 ho;have hj:=Nat.mod_lt o hsz;obtain⟨a1,a2⟩:=h _ hi;obtain⟨u,b1,_⟩:=a2 (o %sz) (by omega)
  refine⟨u,?_⟩;rw[<-b1,Zh];congr 1;have:=Nat.div_add_mod o sz;rw[Nat.mul_comm] at this;omega
 refine⟨(List.range (l.length*sz)).map λo=>(M B (off+o)).getD undef,⟨by simp,λi hi=>⟨(h i hi).1,λj hj=>?_⟩⟩,λj u hu=>?_⟩
 .obtain ⟨a1,a2⟩:=h i hi;obtain⟨u,b1,b2,b3⟩:=a2 j hj;have hmul:(i+1)*sz<=l.length*sz:=ZE _ hi;rw[ZL,Nat.one_mul] at hmul;refine⟨u,?_,b2,b3⟩;rw[Zh] at b1;simp[List.getElem?_range (show i*sz+j<l.length*sz by omega),b1]
 .have hj:j<l.length*sz:=by
   rcases zt j (l.length*sz) with h1|h1
   .exact h1
   .rw [zS (by simpa using h1)] at hu;cases hu
  obtain⟨u',hu'⟩:=hget j hj;simp[hj,hu'] at hu;rw[hu',hu]
section
variable{E:Entry}{G:Gh}{s:St}{a:Act}{w:World}{P:Program}
theorem RS.noM(h:RS E G s a w)(o:Nat):G.M w.heap.size o=none:=by
 cases hq:G.M w.heap.size o with
 |none=>rfl
 |some v=>exact absurd (Hp.lt h.ok hq) (by omega)
theorem RS.newRow(h:RS E G s a w)(vs:Array Value)(T:TypeId)(us:List Value)(hp:∀(j:Nat) u,us[j]? =some u->vs[j]? =some u):
  RS E {G with M:=bl G.M w.heap.size 0 us} s a (w.alloc (.cells vs T)):=by
 refine h.grow ⟨rfl,rfl,rfl,by simp,cV λo _=>h.noM o,λB hB _=>Below.heap_alloc _ _ _ hB,λB hB _ o=>bT (by omega) o⟩ λb o v hv=>?_
 rcases lp hv with ⟨rfl,j,rfl,hj⟩|hv
 .have hnew:(w.alloc (.cells vs T)).heap[w.heap.size]? =some (.cells vs T (0,0)):=heap_alloc_new w _;simp only[Hp.of,World.cell?,hnew];simpa using hp j v hj
 .exact (Ext.refl w).alloc _|>.cell (h.ok _ _ _ hv)
structure CO(E:Entry)(G:Gh)(s:St)(w:World)(B z n k:Nat)(p:Pl):Prop where
 row:Row E.FP E.w G.M w B z n k
 only:∀q,G.cl q=some B->q=p
 box:∀b cs,aa s.bs b=some cs->G.σ b≠B
 lt:B<w.heap.size
 not:∀z l,s.at p≠some (.sl (.own z) l)
 nl:∀b j,p=.bx b j->ai s.bs b=none
theorem RS.Hh(h:RS E G s a w){d p:Pl}{o:Cap}{l:List AV}{B z k:Nat}(hd:s.at d=some (.sl o l))(hv:ay G.σ a w d=.slice (some ⟨B,0,none⟩) l.length k)(hs:CO E G s w B z l.length k p)(hz:∀y∈l,y.cells.length=z):
  RS E {G with cl:=λr=>if r=d then some B else if r=p then none else G.cl r} (s.upd d (.sl (.own z) l)) a w:=by
 have hvd:=h.val d _ hd
 refine⟨h.fr,h.ok,h.nt,λr u hu=>?_,λb j u hu=>?_,λb cs hb=>?_,λb cs hb=>?_,λb b' cs cs' hb hb' e=>?_,λr z' l' hr=>?_,λr r' B' hr hr'=>?_,λr B' hB' b cs hb=>?_,λr B' hB'=>?_,(St.o0 s d _).trans h.lo,by rw[St.eM];exact h.len,h.sig,h.sp.step (Hp.le_refl _) (λ_ _=>rfl) (λ_ _ k=>St.jO k) (λ_ _ k _=>k) (λB' o ho hk r k=>by
  simp only at k
  by_cases e1:r=d
  .rw [if_pos e1] at k;cases k;obtain⟨vs,T,hc,_⟩:=hs.row.cells;rw[hc] at ho;cases ho;cases hk
  .rw [if_neg e1] at k
   by_cases e2:r=p
   .rw [if_pos e2] at k;cases k
   .rw [if_neg e2] at k;exact⟨r,k⟩) (λ_ k=>k) (λb j B' o h1 h2 h3=>⟨by
    have e1:Pl.bx b j≠d:=λe=>by rw[<-e,xg h1] at hd;cases hd
    have e2:Pl.bx b j≠p:=λe=>by rw[hs.nl b j e.symm] at h1;cases h1
    simp only[if_neg e1,if_neg e2];exact h2,h3,λh4=>h4⟩)⟩
 .rw [St.ef s hd] at hu;rw[St.eM]
  by_cases hr:r=d
  .rw [if_pos hr] at hu;cases hu;rw[hr];have:=hvd.aj;rw[yS] at this;exact this
  .rw [if_neg hr] at hu;exact h.val r u hu
 .rw [St.ef s hd] at hu
  by_cases hr:Pl.bx b j=d
  .exact h.one b j _ (hr▸hd)
  .rw [if_neg hr] at hu;exact h.one b j u hu
 .obtain ⟨ds,h1,h2⟩:=s.bC d _ b cs hb;obtain⟨vs,T,h3,h4⟩:=h.box b ds h1;exact⟨vs,T,h3,ZN (by omega) h4⟩
 .obtain ⟨ds,h1,h2⟩:=s.bC d _ b cs hb;exact h.bmem b ds h1
 .obtain ⟨ds,h1,_⟩:=s.bC d _ b cs hb;obtain⟨ds',h1',_⟩:=s.bC d _ b' cs' hb';exact h.inj b b' ds ds' h1 h1' e
 .rw [St.ef s hd] at hr
  by_cases hrd:r=d
  .rw [if_pos hrd] at hr;cases hr;exact⟨_,k,by rw[hrd];exact hv,hz,.inr ⟨B,by simp[hrd],rfl,hs.row⟩⟩
  .rw [if_neg hrd] at hr;obtain⟨ad,k',h2,hz',h3⟩:=h.own r z' l' hr;refine⟨ad,k',h2,hz',?_⟩;rcases h3 with h3|⟨B',hB',h4,h5⟩
   .exact .inl h3
   .refine .inr ⟨B',?_,h4,h5⟩;have:r≠p:=λe=>hs.not _ _ (e▸hr);simp only[hrd,this,if_false];exact hB'
 .simp only at hr hr'
  by_cases hrd:r=d
  .rw [if_pos hrd] at hr
   by_cases hrd':r'=d
   .rw [hrd,hrd']
   .rw [if_neg hrd'] at hr'
    by_cases hrp':r'=p
    .rw [if_pos hrp'] at hr';cases hr'
    .rw [if_neg hrp'] at hr';cases hr;exact absurd (hs.only _ hr') hrp'
  .rw [if_neg hrd] at hr
   by_cases hrp:r=p
   .rw [if_pos hrp] at hr;cases hr
   .rw [if_neg hrp] at hr
    by_cases hrd':r'=d
    .rw [if_pos hrd'] at hr';cases hr';exact absurd (hs.only _ hr) hrp
    .rw [if_neg hrd'] at hr'
     by_cases hrp':r'=p
     .rw [if_pos hrp'] at hr';cases hr'
     .rw [if_neg hrp'] at hr';exact h.clinj _ _ B' hr hr'
 .obtain ⟨ds,h1,_⟩:=s.bC d _ b cs hb;simp only at hB'
  by_cases hrd:r=d
  .rw [if_pos hrd] at hB';cases hB';exact hs.box b ds h1
  .rw [if_neg hrd] at hB'
   by_cases hrp:r=p
   .rw [if_pos hrp] at hB';cases hB'
   .rw [if_neg hrp] at hB';exact h.clbox r B' hB' b ds h1
 .simp only at hB'
  by_cases hrd:r=d
  .rw [if_pos hrd] at hB';cases hB';exact⟨hs.lt,hs.row.mine⟩
  .rw [if_neg hrd] at hB'
   by_cases hrp:r=p
   .rw [if_pos hrp] at hB';cases hB'
   .rw [if_neg hrp] at hB';exact h.cllt r B' hB'
theorem RS.fill(h:RS E G s a w){B z n k:Nat}{p:Pl}(hs:CO E G s w B z n k p){m:Nat}(us:List Value)(hu:us.length=m*z)(hmk:n+m<=k)(h1:∀u∈us,u.oneCell'=true):
  ∃w',(storeCells (⟨B,n*z,none⟩:Addr) us).run P w=.ok () w'/\RS E {G with M:=bl G.M B (n*z) us} s a w'/\w'.heap.size=w.heap.size/\
   (n+m<k->CO E {G with M:=bl G.M B (n*z) us} s w' B z (n+m) k p):=by
 obtain⟨vs,T,hc,hvs⟩:=hs.row.cells
 have hfit:n*z+us.length<=vs.size:=by
  rw[hu,hvs,<-ZL];exact ZE _ hmk
 have hrun:=run_storeCells_at P B (n*z) T us 0 vs w hc (by simpa using hfit) h1
 simp only[Ze] at hrun;have hnew:=setRow_heap w B vs (vs.toList.take (n*z)++us++vs.toList.drop (n*z+us.length)).toArray T (0,0) hc
 have hother:∀k,k≠B->(w.setRow B (vs.toList.take (n*z)++us++vs.toList.drop (n*z+us.length)).toArray).heap[k]? =w.heap[k]?:=λk hk=>by
  simp only[World.setRow,Array.getElem?_modify];rw[if_neg (Ne.symm hk)]
 have hsize:(w.setRow B (vs.toList.take (n*z)++us++vs.toList.drop (n*z+us.length)).toArray).heap.size=w.heap.size:=by simp[World.setRow]
 have hlen:(vs.toList.take (n*z)++us++vs.toList.drop (n*z+us.length)).length=vs.size:=by
  simp;omega
 have hin:∀(j:Nat) u,us[j]? =some u->(vs.toList.take (n*z)++us++vs.toList.drop (n*z+us.length))[n*z+j]? =some u:=λj u hj=>by
  have hjl:j<us.length:=by
   rcases zt j us.length with h1|h1
   .exact h1
   .rw [zS h1] at hj;cases hj
  rw[zg,zZ (by simp;omega)]
  simp only[zn,ZJ];rw[show n*z+j-min (n*z) vs.size=j by omega,zK hjl];exact hj
 have hout:∀(o:Nat),o<n*z->(vs.toList.take (n*z)++us++vs.toList.drop (n*z+us.length))[o]? =vs[o]?:=λo ho=>by
  rw[zg,zK (by simp;omega),Za,if_pos ho,Array.getElem?_toList]
 have hval:∀q y,s.at q=some y->ay G.σ a (w.setRow B (vs.toList.take (n*z)++us++vs.toList.drop (n*z+us.length)).toArray) q=ay G.σ a w q:=λq y hq=>by
  cases q with
  |sl t=>rfl
  |bx b j=>
   simp only[St.at] at hq
   cases hb:aa s.bs b with
   |none=>rw[hb] at hq;cases hq
   |some cs=>simp only[ay];rw[cH (hother _ (hs.box b cs hb))]
 have hfree:=hs.row.free;have hMle:G.M.le (bl G.M B (n*z) us):=cV hfree;refine⟨_,hrun,?_,hsize,λhlt=>?_⟩
 .refine ⟨?_,λb o v hv=>?_,h.nt,λq y hq=>?_,λb j y hq=>?_,λb cs hb=>?_,λb cs hb=>?_,h.inj,λq z' l' hq=>?_,h.clinj,h.clbox,λq B' hB'=>by rw[hsize];exact h.cllt q B' hB',h.lo,h.len,h.sig,h.sp.step hMle (λ_ _=>rfl) (λ_ _ k=>k) (λB' o ho hk=>by rw[hother B' (λe=>by subst e;rw[hc] at ho;cases ho;cases hk)];exact ho) (λ_ _ _ _ p k=>⟨p,k⟩) (λ_ k=>k) (λb j B' o h1 h2 h3=>by
   have hne:B'≠B:=λe=>by
    have:=hs.nl b j (hs.only _ (e▸h2)).symm;rw[this] at h1;cases h1
   exact⟨h2,(hother B' hne).trans h3,λh4 k=>(bT hne k).trans (h4 k)⟩)⟩
  .refine ⟨h.fr.os,h.fr.tape,h.fr.output,by rw[hsize];exact h.fr.size,Hp.le_trans h.fr.le hMle,λB' hB' hn=>?_,λB' hB' hn o=>?_⟩
   .have:B'≠B:=λe=>by
     subst e;rcases hs.row.mine with h1|h1
     .exact hn h1
     .omega
    rw[hother B' this];exact h.fr.heap B' hB' hn
   .have:B'≠B:=λe=>by
     subst e;rcases hs.row.mine with h1|h1
     .exact hn h1
     .omega
    exact(bT this o).trans (h.fr.mem B' hB' hn o)
  .rcases lp hv with ⟨rfl,j,rfl,hj⟩|hv2
   .simp only[Hp.of,World.cell?,hnew];simp only[Zq,ZX,if_false,yI];exact hin j v hj
   .have:=h.ok _ _ _ hv2
    by_cases e:b=B
    .subst e
     have ho:o<n*z:=by
      rcases zt o (n*z) with h1|h1
      .exact h1
      .rw [hfree o h1] at hv2;cases hv2
     simp only[Hp.of,World.cell?,hc] at this;simp only[Hp.of,World.cell?,hnew];simp only[Zq,ZX,if_false,yI] at this|-;rw[hout o ho];exact this
    .simp only[Hp.of];rw[cH (hother b e)];exact this
  .rw [hval q y hq];exact(h.val q y hq).mono hMle (zG _) (λ_ _=>rfl)
  .rw [hval _ y hq];exact h.one b j y hq
  .obtain ⟨us',T',h2,h3⟩:=h.box b cs hb;exact⟨us',T',by rw[hother _ (hs.box b cs hb)];exact h2,h3⟩
  .obtain ⟨h2,h3⟩:=h.bmem b cs hb;exact⟨λo=>(bT (hs.box b cs hb) o).trans (h2 o),h3⟩
  .obtain ⟨ad,k',h2,hz',h3⟩:=h.own q z' l' hq;refine⟨ad,k',by rw[hval q _ hq];exact h2,hz',?_⟩
   rcases h3 with h3|⟨B',hB',h4,h5⟩
   .exact .inl h3
   .have hne:B'≠B:=λe=>by
     subst e;have:=hs.only q hB';subst this;exact hs.not _ _ hq
    obtain⟨us',T',h6,h7⟩:=h5.cells;exact .inr ⟨B',hB',h4,h5.lt,⟨us',T',by rw[hother B' hne];exact h6,h7⟩,λo ho=>(bT hne o).trans (h5.free o ho),h5.mine⟩
 .refine ⟨⟨hlt,⟨_,T,hnew,by rw[List.size_toArray,hlen,hvs]⟩,λo ho=>?_,hs.row.mine⟩,hs.only,hs.box,by rw[hsize];exact hs.lt,hs.not,hs.nl⟩
  simp only[bl];rw[if_neg (λe=>by have:=e.2.2;rw[hu,<-ZL] at this;omega)]
  exact hfree o (ZN (ZE _ (Zw _ _)) ho)
structure SV(M:Hp)(l:List AV)(sz:Nat)(v:Value)(ad:Option Addr)(k B off:Nat):Prop where
 eq:v=.slice ad l.length k
 cap:l.length<=k
 len:l.length<=lim
 at_:l≠[]->ad=some ⟨B,off,none⟩
 el:iq M B off sz l
theorem RV.sv{M:Hp}{σ:Nat->Nat}{n:Nat}{o:Cap}{l:List AV}{v:Value}(h:RV M σ n (.sl o l) v){sz:Nat}(hz:∀y∈l,y.cells.length=sz):∃ad k B off,SV M l sz v ad k B off:=by
 obtain⟨ad,k,B,off,sz',h1,h2,h3,h4,h5,h6,h7⟩:=h.dN;refine⟨ad,k,B,off,h1,h3,h4,h6,λi hi=>?_⟩;obtain⟨a1,a2⟩:=h7 i hi;have:=hz _ (zc hi);refine⟨this,?_⟩;rw[<-this,a1];exact a2
theorem SV.rv{M:Hp}{σ:Nat->Nat}{n sz:Nat}{o:Cap}{l:List AV}{v:Value}{ad:Option Addr}{k B off:Nat}(h:SV M l sz v ad k B off)(ho:∀z,o≠.own z)(hf:o=.full->k=l.length):RV M σ n (.sl o l) v:=by
 rw[h.eq];exact .flat (.lB ho h.cap h.len hf h.at_ h.el)
theorem SV.row{M:Hp}{l:List AV}{sz:Nat}{v:Value}{ad:Option Addr}{k B off:Nat}(h:SV M l sz v ad k B off)(hok:M.le (Hp.of w)):
  ∃us,ez M sz l us/\(∀u∈us,u.oneCell'=true)/\∀j u,us[j]? =some u->w.cell? ⟨B,off+j,none⟩=some u:=by
 obtain⟨us,h1,h2⟩:=h.el.rowOf;refine⟨us,h1,λu hu=>?_,λj u hj=>hok _ _ _ (h2 j u hj)⟩;obtain⟨o,ho,rfl⟩:=ZZ.1 hu
 have hsz:0<sz:=by
  rcases Nat.eq_zero_or_pos sz with h0|h0
  .subst h0;rw[h1.1] at ho;omega
  .exact h0
 rw[h1.1] at ho;have hi:o/sz<l.length:=(Zn hsz).2 ho;obtain⟨a1,a2⟩:=h1.2 _ hi;obtain⟨u,b1,b2,_⟩:=a2 (o %sz) (by rw[a1];exact Nat.mod_lt o hsz)
 have he:o/sz*sz+o %sz=o:=by have:=Nat.div_add_mod o sz;rw[Nat.mul_comm] at this;exact this
 rw[he,zA (by rw[h1.1];exact ho)] at b1
 cases b1;exact b2
theorem nC(w:World)(ad:Option Addr)(B off n sz k:Nat)(us:List Value)(hl:us.length=n*sz)(ha:n≠0->ad=some ⟨B,off,none⟩)(hu:∀j u,us[j]? =some u->w.cell? ⟨B,off+j,none⟩=some u):
  (Builtin.firstCells sz n (.slice ad n k)).run P w=.ok us.toArray w\/(n=0/\us=[]/\(Builtin.firstCells sz n (.slice ad n k)).run P w=.ok #[] w):=by
 by_cases h0:n=0
 .subst h0
  have hnil:us=[]:=by
   have:us.length=0:=by rw[hl];simp
   exact ZV.1 this
  refine .inr ⟨rfl,hnil,?_⟩
  cases ad with
  |none=>rfl
  |some b=>simp[Builtin.firstCells,loadCells,loadCellsFrom]
 .refine .inl ?_;rw[ha h0];simp only[Builtin.firstCells];have:=run_loadCells_list (P:=P) w ⟨B,off,none⟩ us (λj v hv=>by rw[bO];exact hu j v hv)
  rw[hl] at this;exact this
theorem bN(w:World){ad:Option Addr}{B off n sz k:Nat}{us:List Value}(hl:us.length=n*sz)(ha:n≠0->ad=some ⟨B,off,none⟩)(hu:∀j u,us[j]? =some u->w.cell? ⟨B,off+j,none⟩=some u):
  (Builtin.firstCells sz n (.slice ad n k)).run P w=.ok us.toArray w:=by
 rcases nC (P:=P) w ad B off n sz k us hl ha hu with h|⟨_,h2,h3⟩
 .exact h
 .rw [h2];exact h3
structure HS(P:Program)(t e:TypeId)(sz:Nat):Prop where
 sl:P.underlying t=some (.slice e)
 ex:∃i z,P.info? e=some i/\i.zero=some z/\i.size=sz/\z.cells.size=sz/\i.bytes<=4096
theorem nz{t e sz bytes:Nat}{i:TypeInfo}{z:Value}(ht:P.underlying t=some (.slice e))(hi:P.info? e=some i)(hz:i.zero=some z)(hsz:i.size=sz)(hby:i.bytes=bytes)
  (ty:TypeId) (ad:Option Addr) (n k:Nat) (xa:Option Addr) (m c:Nat) (w:World) (hle:n+m<=lim) (hb:bytes<=4096):
  (Builtin.append_ #[t,t] ty #[.slice ad n k,.slice xa m c]).run P w=
   if n+m<=k then ((Builtin.firstCells sz m (.slice xa m c)).run P w).andThen λnew w1=>
     ((match ad with|some a=>storeCells (a.add (n*sz)) new.toList|none=>Pure.pure ():Sem Unit).run P w1).andThen λ_ w2=>.ok (.slice ad (n+m) k) w2
   else ((Builtin.firstCells sz n (.slice ad n k)).run P w.drew).andThen λold w1=>((Builtin.firstCells sz m (.slice xa m c)).run P w1).andThen λnew w2=>
    .ok (.slice (some ⟨w2.heap.size,0,none⟩) (n+m) (grownCap w (n+m) k e)) (w2.alloc (.cells (old++new++Builtin.zeroCells z.cells (grownCap w (n+m) k e-(n+m))) e)):=by
 subst hsz hby
 by_cases h:n+m<=k
 .rw [if_pos h];cases ad<;>simp[Builtin.append_,run_underlying ht,sizeOf,typeInfo,hi,Builtin.lenOf,h]
 .rw [if_neg h];have h63':¬(9223372036854775807<((n:Int)+(m:Int))):=by unfold lim at hle;omega
  have h48':¬(281474976710656<Builtin.nextslicecap (n+m) k*i.bytes):=by
   have h1:=Nat.mul_le_mul hle hb;have:=growslice_fits (need:=n+m) (old:=k) (bytes:=i.bytes) (by omega) (by unfold lim at h1;omega)
   omega
  simp[Builtin.append_,run_underlying ht,sizeOf,typeInfo,zeroValue,hi,hz,Builtin.lenOf,h,h63',h48',Question.forced,newRow,grownCap]
end
end Go.AM
namespace Go.AM
open Go.CK Go.RowKit
section
variable{E:Entry}{G:Gh}{s:St}{a:Act}{w:World}{P:Program}
def Room(E:Entry)(G:Gh)(s:St)(w:World)(ad:Option Addr)(z n k:Nat):Prop:=k=n\/∃B p,ad=some ⟨B,0,none⟩/\CO E G s w B z n k p
theorem An(h:RS E G s a w){t e z:Nat}(he:HS P t e z){l xs:List AV}{v vx:Value}{ad xa:Option Addr}{k B off c Bx offx:Nat}(hv:SV G.M l z v ad k B off)(hx:SV G.M xs z vx xa c Bx offx)
  (hlen:l.length+xs.length<=lim) (hroom:Room E G s w ad z l.length k) (ty:TypeId):
  ∃v' G' w',(Builtin.append_ #[t,t] ty #[v,vx]).run P w=.ok v' w'/\RS E G' s a w'/\∃ad' k' B' off',SV G'.M (l++xs) z v' ad' k' B' off'/\Room E G' s w' ad' z (l++xs).length k':=by
 obtain⟨i,zv,hi,hz,hsz,hzs,hb⟩:=he.ex;obtain⟨us,u1,u2,u3⟩:=hv.row h.ok;obtain⟨xs',x1,x2,x3⟩:=hx.row h.ok;have hun:=nz (P:=P) he.sl hi hz hsz rfl ty ad l.length k xa xs.length c w hlen hb;rw[hv.eq,hx.eq,hun];have hnil:∀(q:List AV),q.length≠0->q≠[]:=λq hq e=>hq (by simp[e])
 by_cases hfit:l.length+xs.length<=k
 .rw [if_pos hfit,bN (P:=P) w x1.1 (λh0=>hx.at_ (hnil _ h0)) x3];simp only[yK];rcases hroom with rfl|⟨B1,p,rfl,hs⟩
  .have hxs:xs=[]:=ZV.1 (by omega)
   subst hxs;have:xs'=[]:=ZV.1 (by rw[x1.1];simp)
   subst this;refine⟨.slice ad l.length l.length,G,w,?_,h,ad,l.length,B,off,?_,.inl (by simp)⟩
   .cases ad<;>simp[storeCells]
   .rw [zy];exact⟨rfl,hv.cap,hv.len,hv.at_,hv.el⟩
  .have hB:l≠[]->B=B1/\off=0:=λh0=>by
    have:=hv.at_ h0;simp only[zO,Addr.mk.injEq,and_true] at this;exact⟨this.1.symm,this.2.symm⟩
   obtain⟨w',r1,r2,r3,r4⟩:=h.fill (P:=P) hs xs' x1.1 hfit x2;have hMle:G.M.le (bl G.M B1 (l.length*z) xs'):=cV hs.row.free;refine⟨_,_,w',?_,r2,some ⟨B1,0,none⟩,k,B1,0,⟨by rw[zC],by simpa using hfit,by simpa using hlen,λ_=>rfl,?_⟩,?_⟩
   .simp only;rw[bO,ZI,r1];rfl
   .refine (u1.append x1).elems hMle λj u hj=>?_
    by_cases hjl:j<us.length
    .rw [zK hjl] at hj;have hl0:l≠[]:=λe=>by subst e;rw[u1.1] at hjl;simp at hjl
     obtain⟨rfl,rfl⟩:=hB hl0;refine hMle _ _ _ ?_;obtain⟨us2,y1,y2⟩:=hv.el.rowOf;have hlen2:us2.length=us.length:=by rw[y1.1,u1.1]
     have hj2:=y2 j (us2[j]'(by omega)) (zA _)
     have h8:=u3 j u hj;have h9:=h.ok _ _ _ hj2;simp only[Hp.of] at h9;rw[h9] at h8;rw[hj2,h8]
    .rw [zZ (by omega)] at hj
     have:j=l.length*z+(j-us.length):=by rw[<-u1.1];omega
     rw[ZI,this];exact fe hj
   .by_cases hlt:l.length+xs.length<k
    .exact .inr ⟨B1,p,rfl,by rw[zC];exact r4 hlt⟩
    .exact .inl (by rw[zC];omega)
 .rw [if_neg hfit];have hg:=grownCap_ge w (l.length+xs.length) k e;rw[bN (P:=P) w.drew u1.1 (λh0=>hv.at_ (hnil _ h0)) (by simpa using u3)]
  simp only[yK];rw[bN (P:=P) w.drew x1.1 (λh0=>hx.at_ (hnil _ h0)) (by simpa using x3)]
  simp only[yK];have hd:RS E G s a w.drew:=h.drew
  have hvs:(us.toArray++xs'.toArray++Builtin.zeroCells zv.cells (grownCap w (l.length+xs.length) k e-(l.length+xs.length))).size=grownCap w (l.length+xs.length) k e*z:=by
   have h1:=u1.1;have h2:=x1.1;simp only[Array.size_append,List.size_toArray,size_zeroCells,hzs,h1,h2,<-ZL];congr 1;omega
  have hr:=hd.newRow (us.toArray++xs'.toArray++Builtin.zeroCells zv.cells (grownCap w (l.length+xs.length) k e-(l.length+xs.length))) e (us++xs') (λj u hj=>by
   have hjl:j<(us++xs').length:=by
    rcases zt j (us++xs').length with h1|h1
    .exact h1
    .rw [zS h1] at hj;cases hj
   show ((us.toArray++xs'.toArray)++Builtin.zeroCells zv.cells _)[j]? =some u;rw[Array.getElem?_append_left (by simpa using hjl)]
   simpa using hj)
  refine⟨_,_,_,rfl,hr,some ⟨w.drew.heap.size,0,none⟩,_,w.drew.heap.size,0,⟨by rw[zC],by simpa using hg,by simpa using hlen,λ_=>rfl,?_⟩,?_⟩
  .exact (u1.append x1).elems (cV λo _=>hd.noM o) λj u hj=>fe hj
  .by_cases hlt:l.length+xs.length<grownCap w (l.length+xs.length) k e
   .refine .inr ⟨w.drew.heap.size,.bx s.bs.length 0,rfl,⟨⟨by rw[zC];exact hlt,⟨_,e,heap_alloc_new _ _,hvs⟩,λo ho=>?_,.inr h.fr.size⟩,λq hq=>?_,λb cs hb e=>?_,by simp,λz l e=>?_,λb j e=>by cases e;simp[ai]⟩⟩
    .simp only[bl]
     rw[if_neg (λe=>by
      have h1:=e.2.2;have h2:=(u1.append x1).1;omega)]
     exact hd.noM o
    .exact absurd (hd.cllt q _ hq).1 (by omega)
    .exact absurd (hd.blt hb) (by have e':G.σ b=w.drew.heap.size:=e;omega)
    .simp [St.at,aa] at e
   .exact .inl (by rw[zC];omega)
theorem nT:∀(e:List (Nat×AV)) (k:Nat) (x y:AV),aS (aS e k x) k y=aS e k y
 |[],k,x,y=>by simp[aS]
 |(t,u)::r,k,x,y=>by
  simp only[aS]
  cases h1:Nat.beq t k with
  |true=>
   have h:Nat.beq k k=true:=by simp
   simp only[aS,h]
  |false=>
   cases h2:Nat.blt k t with
   |true=>
    have h:Nat.beq k k=true:=by simp
    simp only[aS,h]
   |false=>
    simp only[aS,h1,h2];rw[nT r k x y]
theorem St.Cl(s:St)(k:Nat)(x y:AV):(s.put (some k) x).upd (.sl k) y=s.put (some k) y:=by
 simp[St.put,St.upd,nT]
theorem RS.A4(h:RS E G s a w){d:Nat}(hd:d<E.nt){l:List AV}{z:Nat}{v:Value}{ad:Option Addr}{k B off:Nat}(hv:SV G.M l z v ad k B off)(hroom:Room E G s w ad z l.length k):
  ∃G',RS E G' (s.put (some d) (.sl (.own z) l)) (a.put (some d) v) w:=by
 have hz:∀y∈l,y.cells.length=z:=λy hy=>by
  obtain⟨i,hi,rfl⟩:=ZZ.1 hy;exact(hv.el i hi).1
 have hd':d<a.tmps.size:=by rw[h.nt];exact hd
 rcases hroom with hk|⟨B1,p,had,hs⟩
 .have h1:=h.put hd (hv.rv (σ:=G.σ) (n:=s.bs.length) (o:=.full) (by simp) (λ_=>hk))
  have hat:(s.put (some d) (.sl .full l)).at (.sl d)=some (.sl .full l):=by rw[St.dB,if_pos rfl]
  have h2:=h1.bj hat hz;rw[St.Cl] at h2;exact⟨G,h2⟩
 .have h1:=h.put hd (hv.rv (σ:=G.σ) (n:=s.bs.length) (o:=.no) (by simp) (by simp))
  have hat:(s.put (some d) (.sl .no l)).at (.sl d)=some (.sl .no l):=by rw[St.dB,if_pos rfl]
  have h2:=h1.Hh (p:=p) hat (by rw[cE a w d v _ hd',if_pos rfl,hv.eq,had]) ⟨hs.row,hs.only,hs.box,hs.lt,λz' l' e=>by
   rw[St.dB] at e
   by_cases hp:p=.sl d
   .rw [if_pos hp] at e;cases e
   .rw [if_neg hp] at e;exact hs.not _ _ e,hs.nl⟩ hz
  rw[St.Cl] at h2;exact⟨_,h2⟩
end
theorem jL(P:Program)(ρ:Operand->Value)(o:Oper){b:Builtin}{x y:Operand}{ts:Array TypeId}(ho:o.op=.call {callee:=.builtin b,args:=#[x,y],argTypes:=ts})(hb:b=.append\/b=.copy\/b=.delete)(w:World):
  (execOp ρ o).run P w=((match b with|.append=>Builtin.append_ ts o.type #[ρ x,ρ y]|.copy=>Builtin.copy_ ts o.type #[ρ x,ρ y]|_=>Builtin.delete_ ts o.type #[ρ x,ρ y]:Sem Value).run P w).andThen λv w'=>.ok (.value v) w':=by
 unfold execOp;rcases hb with rfl|rfl|rfl<;>simp[ho,resolve,invoke,builtin]
def eT(z:Nat)(s:St)(o:Opd)(x:AV)(K:AV->St->Prop):Prop:=
 match x with
 |.sl _ xs=>match o with
  |.t t=>match s.get t with
   |.sl (.own z') l=>req (Nat.beq z z') (((∀y∈xs,y.cells.length=z)/\l.length+xs.length<=lim)/\K (.sl (.own z) (l++xs)) (s.put (some t) (.sl .no l)))
   |.sl .full l=>((∀y∈l++xs,y.cells.length=z)/\l.length+xs.length<=lim)/\K (.sl (.own z) (l++xs)) s
   |_=>False
  |.c (.sl .full l)=>((∀y∈l++xs,y.cells.length=z)/\l.length+xs.length<=lim)/\K (.sl (.own z) (l++xs)) s
  |_=>False
 |_=>False
theorem tK{P:Program}{s s1:St}{o:Oper}{x y:Operand}{t e z d:Nat}(ho:o.op=.call {callee:=.builtin .append,args:=#[x,y],argTypes:=#[t,t]})(hdst:o.dst=some d)(he:HS P t e z){l xs:List AV}{oy:Cap}
  {ry:Opd} (hy:opd y=some ry) (hxe:s.ev ry=.sl oy xs) (hxz:∀y∈xs,y.cells.length=z) (hlen:l.length+xs.length<=lim) {K:St->Prop} (hK:K (s1.put (some d) (.sl (.own z) (l++xs))))
  (hsrc:∀E G a w,RS E G s a w->∃G1,RS E G1 s1 a w/\G1.M=G.M/\G1.σ=G.σ/\∃ad k B off,SV G.M l z (a.eval x) ad k B off/\Room E G1 s1 w ad z l.length k):OpS P o s K:=by
 intro E G a w rd n next Q hs hdlt hnext
 obtain⟨G1,h1,hM,hσ,ad,k,B,off,hv,hroom⟩:=hsrc E G a w hs;have hyv:=hs.ev hy;rw[hxe] at hyv;obtain⟨xa,c,Bx,offx,hxv⟩:=hyv.sv hxz;rw[<-hM] at hv hxv;obtain⟨v',G',w',hrun,h2,ad',k',B',off',hv',hroom'⟩:=An (P:=P) h1 he hv hxv hlen hroom o.type;obtain⟨G2,h3⟩:=h2.A4 (hdlt d hdst) hv' hroom';refine⟨λ_ _=>trivial,?_⟩;rw[Oper.semAt_eq _ _ _ (λc e=>by rw[ho] at e;cases e),jL P _ o ho (.inl rfl)]
 simp only[hrun,yK];show next (a.put o.dst v') w'
 rw[hdst];exact hnext _ G2 _ w' hK h3 rfl
theorem xi{P:Program}{s:St}{o:Oper}{x y:Operand}{t e z d:Nat}(ho:o.op=.call {callee:=.builtin .append,args:=#[x,y],argTypes:=#[t,t]})(hdst:o.dst=some d)(he:HS P t e z)
  {rx ry:Opd} (hx:opd x=some rx) (hy:opd y=some ry) {K:St->Prop} (h:eT z s rx (s.ev ry) λr s'=>K (s'.put o.dst r)):OpS P o s K:=by
 rw[hdst] at h;unfold eT at h;split at h
 .rename_i oy xs hxe
  have hfull:∀l,s.ev rx=.sl .full l->(∀y∈l++xs,y.cells.length=z)->l.length+xs.length<=lim->K (s.put (some d) (.sl (.own z) (l++xs)))->OpS P o s K:=λl hl hz hlen hK=>by
   refine tK ho hdst he hy hxe (λy hy=>hz y (ZT _ hy)) hlen hK λE G a w hs=>⟨G,hs,rfl,rfl,?_⟩;have hv:=hs.ev hx;rw[hl] at hv;obtain⟨ad,k,B,off,hsv⟩:=hv.sv (λy hy=>hz y (ZB _ hy));refine⟨ad,k,B,off,hsv,.inl ?_⟩;obtain⟨ad2,k2,_,_,_,h1,_,_,_,h2,_⟩:=hv.dN;rw[hsv.eq] at h1;cases h1;exact h2 rfl
  split at h
  .rename_i t0;split at h
   .rename_i z' l hg;obtain⟨h1,⟨h2,h3⟩,h4⟩:=af.1 h;have hzz:=zP h1;subst hzz;refine tK ho hdst he hy hxe h2 h3 h4 λE G a w hs=>?_
    have hat:s.at (.sl t0)=some (.sl (.own z) l):=by
     have:=hg;rw[St.get_at] at this
     cases hq:s.at (.sl t0) with
     |none=>rw[hq] at this;cases this
     |some q=>rw[hq] at this;simp at this;rw[this]
    have hev:a.eval x=ay G.σ a w (.sl t0):=by
     cases x with
     |tmp t=>cases hx;rfl
     |const v=>
      simp only[opd] at hx
      cases hv:cO v with
      |none=>rw[hv] at hx;cases hx
      |some x=>rw[hv] at hx;cases hx
     |func f=>cases hx
     |global g=>cases hx
    have hv:=hs.val _ _ hat;simp only[AV.aF] at hv;obtain⟨ad,k,hval,hz,hcl⟩:=hs.own _ _ _ hat;have h5:RS E G (s.put (some t0) (.sl .no l)) a w:=hs.upd (q:=.sl t0) hat hv;refine⟨G,h5,rfl,rfl,?_⟩;rw[hev];obtain⟨ad2,k2,B,off,hsv⟩:=hv.sv hz;have:=hsv.eq;rw[hval] at this;cases this;refine⟨ad,k,B,off,hsv,?_⟩;rcases hcl with hcl|⟨B1,hc1,hc2,hrow⟩
    .exact .inl hcl
    .refine .inr ⟨B1,.sl t0,hc2,⟨hrow,λq hq=>hs.clinj q _ B1 hq hc1,λb cs hb=>hs.clbox _ B1 hc1 b cs hb,(hs.cllt _ B1 hc1).1,λz' l' e=>?_,λb j e=>by cases e⟩⟩
     rw[St.dB,if_pos rfl] at e;cases e
   .rename_i l hg;exact hfull l (by simp[St.ev,hg,AV.aF]) h.1.1 h.1.2 h.2
   .exact h.elim
  .rename_i l;exact hfull l rfl h.1.1 h.1.2 h.2
  .exact h.elim
 .exact h.elim
end Go.AM
namespace Go.AM
open Go.CK Go.RowKit
section
variable{P:Program}{s:St}{o:Oper}{K:St->Prop}
def qQ(s:St)(d:Option Nat)(o:Opd)(K:St->Prop):Prop:=
 match o with
 |.c x=>K (s.put d x)
 |.t t=>match s.get t with
  |.sl (.own z) l=>match d with
   |some d=>req (!(Nat.beq d t)) (K (((s.put (some d) (.sl .no l)).put (some t) (.sl .no l)).put (some d) (.sl (.own z) l)))
   |none=>False
  |x=>K (s.put d x)
theorem wU{t z:Nat}{l:List AV}(hg:s.get t=.sl (.own z) l):s.at (.sl t)=some (.sl (.own z) l):=by
 rw[St.get_at] at hg
 cases hq:s.at (.sl t) with
 |none=>rw[hq] at hg;cases hg
 |some q=>rw[hq] at hg;simp at hg;rw[hg]
theorem u0{x:Operand}(ho:o.op=.move x\/o.op=.assign x){rx:Opd}(hx:opd x=some rx)(h:qQ s o.dst rx K):OpS P o s K:=by
 have hd:∀c,o.op≠.defer c:=λc e=>by rcases ho with ho|ho<;>(rw[ho] at e;cases e)
 have hrun:∀a w,(execOp (Act.eval a) o).run P w=.ok (.value (a.eval x)) w:=λa w=>by
  unfold execOp;rcases ho with ho|ho<;>simp[ho]
 have fin:∀y,s.ev rx=y->K (s.put o.dst y)->OpS P o s K:=λy hy hK=>OpS.pure y hd hK λE G a w hs=>⟨_,hrun a w,by rw[<-hy];exact hs.ev hx⟩
 unfold qQ at h;split at h
 .exact fin _ rfl h
 .rename_i t;split at h
  .rename_i z l hg;split at h
   .rename_i d hdst;obtain⟨hne,hK⟩:=af.1 h;have hne:d≠t:=λe=>by subst e;simp at hne
    intro E G a w rd n next Q hs hdlt hnext
    have hat:=wU hg
    have hev:a.eval x=ay G.σ a w (.sl t):=by
     cases x with
     |tmp t=>cases hx;rfl
     |const v=>
      simp only[opd] at hx
      cases hv:cO v<;>(rw[hv] at hx;cases hx)
     |func f=>cases hx
     |global g=>cases hx
    have hv:=hs.val _ _ hat;simp only[AV.aF] at hv;have hdd:=hdlt d hdst;have hd':d<a.tmps.size:=by rw[hs.nt];exact hdd
    have h1:=hs.put (k:=d) hdd hv;have hp:(s.put (some d) (.sl .no l)).at (.sl t)=some (.sl (.own z) l):=by rw[St.dB,if_neg (by simpa using Ne.symm hne)];exact hat
    have hq:(s.put (some d) (.sl .no l)).at (.sl d)=some (.sl .no l):=by rw[St.dB,if_pos rfl]
    have h2:=h1.move (p:=.sl t) (q:=.sl d) (by simpa using Ne.symm hne) hp hq (by rw[cE a w d _ _ hd',cE a w d _ _ hd',if_pos rfl,if_neg (by simpa using Ne.symm hne)])
    refine⟨λ_ _=>trivial,?_⟩;rw[Oper.semAt_eq _ _ _ hd,hrun];show next (a.put o.dst (a.eval x)) w
    rw[hdst,hev];exact hnext _ _ _ w hK h2 rfl
   .exact h.elim
  .rename_i hnot;refine fin _ ?_ h;show (s.get t).aF=_;generalize s.get t=g at*
   cases g with
   |sl c l=>cases c with
    |own z=>exact absurd rfl (hnot z l)
    |_=>rfl
   |_=>rfl
def uU(c x y:AV)(K:AV->Prop):Prop:=
 match c with
 |.bool b=>(b=true->K x)/\(b=false->K y)
 |_=>False
theorem A6{c x y:Operand}(ho:o.op=.pick c x y){rc rx ry:Opd}(hc:opd c=some rc)(hx:opd x=some rx)(hy:opd y=some ry)(h:uU (s.ev rc) (s.ev rx) (s.ev ry) λr=>K (s.put o.dst r)):OpS P o s K:=by
 have hd:∀c,o.op≠.defer c:=λc e=>by rw[ho] at e;cases e
 unfold uU at h;split at h
 .rename_i b hb
  have hbv:∀E G a w,RS E G s a w->a.eval c=.bool b:=λE G a w hs=>by
   have:=hs.ev hc;rw[hb] at this;exact this.cB
  cases b with
  |true=>exact OpS.pure _ hd (h.1 rfl) λE G a w hs=>⟨a.eval x,by unfold execOp;simp[ho,hbv E G a w hs,asBool],hs.ev hx⟩
  |false=>exact OpS.pure _ hd (h.2 rfl) λE G a w hs=>⟨a.eval y,by unfold execOp;simp[ho,hbv E G a w hs,asBool],hs.ev hy⟩
 .exact h.elim
def sH(x:AV)(K:AV->Prop):Prop:=
 match x with
 |.ptr b off=>K (.ptr b off)
 |.ept cs=>K (.ept cs)
 |.fn (.func f) xs ys=>K (.fn (.func f) xs ys)
 |.elp b i z off=>K (.elp b i z off)
 |_=>False
theorem x7{x:Operand}(ho:o.op=.nilCheck x){rx:Opd}(hx:opd x=some rx)(h:sH (s.ev rx) λr=>K (s.put o.dst r)):OpS P o s K:=by
 have hd:∀c,o.op≠.defer c:=λc e=>by rw[ho] at e;cases e
 unfold sH at h;split at h
 .rename_i b off he;refine OpS.pure _ hd h λE G a w hs=>⟨a.eval x,?_,by rw[<-he];exact hs.ev hx⟩
  have:=hs.ev hx;rw[he] at this;unfold execOp;simp[ho,this.iQ.1]
 .rename_i cs he;refine OpS.pure _ hd h λE G a w hs=>⟨a.eval x,?_,by rw[<-he];exact hs.ev hx⟩
  have:=hs.ev hx;rw[he] at this;obtain⟨B,off,h1,_⟩:=this.oL;unfold execOp;simp[ho,h1]
 .rename_i f xs ys he;refine OpS.pure _ hd h λE G a w hs=>⟨a.eval x,?_,by rw[<-he];exact hs.ev hx⟩
  have:=hs.ev hx;rw[he] at this;obtain⟨us,vs,h1,_⟩:=this.pI;unfold execOp;simp[ho,h1]
 .rename_i b i z off he;refine OpS.pure _ hd h λE G a w hs=>⟨a.eval x,?_,by rw[<-he];exact hs.ev hx⟩
  have:=hs.ev hx;rw[he] at this;unfold execOp;simp[ho,this.oM.1]
 .exact h.elim
def qX(off:Nat):AV->AV
 |.ptr b f=>.ptr b (f+off)
 |.ept cs=>.ept (cs.drop off)
 |.elp b i z f=>.elp b i z (f+off)
 |x=>x
def yn:AV->Bool
 |.ptr .. |.ept _|.elp .. =>true
 |_=>false
theorem sL{M:Hp}{σ:Nat->Nat}{n off:Nat}{x:AV}{v:Value}(hx:RV M σ n x v)(h:yn x=true):∃B f,v=.pointer (some ⟨B,f,none⟩)/\RV M σ n (qX off x) (.pointer (some ⟨B,f+off,none⟩)):=by
 cases x<;>first|(simp[yn] at h;done)|skip
 case ptr b f=>
  obtain⟨rfl,hb⟩:=hx.iQ;exact⟨_,_,rfl,.ptr _ _ hb⟩
 case ept cs=>
  obtain⟨B,f,rfl,hc⟩:=hx.oL;exact⟨_,_,rfl,.ept _ _ _ (hc.drop off)⟩
 case elp b i z f=>
  obtain⟨rfl,hb⟩:=hx.oM;exact⟨_,_,rfl,by rw[Zh];exact .elp _ _ _ _ hb⟩
def GN(off:Nat)(x:AV)(K:AV->Prop):Prop:=req (yn x) (K (qX off x))
theorem BD{x:Operand}{t f:Nat}(ho:o.op=.fieldAddr t x f){rx:Opd}(hx:opd x=some rx){fs:Array Field}{fd:Field}{k:Nat}(ht:P.underlying t=some (.struct fs))(hf:fs[f]? =some fd)(hk:dc P fd.type=some k)(hk0:k≠0)
  (h:GN fd.offset (s.ev rx) λr=>K (s.put o.dst r)):OpS P o s K:=by
 have hd:∀c,o.op≠.defer c:=λc e=>by rw[ho] at e;cases e
 obtain⟨h1,h2⟩:=af.1 h;refine OpS.pure _ hd h2 λE G a w hs=>?_;obtain⟨B,f',hv,hr⟩:=sL (off:=fd.offset) (hs.ev hx) h1;refine⟨_,?_,hr⟩;unfold execOp;simp[ho,Instr.fieldAt,run_underlying ht,hf,hv,Instr.sureAddr,fieldPlace,aN hk,hk0,bO]
def Dh(sz:Nat)(x i:AV)(K:AV->Prop):Prop:=
 match x,i with
 |.sl _ l,.int _ n=>∃y,(0<=n/\l[n.toNat]? =some y/\y.cells.length=sz)/\K (.ept y.cells)
 |.bsl b m _,.int _ n=>(0<=n/\n<m)/\K (.elp b n.toNat sz 0)
 |_,_=>False
theorem Dg{x i:Operand}{t e:Nat}(ho:o.op=.indexAddr t x i){rx ri:Opd}(hx:opd x=some rx)(hi:opd i=some ri){sz:Nat}(ht:P.underlying t=some (.slice e))(hsz:dc P e=some sz)
  (h:Dh sz (s.ev rx) (s.ev ri) λr=>K (s.put o.dst r)):OpS P o s K:=by
 have hd:∀c,o.op≠.defer c:=λc e=>by rw[ho] at e;cases e
 unfold Dh at h;split at h
 .rename_i oc l k n hxe hie;obtain⟨y,⟨h0,hy,hz⟩,hK⟩:=h;refine OpS.pure _ hd hK λE G a w hs=>?_;have hxv:=hs.ev hx;rw[hxe] at hxv;have hiv:=hs.ev hi;rw[hie] at hiv;have hiv:=hiv.aH;obtain⟨ad,cap,B,off,sz',h1,_,h3,h4,_,h6,h7⟩:=hxv.dN
  have hlt:n.toNat<l.length:=by
   rcases zt n.toNat l.length with h8|h8
   .exact h8
   .rw [zS h8] at hy;cases hy
  rw[zA hlt] at hy;simp only[zO] at hy;obtain⟨a1,a2⟩:=h7 _ hlt;rw[hy] at a1 a2;have had:=h6 (λe=>by subst e;simp at hlt)
  have hn:0<=n/\n<(l.length:Int):=by omega
  refine⟨.pointer (some ⟨B,off+n.toNat*sz,none⟩),?_,?_⟩
  .unfold execOp;simp[ho,Instr.indexAt,hiv,asIntOf,run_underlying ht,h1,had,hn,aN hsz,bO]
  .rw [<-a1,hz] at a2;exact .ept _ _ _ a2
 .rename_i b m cp k n hxe hie;obtain⟨hn,hK⟩:=h;refine OpS.pure _ hd hK λE G a w hs=>?_;have hxv:=hs.ev hx;rw[hxe] at hxv;have hiv:=hs.ev hi;rw[hie] at hiv;have hiv:=hiv.aH;obtain⟨ad,h1,hb,_,_,had⟩:=hxv.c6;have had:=had (by omega)
  refine⟨.pointer (some ⟨G.σ b,n.toNat*sz+0,none⟩),?_,.elp _ _ _ _ hb⟩;unfold execOp;simp[ho,Instr.indexAt,hiv,asIntOf,run_underlying ht,h1,had,hn,aN hsz,bO]
 .exact h.elim
def vj(x i:AV)(K:AV->Prop):Prop:=
 match x,i with
 |.str b,.int _ n=>∃y,(0<=n/\b[n.toNat]? =some y)/\K (.int .u8 y.toNat)
 |_,_=>False
theorem Bv{x i:Operand}{t:Nat}(ho:o.op=.index t x i){rx ri:Opd}(hx:opd x=some rx)(hi:opd i=some ri)(ht:P.underlying t=some .string)
  (h:vj (s.ev rx) (s.ev ri) λr=>K (s.put o.dst r)):OpS P o s K:=by
 have hd:∀c,o.op≠.defer c:=λc e=>by rw[ho] at e;cases e
 unfold vj at h;split at h
 .rename_i b k n hxe hie;obtain⟨y,⟨h0,hy⟩,hK⟩:=h;refine OpS.pure _ hd hK λE G a w hs=>⟨_,?_,.flat (.int _ _)⟩;have hxv:=hs.ev hx;rw[hxe] at hxv;have hiv:=hs.ev hi;rw[hie] at hiv;unfold execOp;simp[ho,Instr.index,hiv.aH,asIntOf,run_underlying ht,hxv.cP.1,h0,hy]
 .exact h.elim
def E7(agg:Bool)(off n:Nat)(x:AV)(K:AV->Prop):Prop:=
 match x with
 |.agg cs=>match agg with
  |true=>req (Nat.ble (off+n) cs.length) (K (.agg ((cs.drop off).take n)))
  |false=>match cs.drop off with
   |c::_=>K c
   |[]=>False
 |_=>False
theorem Dj{x:Operand}{t f:Nat}(ho:o.op=.field t x f){rx:Opd}(hx:opd x=some rx){fs:Array Field}{fd:Field}(ht:P.underlying t=some (.struct fs))(hf:fs[f]? =some fd){agg:Bool}{n:Nat}(ha:mI P fd.type=some agg)(hn:agg=true->dc P fd.type=some n)
  (h:E7 agg fd.offset n (s.ev rx) λr=>K (s.put o.dst r)):OpS P o s K:=by
 have hd:∀c,o.op≠.defer c:=λc e=>by rw[ho] at e;cases e
 unfold E7 at h;split at h
 .rename_i cs hxe;split at h
  .obtain ⟨h1,h2⟩:=af.1 h;have hle:=zr h1;refine OpS.pure _ hd h2 λE G a w hs=>?_;have hxv:=hs.ev hx;rw[hxe] at hxv;obtain⟨vs,hv,hl,hone,hr⟩:=hxv.dw;refine⟨.agg ((vs.drop fd.offset).take n).toArray,?_,.agg _ _ ?_ (λv hv=>hone v (List.mem_of_mem_drop (List.mem_of_mem_take hv))) (λj hj v hjv=>?_)⟩
   .unfold execOp;simp[ho,Instr.field,run_underlying ht,hf,hv,asAgg,part,c9 ha,aN (hn rfl),List.extract_eq_take_drop]
   .simp [hl]
   .simp only[zn,Zc] at hj;rw[Zl,Zv];rw[Za,if_pos (by omega),List.getElem?_drop] at hjv
    exact hr _ (by omega) v hjv
  .split at h
   .rename_i c rest hc;refine OpS.pure _ hd h λE G a w hs=>?_;have hxv:=hs.ev hx;rw[hxe] at hxv;obtain⟨vs,hv,hl,hone,hr⟩:=hxv.dw
    have hlt:fd.offset<cs.length:=by
     rcases zt fd.offset cs.length with h1|h1
     .exact h1
     .rw [List.drop_eq_nil_of_le h1] at hc;cases hc
    have hcc:cs[fd.offset]=c:=by
     rw[zH hlt] at hc;cases hc;rfl
    have hv2:vs[fd.offset]? =some (vs[fd.offset]'(by omega)):=zA _
    refine⟨_,?_,by rw[<-hcc];exact hr _ hlt _ hv2⟩
    unfold execOp;simp[ho,Instr.field,run_underlying ht,hf,hv,asAgg,part,c9 ha,hv2]
   .exact h.elim
 .exact h.elim
def Fa(i:Nat)(x:AV)(K:AV->Prop):Prop:=
 match x with
 |.tup vs=>match vs[i]? with
  |some y=>K y
  |none=>False
 |_=>False
theorem Dl{x:Operand}{i:Nat}(ho:o.op=.extract x i){rx:Opd}(hx:opd x=some rx)(h:Fa i (s.ev rx) λr=>K (s.put o.dst r)):OpS P o s K:=by
 have hd:∀c,o.op≠.defer c:=λc e=>by rw[ho] at e;cases e
 unfold Fa at h;split at h
 .rename_i xs hxe;split at h
  .rename_i y hy;refine OpS.pure _ hd h λE G a w hs=>?_;have hxv:=hs.ev hx;rw[hxe] at hxv;obtain⟨vs,hv,hl,hr⟩:=hxv.qZ
   have hlt:i<xs.length:=by
    rcases zt i xs.length with h1|h1
    .exact h1
    .rw [zS h1] at hy;cases hy
   rw[zA hlt] at hy;cases hy;have hv2:vs[i]? =some (vs[i]'(by omega)):=zA _
   refine⟨_,?_,hr i hlt _ hv2⟩;unfold execOp;simp[ho,Instr.extract,hv,hv2]
  .exact h.elim
 .exact h.elim
def Dd(str:Bool)(x:AV)(K:AV->Prop):Prop:=
 match str,x with
 |false,.sl _ l=>K (.int .i64 l.length)
 |true,.str b=>K (.int .i64 b.size)
 |false,.bsl _ m _=>K (.int .i64 m)
 |_,_=>False
theorem jM(P:Program)(ρ:Operand->Value)(o:Oper){x:Operand}{ts:Array TypeId}(ho:o.op=.call {callee:=.builtin .len,args:=#[x],argTypes:=ts})(w:World):
  (execOp ρ o).run P w=((Builtin.len_ ts o.type #[ρ x]).run P w).andThen λv w'=>.ok (.value v) w':=by
 unfold execOp;simp[ho,resolve,invoke,builtin]
theorem vc{x:Operand}{t:Nat}(ho:o.op=.call {callee:=.builtin .len,args:=#[x],argTypes:=#[t]}){rx:Opd}(hx:opd x=some rx){str:Bool}(ht:(str=true/\P.underlying t=some .string)\/(str=false/\∃e,P.underlying t=some (.slice e)))
  (h:Dd str (s.ev rx) λr=>K (s.put o.dst r)):OpS P o s K:=by
 have hd:∀c,o.op≠.defer c:=λc e=>by rw[ho] at e;cases e
 unfold Dd at h;split at h
 .rename_i oc l hxe;obtain⟨e,he⟩:∃e,P.underlying t=some (.slice e):=by rcases ht with ⟨h1,_⟩|⟨_,h1⟩;cases h1;exact h1
  refine OpS.pure _ hd h λE G a w hs=>⟨_,?_,.flat (.int _ _)⟩;have hxv:=hs.ev hx;rw[hxe] at hxv;obtain⟨ad,cap,B,off,sz',h1,_⟩:=hxv.dN;rw[jM P _ o ho];simp[Builtin.len_,run_underlying he,h1,goInt]
 .rename_i b hxe;have h0:P.underlying t=some .string:=by rcases ht with ⟨_,h1⟩|⟨h1,_⟩;exact h1;cases h1
  refine OpS.pure _ hd h λE G a w hs=>⟨_,?_,.flat (.int _ _)⟩;have hxv:=hs.ev hx;rw[hxe] at hxv;rw[jM P _ o ho];simp[Builtin.len_,run_underlying h0,hxv.cP.1,goInt]
 .rename_i b m cp hxe;obtain⟨e,he⟩:∃e,P.underlying t=some (.slice e):=by rcases ht with ⟨h1,_⟩|⟨_,h1⟩;cases h1;exact h1
  refine OpS.pure _ hd h λE G a w hs=>⟨_,?_,.flat (.int _ _)⟩;have hxv:=hs.ev hx;rw[hxe] at hxv;obtain⟨ad,h1,_⟩:=hxv.c6;rw[jM P _ o ho];simp[Builtin.len_,run_underlying he,h1,goInt]
 .exact h.elim
def unK(op:UnOp)(x:AV)(K:AV->Prop):Prop:=
 match op,x with
 |.neg,.int k n=>K (.int k (k.wrap (0-n)))
 |.not,.bool b=>K (.bool (!b))
 |_,_=>False
theorem DV{x:Operand}{op:UnOp}{t:Nat}(ho:o.op=.unOp op t x){rx:Opd}(hx:opd x=some rx)(h:unK op (s.ev rx) λr=>K (s.put o.dst r)):OpS P o s K:=by
 have hd:∀c,o.op≠.defer c:=λc e=>by rw[ho] at e;cases e
 unfold unK at h;split at h
 .rename_i k n hxe;refine OpS.pure _ hd h λE G a w hs=>⟨_,?_,.flat (.int _ _)⟩;have hxv:=hs.ev hx;rw[hxe] at hxv;unfold execOp;simp[ho,Op.unary,Op.intArith,hxv.aH]
 .rename_i b hxe;refine OpS.pure _ hd h λE G a w hs=>⟨_,?_,.flat (.bool _)⟩;have hxv:=hs.ev hx;rw[hxe] at hxv;unfold execOp;simp[ho,Op.unary,hxv.cB]
 .exact h.elim
def vz(k:Option IntKind)(x:AV)(K:AV->Prop):Prop:=
 match k,x with
 |some k,.int _ n=>K (.int k (k.wrap n))
 |none,.str b=>K (.str b)
 |_,_=>False
theorem tr{x:Operand}{t u:Nat}(ho:o.op=.convert t u x){rx:Opd}(hx:opd x=some rx){k:Option IntKind}{dt:TypeDesc}(ht:P.underlying t=some dt)(hu:P.underlying u=some (match k with|some k=>.int k|none=>.string))
  (h:vz k (s.ev rx) λr=>K (s.put o.dst r)):OpS P o s K:=by
 have hd:∀c,o.op≠.defer c:=λc e=>by rw[ho] at e;cases e
 unfold vz at h;split at h
 .rename_i k k' n hxe;refine OpS.pure _ hd h λE G a w hs=>⟨_,?_,.flat (.int _ _)⟩;have hxv:=hs.ev hx;rw[hxe] at hxv;unfold execOp;simp[ho,convert,run_underlying ht,run_underlying hu,hxv.aH,Conv.intToInt]
 .rename_i b hxe;refine OpS.pure _ hd h λE G a w hs=>⟨_,?_,by have:=hs.ev hx;rw[hxe] at this;exact this⟩
  have hxv:=hs.ev hx;rw[hxe] at hxv;unfold execOp;simp[ho,convert,run_underlying ht,run_underlying hu,hxv.cP.1]
 .exact h.elim
end
end Go.AM
