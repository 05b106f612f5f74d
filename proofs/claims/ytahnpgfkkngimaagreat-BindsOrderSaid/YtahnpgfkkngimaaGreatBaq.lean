/-
  Texts of this aQ joined (wip/gen/bundle.py),those declarations only that are needed:AmRw Av AmVw. By an AI agent.
-/
import Derived.Test.YtahnpgfkkngimaaGreatBap
import Derived.Test.YtahnpgfkkngimaaGreatBaa
set_option linter.unusedSimpArgs false
set_option linter.unusedVariables false
namespace Go.AM
open Go.CK Go.RowKit
def aL {α:Type} (f:α->AV) (z k:Nat) (l:List α):Box:=.row (cellsOf (l.map f)++List.replicate ((k-l.length)*z) .top)
structure Plain {α:Type} (f:α->AV) (z:Nat):Prop where
 pos:0<z
 sz:∀x,(f x).cells.length=z
 de:∀x,∀c∈(f x).cells,c.aF=c
 flat:∀x,∀c∈(f x).cells,c.aU=true
theorem se:∀{l:List AV} {c:AV},c∈cellsOf l->∃x∈l,c∈x.cells
 |[],_,h=>by cases h
 |x::l,c,h=>by
  rcases List.mem_append.1 h with h|h
  ·exact ⟨x,by simp,h⟩
  ·obtain ⟨y,h1,h2⟩:=se h;exact ⟨y,by simp [h1],h2⟩
section
variable {α:Type} {f:α->AV} {z:Nat}
theorem Plain.len (h:Plain f z) (l:List α):(cellsOf (l.map f)).length=l.length*z:=by
 rw [bA (z:=z) fun y hy=>by obtain ⟨x,_,rfl⟩:=List.mem_map.1 hy;exact h.sz x,List.length_map]
theorem Plain.mem (h:Plain f z) {l:List α} {c:AV} (hc:c∈cellsOf (l.map f)):c.aF=c∧c.aU=true:=by
 obtain ⟨y,h1,h2⟩:=se hc;obtain ⟨x,_,rfl⟩:=List.mem_map.1 h1;exact ⟨h.de x c h2,h.flat x c h2⟩
theorem Plain.take (h:Plain f z) (l:List α) (p:List AV):(cellsOf (l.map f)++p).take (l.length*z)=cellsOf (l.map f):=by
 rw [←h.len l];simp
theorem eT {bs:List Box} {b:Nat} {cs:List AV} (h:bs[b]?=some (.row cs)):rowAt bs b=some cs:=by
 unfold rowAt;rw [h]
theorem F6 {bs:List Box} {b m k:Nat} {cs:List AV} {K:Nat->Nat->List AV->Option Nat->Prop} (h:bs[b]?=some (.row cs)) (k':K m k cs (some b)):qx bs (.bsl b m k) K:=by
 simp only [qx,eT h];exact k'
theorem lh.row (hp:Plain f z) {e:List (Nat×AV)} {bs:List Box} {lo:Nat} {b m k:Nat} {l l':List α} {o:Cap} {K:AV->St->Prop} (hb:bs[b]?=some (aL f z k l)) (hm:m=l.length) (hk:m≤k) (hlim:m+l'.length≤4294967296)
  (h:∀k',(l++l').length≤k'->K (.bsl bs.length (l++l').length k') ⟨e,bs.set b .dead++[aL f z k' (l++l')],lo⟩):lh z ⟨e,bs,lo⟩ (.bsl b m k) (.sl o (l'.map f)) K:=by
 subst hm;refine ⟨F6 hb ?_⟩;refine ⟨fun y hy=>by obtain ⟨x,_,rfl⟩:=List.mem_map.1 hy;exact hp.sz x,?_⟩
 rw [List.length_map];refine ⟨⟨hp.pos,?_,hlim,fun x hx=>?_⟩,fun k' hk'=>?_⟩
 ·rw [List.length_append,hp.len,List.length_replicate,←Nat.add_mul];exact Nat.mul_le_mul_right _ (by omega)
 ·rw [hp.take] at hx;exact (hp.mem hx).1
 ·rw [hp.take,←List.append_assoc,←nF,←List.map_append];have:=h k' (by simpa using hk')
  simp only [List.length_append] at this;unfold aL at this;simp only [List.length_append] at this;exact this
theorem lh.one (hp:Plain f z) {e:List (Nat×AV)} {bs:List Box} {lo:Nat} {b m k:Nat} {l:List α} {x:α} {o:Cap} {K:AV->St->Prop} (hb:bs[b]?=some (aL f z k l)) (hm:m=l.length) (hk:m≤k) (hlim:m+1≤4294967296)
  (h:∀k',(l++[x]).length≤k'->K (.bsl bs.length (l++[x]).length k') ⟨e,bs.set b .dead++[aL f z k' (l++[x])],lo⟩):lh z ⟨e,bs,lo⟩ (.bsl b m k) (.sl o [f x]) K:=
 lh.row (l':=[x]) hp hb hm hk hlim h
theorem MkN.row (hp:Plain f z) (x:α) {e:List (Nat×AV)} {bs:List Box} {lo:Nat} {ik jk:IntKind} {n m:Int} {K:AV->St->Prop} (hn:0≤n∧n≤m∧m≤4294967296) (h:K (.bsl bs.length n.toNat m.toNat) ⟨e,bs++[aL f z m.toNat (List.replicate n.toNat x)],lo⟩):MkN z (f x) ⟨e,bs,lo⟩ (.int ik n) (.int jk m) K:=by
 refine ⟨⟨⟨hp.pos,hn⟩,?_⟩⟩;simpa only [aL,List.map_replicate,List.length_replicate] using h
theorem RS.Gn {E:Entry} {G:Gh} {s:St} {a:Act} {w:World} (h:RS E G s a w):RS E G ⟨s.env,s.bs++[.row []],s.lo⟩ a w:=by
 have:=h.reb (bs':=s.bs++[.row []]) (σ':=G.σ) id (by simp) (fun _ _=>rfl) (fun b x hb=>iz rfl hb) (fun b cs' hc=>by
  rw [aS] at hc;split at hc
  ·cases hc
  ·exact ⟨cs',hc,rfl,Nat.le_refl _,fun j x hx=>.inr ⟨hx,.inl rfl⟩⟩) (fun b b' _ _ _ _ e=>e)
 exact this
theorem aB.wO (s:St) (t:Nat) (h0:ak s.env t=some (.sl .full [])):aB s ⟨aN s.env t (.bsl s.bs.length 0 0),s.bs++[.row []],s.lo⟩:=fun E G a w hs=>by
 have h1:=hs.Gn;have hat:(⟨s.env,s.bs++[.row []],s.lo⟩:St).at (.sl t)=some (.sl .full []):=h0;have hv:=h1.val _ _ hat;simp only [AV.aF] at hv;refine ⟨G,h1.upd (q:=.sl t) hat ?_⟩;obtain ⟨ad,kk,B,off,sz',e1,_,_,_,e2,_⟩:=hv.ez;have:=e2 rfl;subst this;rw [e1];exact .bsl _ _ _ _ (by simp) (Nat.le_refl _) (Nat.zero_le _) (fun h=>absurd rfl h)
theorem af.wO {s:St} {rs:List cm} {Q:AV->List Box->Prop} (k:Nat) (h0:ak s.env k=some (.sl .full [])) (h:af ⟨aN s.env k (.bsl s.bs.length 0 0),s.bs++[.row []],s.lo⟩ rs Q):af s rs Q:=by
 obtain ⟨s',h3,h4⟩:=h.out;exact ⟨s',(aB.wO s k h0).trans h3,h4⟩
theorem ah.wO {s t:St} (k:Nat) (h0:ak s.env k=some (.sl .full [])) (h:ah ⟨aN s.env k (.bsl s.bs.length 0 0),s.bs++[.row []],s.lo⟩ t):ah s t:=⟨(aB.wO s k h0).trans h.out⟩
theorem fO.yR {M:Hp} {B:Nat} {L:List AV} {p:List AV} (hz:∀y∈L,y.cells.length=z) (h:Cells M B 0 (cellsOf L++p)):fO M B 0 z L:=fun i hi=>by
 have hl:=bA hz;have hc:=hz _ (List.getElem_mem hi);refine ⟨hc,fun j hj=>?_⟩
 have hij:i*z+j<(cellsOf L).length:=by
  rw [hl];have:=Nat.mul_le_mul_right z hi;rw [Nat.succ_mul] at this;omega
 obtain ⟨v,h1,h2,h3⟩:=h (i*z+j) (by rw [List.length_append];omega)
 refine ⟨v,?_,h2,?_⟩
 ·rw [Nat.zero_add] at h1⊢;exact h1
 ·rw [List.getElem_append_left hij] at h3;have hg:=jb hz i hi j (by omega)
  rw [List.getElem?_eq_getElem hij,List.getElem?_eq_getElem hj] at hg;rw [←Option.some.inj hg];exact h3
theorem aB.froze (hp:Plain f z) (s:St) (t:Nat) {b m k:Nat} {l:List α} (h0:ak s.env t=some (.bsl b m k)) (hb:s.bs[b]?=some (aL f z k l)) (hm:m=l.length):aB s ⟨aN s.env t (.sl .no (l.map f)),s.bs.set b .dead,s.lo⟩:=fun E G a w hs=>by
 subst hm;have hz:∀y∈l.map f,y.cells.length=z:=fun y hy=>by obtain ⟨x,_,rfl⟩:=List.mem_map.1 hy;exact hp.sz x
 have hat:s.at (.sl t)=some (.bsl b l.length k):=h0;have hv0:=hs.val _ _ hat;obtain ⟨ad,hv,hbl,hmk,hml,had⟩:=hv0.dH
 by_cases hk:k=0
 ·subst hk;have hl:l=[]:=List.eq_nil_of_length_eq_zero (by omega)
  subst hl
  have h1:=hs.reb (bs':=s.bs.set b .dead) (σ':=G.σ) id (by simp) (fun _ _=>rfl) (fun c x hc=>lZ hc) (fun c cs' hc=>by
   rw [bL] at hc;split at hc
   ·cases hc
   ·exact ⟨cs',hc,rfl,Nat.le_refl _,fun j x hx=>.inr ⟨hx,.inl rfl⟩⟩) (fun b b' _ _ _ _ e=>e)
  refine ⟨_,h1.upd (q:=.sl t) (x:=.sl .no ([].map f)) hat ?_⟩;show RV G.M G.σ _ _ (al G.σ a w (.sl t));rw [hv];exact .flat (FV.iT (l:=[]) (B:=0) (off:=0) (sz:=z) (by simp) (Nat.le_refl _) (Nat.zero_le _) (by simp) (fun h=>absurd rfl h) (fun i hi=>by cases hi))
 ·have hne:cellsOf (l.map f)++List.replicate ((k-l.length)*z) .top≠[]:=fun e=>by
   have:=congrArg List.length e;rw [List.length_append,hp.len,List.length_replicate,←Nat.add_mul,List.length_nil] at this;have h2:0<(l.length+(k-l.length))*z:=Nat.mul_pos (by omega) hp.pos
   omega
  have hbc:aa s.bs b=some (cellsOf (l.map f)++List.replicate ((k-l.length)*z) .top):=cr (eT hb) hne
  obtain ⟨G',h1,h2,h3⟩:=hs.dead hbc (fun x hx=>by
   rcases List.mem_append.1 hx with hx|hx
   ·exact (hp.mem hx).2
   ·rw [(List.mem_replicate.1 hx).2];rfl)
  refine ⟨G',h1.upd (q:=.sl t) (x:=.sl .no (l.map f)) (y:=.bsl b l.length k) h0 ?_⟩;show RV G'.M G'.σ _ _ (al G'.σ a w (.sl t));have hva:al G'.σ a w (.sl t)=.slice ad l.length k:=hv;rw [hva,had hk];have:=FV.iT (M:=G'.M) (o:=.no) (l:=l.map f) (a:=some ⟨G.σ b,0,none⟩) (k:=k) (B:=G.σ b) (off:=0) (sz:=z) (by simp) (by simpa using hmk) (by first|(simpa using hml)|(have:=glim_le hml;simpa using this)) (by simp) (fun _=>rfl) (fO.yR hz h3)
  rw [List.length_map] at this;exact .flat this
theorem af.froze (hp:Plain f z) {s:St} {t:Nat} {b m k:Nat} {l:List α} {Q:AV->List Box->Prop} (h0:ak s.env t=some (.bsl b m k)) (hb:s.bs[b]?=some (aL f z k l)) (hm:m=l.length) (h:af ⟨aN s.env t (.sl .no (l.map f)),s.bs.set b .dead,s.lo⟩ [.slot t] Q):af s [.slot t] Q:=by
 obtain ⟨s',h3,h4⟩:=h.out;exact ⟨s',(aB.froze hp s t h0 hb hm).trans h3,h4⟩
end
section
variable {E:Entry} {G:Gh} {s:St} {a:Act} {w:World}
theorem sW {bs:List Box} {b:Nat} {cs:List AV} (hb:b<bs.length) (h0:cs≠[]) (c:Nat):aa (bs.set b (.row cs)) c=if c=b then some cs else aa bs c:=by
 simp only [aa,List.getElem?_set]
 by_cases e:b=c
 ·subst e;simp only [if_true,hb,lx,if_neg h0]
 ·rw [if_neg e,if_neg (fun x=>e x.symm)]
theorem RS.Is (h:RS E G s a w) {b:Nat} {cs cs':List AV} (hb:aa s.bs b=some cs) {w':World} {vs':Array Value} {T:TypeId} (hc':w'.heap[G.σ b]?=some (.cells vs' T (0,0))) (hsz:cs'.length≤vs'.size) (hne:cs'≠[])
  (hos:w'.os=w.os) (htp:w'.tape=w.tape) (hout:w'.output=w.output) (hsize:w.heap.size≤w'.heap.size) (hother:∀B,B<w.heap.size->B≠G.σ b->w'.heap[B]?=w.heap[B]?)
  (hv:∀(j:Nat) (hj:j<cs'.length) v,vs'[j]?=some v->v.oneCell'=true∧RV G.M G.σ s.bs.length cs'[j] v):RS E G ⟨s.env,s.bs.set b (.row cs'),s.lo⟩ a w':=by
 have hblt:=h.blt hb;have hbl:=aA hb;obtain ⟨vs,T0,hc,hvl⟩:=h.box b cs hb;obtain ⟨hM,hmine⟩:=h.bmem b cs hb;have hset:∀c,aa (s.bs.set b (.row cs')) c=if c=b then some cs' else aa s.bs c:=sW hbl hne;have hlen:(s.bs.set b (.row cs')).length=s.bs.length:=by simp
 have hcl:∀p B,G.cl p=some B->B≠G.σ b:=fun p B hB e=>h.clbox p B hB b cs hb e.symm
 have hval:∀p y,(⟨s.env,s.bs.set b (.row cs'),s.lo⟩:St).at p=some y->(s.at p=some y∧al G.σ a w' p=al G.σ a w p)∨∃j,∃hj:j<cs'.length,p=.bx b j∧y=cs'[j]∧vs'[j]?=some (al G.σ a w' p):=fun p y hp=>by
  cases p with
  |sl t=>exact .inl ⟨hp,rfl⟩
  |bx c j=>
   simp only [St.at,hset] at hp
   by_cases e:c=b
   ·subst e;rw [if_pos rfl] at hp;simp only [Option.bind_some] at hp;obtain ⟨hj,hy⟩:=List.getElem?_eq_some_iff.1 hp;refine .inr ⟨j,hj,rfl,hy.symm,?_⟩;simp only [al,World.cell?,hc'];have:j<vs'.size:=by omega
    simp [this]
   ·rw [if_neg e] at hp;refine .inl ⟨hp,?_⟩
    cases hbc:aa s.bs c with
    |none=>rw [hbc] at hp;cases hp
    |some ds=>
     simp only [al];rw [bK (hother _ (h.blt hbc) (fun e2=>e (h.inj c b ds cs hbc hb e2)))]
 have hbox:∀c ds,aa (s.bs.set b (.row cs')) c=some ds->(c=b∧ds=cs')∨(c≠b∧aa s.bs c=some ds):=fun c ds hcd=>by
  rw [hset] at hcd;split at hcd
  ·rename_i e;cases hcd;exact .inl ⟨e,rfl⟩
  ·rename_i e;exact .inr ⟨e,hcd⟩
 have hcs:∀c ds,aa (s.bs.set b (.row cs')) c=some ds->∃es,aa s.bs c=some es:=fun c ds hcd=>by
  rcases hbox c ds hcd with ⟨rfl,_⟩|⟨_,h1⟩
  ·exact ⟨cs,hb⟩
  ·exact ⟨ds,h1⟩
 refine ⟨⟨hos.trans h.fr.os,htp.trans h.fr.tape,hout.trans h.fr.output,Nat.le_trans h.fr.size hsize,h.fr.le,fun B hB hn=>?_,h.fr.mem⟩,fun B o u hu=>?_,h.nt,fun p y hp=>?_,fun c j y hp=>?_,fun c ds hcd=>?_,fun c ds hcd=>?_,fun c c' ds ds' hcd hcd' e=>?_,fun p z l hp=>?_,h.clinj,fun p B hB c ds hcd=>?_,fun p B hB=>?_,h.lo,by rw [hlen];exact h.len,h.sig,h.sp.step (Hp.le_refl _) (fun _ _=>rfl) (fun c x hx=>?_) (fun B o ho hk=>?_) (fun _ _ _ _ p k=>⟨p,k⟩) (fun _ k=>k)⟩
 ·have hne2:B≠G.σ b:=fun e=>by
   subst e;rcases hmine with hm|hm
   ·exact hn hm
   ·omega
  rw [hother B (Nat.lt_of_lt_of_le hB h.fr.size) hne2];exact h.fr.heap B hB hn
 ·have h1:=h.ok _ _ _ hu;have hne2:B≠G.σ b:=fun e=>by rw [e,hM] at hu;cases hu
  simp only [Hp.of] at h1⊢;rw [bK (hother B (Hp.lt h.ok hu) hne2)];exact h1
 ·rw [hlen];rcases hval p y hp with ⟨h1,h2⟩|⟨j,hj,rfl,rfl,h3⟩
  ·rw [h2];exact h.val p y h1
  ·have:=(hv j hj _ h3).2;rw [this.bP];exact this
 ·rcases hval _ y hp with ⟨h1,h2⟩|⟨j',hj,e,rfl,h3⟩
  ·rw [h2];exact h.one c j y h1
  ·cases e;exact (hv _ hj _ h3).1
 ·rcases hbox c ds hcd with ⟨rfl,rfl⟩|⟨h1,h2⟩
  ·exact ⟨vs',T,hc',hsz⟩
  ·obtain ⟨us,T',h4,h5⟩:=h.box c ds h2;exact ⟨us,T',by rw [hother _ (h.blt h2) (fun e2=>h1 (h.inj c b ds cs h2 hb e2))];exact h4,h5⟩
 ·obtain ⟨es,h1⟩:=hcs c ds hcd;exact h.bmem c es h1
 ·obtain ⟨es,h1⟩:=hcs c ds hcd;obtain ⟨es',h1'⟩:=hcs c' ds' hcd';exact h.inj c c' es es' h1 h1' e
 ·rcases hval p _ hp with ⟨h1,h2⟩|⟨j,hj,rfl,e,h3⟩
  ·obtain ⟨ad,k,q1,q2,q3⟩:=h.own p z l h1;refine ⟨ad,k,by rw [h2];exact q1,q2,?_⟩
   rcases q3 with q3|⟨B,hB,q4,q5⟩
   ·exact .inl q3
   ·obtain ⟨us,T',q6,q7⟩:=q5.cells;exact .inr ⟨B,hB,q4,q5.lt,⟨us,T',by rw [hother B (h.cllt p B hB).1 (hcl p B hB)];exact q6,q7⟩,q5.free,q5.mine⟩
  ·have:=(hv j hj _ h3).2.bP;rw [←e] at this;simp [AV.aF] at this
 ·obtain ⟨es,h1⟩:=hcs c ds hcd;exact h.clbox p B hB c es h1
 ·obtain ⟨h1,h2⟩:=h.cllt p B hB;exact ⟨Nat.lt_of_lt_of_le h1 hsize,h2⟩
 ·by_cases e:b=c
  ·subst e;simp [ag,hbl,Box.lb?] at hx
  ·simp only [ag,List.getElem?_set,if_neg e] at hx;exact hx
 ·rw [hother B (Array.getElem?_eq_some_iff.1 ho).1 (fun e=>by subst e;rw [hc] at ho;cases ho;cases hk)]
  exact ho
end
theorem Plain.KV {α:Type} {f:α->AV} {z:Nat} (hp:Plain f z) (l:List α) (q n:Nat):∀x∈cellsOf (l.map f)++List.replicate q .top,x.aF=x∧x.lt n=true:=fun x hx=>by
 rcases List.mem_append.1 hx with hx|hx
 ·obtain ⟨h1,h2⟩:=hp.mem hx;refine ⟨h1,?_⟩;cases x<;>first|(cases h2;done)|rfl
 ·rw [(List.mem_replicate.1 hx).2];exact ⟨rfl,rfl⟩
theorem af.slot {s:St} {t:Nat} {Q:AV->List Box->Prop} (h:Q (s.get t) s.bs):af s [.slot t] Q:=⟨s,aB.refl s,.inl h⟩
theorem tL:Plain (AV.int .i64) 1:=⟨Nat.zero_lt_one,fun _=>rfl,fun x c h=>by simp [AV.cells] at h;subst h;rfl,fun x c h=>by simp [AV.cells] at h;subst h;rfl⟩
def An (v:AV) (xs:List Int):List (Int×AV):=xs.foldl (fun l n=>fw l n v) []
theorem Ar (v:AV):∀(l:List (Int×AV)) (n m:Int),lP (fw l n v) m=if m=n then some v else lP l m
 |[],n,m=>by simp only [fw,lP]
 |(k,x)::l,n,m=>by
  simp only [fw]
  by_cases h:n=k
  ·subst h;simp only [if_true,lP]
   by_cases h2:m=n<;>simp [h2]
  ·simp only [if_neg h,lP]
   by_cases h2:m=k
   ·subst h2;rw [if_pos rfl,if_neg (fun e=>h e.symm),if_pos rfl]
   ·rw [if_neg h2,if_neg h2,Ar v l n m]
theorem IW (v:AV) (xs:List Int) (n:Int):lP (An v xs) n=if n∈xs then some v else none:=by
 have:∀(xs:List Int) (l:List (Int×AV)),lP (xs.foldl (fun l n=>fw l n v) l) n=if n∈xs then some v else lP l n:=fun xs=>by
  induction xs with
  |nil=>intro l;simp
  |cons x xs ih=>
   intro l;rw [List.foldl_cons,ih,Ar]
   by_cases h1:n∈xs
   ·simp [h1]
   ·by_cases h2:n=x
    ·simp [h2]
    ·simp [h1,h2]
 rw [An,this];simp [lP]
theorem GO (v:AV) (xs:List Int) (n:Int):fw (An v xs) n v=An v (xs++[n]):=by simp [An]
theorem zq.set {v:AV} {xs:List Int} {n:Int} {ok:Bool} {z:AV} {K:AV->Prop} (hv:dB v=true) (h1:n∈xs->K (okR ok v true)) (h2:n∉xs->K (okR ok z false)):zq (An v xs) n ok z K:=by
 refine ⟨?_⟩;rw [IW]
 by_cases h:n∈xs
 ·simp only [if_pos h];exact ⟨hv,h1 h⟩
 ·simp only [if_neg h];exact h2 h
theorem cells_one {α:Type} {f:α->AV} (hf:∀x,(f x).cells=[f x]) (l:List α):cellsOf (l.map f)=l.map f:=by
 induction l with
 |nil=>rfl
 |cons x l ih=>rw [List.map_cons,cellsOf,ih,hf];rfl
theorem tp {α:Type} {f:α->AV} (hf:∀x,(f x).cells=[f x]) {bs:List Box} {b k i:Nat} {l:List α} {x:α} (hb:bs[b]?=some (aL f 1 k l)) (hx:l[i]?=some x):aa bs b=some (l.map f++List.replicate (k-l.length) AV.top):=by
 have hrow:bs[b]?=some (.row (l.map f++List.replicate (k-l.length) AV.top)):=by
  rw [hb];simp only [aL,cells_one hf,Nat.mul_one]
 refine cr (eT hrow) fun e=>?_;have:=congrArg List.length e;rw [List.length_append,List.length_map,List.length_nil] at this;have hi:=(List.getElem?_eq_some_iff.1 hx).1;omega
theorem ElN.one {α:Type} {f:α->AV} (hf:∀x,(f x).cells=[f x]∧(f x).aF=f x) {e:List (Nat×AV)} {bs:List Box} {lo b k i:Nat} {l:List α} {x:α} {K:AV->Prop} (hb:bs[b]?=some (aL f 1 k l)) (hx:l[i]?=some x) (h:K (f x)):ElN false 1 ⟨e,bs,lo⟩ (.elp b i 1 0) K:=by
 refine ⟨?_⟩;have hi:=(List.getElem?_eq_some_iff.1 hx).1;simp only [St.rd,tp (fun x=>(hf x).1) hb hx,Nat.mul_one,Nat.add_zero];rw [List.drop_append_of_le_length (by rw [List.length_map];omega),←List.map_drop,List.drop_eq_getElem_cons hi,(List.getElem?_eq_some_iff.1 hx).2]
 simp only [List.map_cons,List.cons_append,bM,(hf x).2];exact h
theorem EsN.one {α:Type} {f:α->AV} (hf:∀x,(f x).cells=[f x]∧aV (f x)=true) {e:List (Nat×AV)} {bs:List Box} {lo b k i:Nat} {l:List α} {x y:α} {K:St->Prop} (hb:bs[b]?=some (aL f 1 k l)) (hx:l[i]?=some x) (h:K ⟨e,bs.set b (aL f 1 k (l.set i y)),lo⟩):EsN 1 ⟨e,bs,lo⟩ b i 1 0 (f y) K:=by
 refine ⟨?_⟩;have hi:=(List.getElem?_eq_some_iff.1 hx).1;simp only [lp,tp (fun x=>(hf x).1) hb hx,Nat.mul_one,Nat.add_zero];refine ⟨⟨(hf y).2,by rw [(hf y).1];rfl,by omega,by rw [List.length_append,List.length_map];omega⟩,?_⟩
 have he:setAt (l.map f++List.replicate (k-l.length) AV.top) i (f y).cells=(l.set i y).map f++List.replicate (k-(l.set i y).length) AV.top:=by
  simp only [(hf y).1,setAt,List.length_set,List.map_set];rw [List.set_append,if_pos (by rw [List.length_map];exact hi)]
 rw [he];have e2:aL f 1 k (l.set i y)=.row ((l.set i y).map f++List.replicate (k-(l.set i y).length) AV.top):=by simp only [aL,cells_one (fun x=>(hf x).1),Nat.mul_one]
 rw [←e2];exact h
theorem RS.vS {α:Type} {f:α->AV} {z:Nat} (hp:Plain f z) {E:Entry} {G:Gh} {s:St} {a:Act} {w:World} (hs:RS E G s a w) {b k0:Nat} {l:List α} (hb:s.bs[b]?=some (aL f z k0 l)):
  ∃G',RS E G' ⟨s.env,s.bs.set b .dead,s.lo⟩ a w∧G'.σ=G.σ∧∀(m k:Nat) (v:Value),m≤l.length->RV G.M G.σ s.bs.length (.bsl b m k) v->FV G'.M (.sl .no ((l.take m).map f)) v:=by
 have hz:∀y∈l.map f,y.cells.length=z:=fun y hy=>by obtain ⟨x,_,rfl⟩:=List.mem_map.1 hy;exact hp.sz x
 by_cases hne:cellsOf (l.map f)++List.replicate ((k0-l.length)*z) AV.top=[]
 ·have hl:l=[]:=by
   have:=congrArg List.length hne;rw [List.length_append,hp.len,List.length_nil] at this;have h0:=hp.pos
   cases l with
   |nil=>rfl
   |cons x l=>simp only [List.length_cons,Nat.succ_mul] at this;omega
  subst hl
  have h1:=hs.reb (bs':=s.bs.set b .dead) (σ':=G.σ) id (by simp) (fun _ _=>rfl) (fun c x hc=>lZ hc) (fun c cs' hc=>by
   rw [bL] at hc;split at hc
   ·cases hc
   ·exact ⟨cs',hc,rfl,Nat.le_refl _,fun j x hx=>.inr ⟨hx,.inl rfl⟩⟩) (fun b b' _ _ _ _ e=>e)
  refine ⟨_,h1,rfl,fun m k v hm hv=>?_⟩;simp only [List.length_nil,Nat.le_zero] at hm;subst hm;obtain ⟨ad,rfl,_,_,_,_⟩:=hv.dH;exact FV.iT (l:=[]) (B:=0) (off:=0) (sz:=z) (by simp) (Nat.zero_le _) (Nat.zero_le _) (by simp) (fun h=>absurd rfl h) (fun i hi=>by cases hi)
 ·have hbc:aa s.bs b=some (cellsOf (l.map f)++List.replicate ((k0-l.length)*z) .top):=cr (eT hb) hne
  obtain ⟨G',h1,h2,h3⟩:=hs.dead hbc (fun x hx=>by
   rcases List.mem_append.1 hx with hx|hx
   ·exact (hp.mem hx).2
   ·rw [(List.mem_replicate.1 hx).2];rfl)
  refine ⟨G',h1,h2,fun m k v hm hv=>?_⟩;obtain ⟨ad,rfl,_,hmk,hml,had⟩:=hv.dH;have he:=nB (fO.yR hz h3) 0 m (by simpa using hm)
  simp only [Nat.zero_mul,Nat.add_zero,List.drop_zero,←List.map_take] at he;have hlen:((l.take m).map f).length=m:=by simp;omega
  have:=FV.iT (M:=G'.M) (o:=.no) (l:=(l.take m).map f) (a:=ad) (k:=k) (B:=G.σ b) (off:=0) (sz:=z) (by simp) (by omega) (by rw [hlen];first|exact hml|exact glim_le hml) (by simp) (fun h0=>had (fun e=>by
   subst e;have:m=0:=by omega
   subst this;simp at h0)) he
  rw [hlen] at this;exact this
theorem aB.bY {α:Type} {f:α->AV} {z:Nat} (hp:Plain f z) (s:St) (c i:Nat) {cs:List AV} {b m k k0:Nat} {l:List α} (h0:s.bs[c]?=some (.cells cs)) (hi:cs[i]?=some (.bsl b m k)) (hb:s.bs[b]?=some (aL f z k0 l)) (hm:m≤l.length):aB s ⟨s.env,(s.bs.set b .dead).set c (.cells (cs.set i (.sl .no ((l.take m).map f)))),s.lo⟩:=fun E G a w hs=>by
 have hcb:c≠b:=fun e=>by subst e;rw [h0] at hb;cases hb
 have hbc:aa s.bs c=some cs:=by simp only [aa,h0];rfl
 have hbc':aa (s.bs.set b .dead) c=some cs:=by rw [bL,if_neg hcb];exact hbc
 have hat:s.at (.bx c i)=some (.bsl b m k):=by simp only [St.at,hbc,Option.bind_some];exact hi
 have hv0:=hs.val _ _ hat;have hde:(AV.bsl b m k).aF=.bsl b m k:=rfl;rw [hde] at hv0;obtain ⟨G',h1,hσ,hth⟩:=hs.vS hp hb;have hfv:=hth m k _ hm hv0;have hat':(⟨s.env,s.bs.set b .dead,s.lo⟩:St).at (.bx c i)=some (.bsl b m k):=by simp only [St.at,hbc',Option.bind_some];exact hi
 have h2:=h1.upd (q:=.bx c i) (x:=.sl .no ((l.take m).map f)) hat' (by
  show RV G'.M G'.σ _ _ (al G'.σ a w (.bx c i));have hva:al G'.σ a w (.bx c i)=al G.σ a w (.bx c i):=by simp only [al,hσ]
  rw [hva];exact .flat hfv)
 refine ⟨G',?_⟩;have e:(⟨s.env,s.bs.set b .dead,s.lo⟩:St).upd (.bx c i) (.sl .no ((l.take m).map f))=⟨s.env,(s.bs.set b .dead).set c (.cells (cs.set i (.sl .no ((l.take m).map f)))),s.lo⟩:=by simp only [St.upd,hbc',St.bh]
 rw [←e];exact h2
theorem af.bY {α:Type} {f:α->AV} {z:Nat} (hp:Plain f z) {s:St} (c i:Nat) {cs:List AV} {b m k k0:Nat} {l:List α} {rs:List cm} {Q:AV->List Box->Prop} (h0:s.bs[c]?=some (.cells cs)) (hi:cs[i]?=some (.bsl b m k)) (hb:s.bs[b]?=some (aL f z k0 l)) (hm:m≤l.length) (h:af ⟨s.env,(s.bs.set b .dead).set c (.cells (cs.set i (.sl .no ((l.take m).map f)))),s.lo⟩ rs Q):af s rs Q:=by
 obtain ⟨s',h3,h4⟩:=h.out;exact ⟨s',(aB.bY hp s c i h0 hi hb hm).trans h3,h4⟩
theorem Jo.no {l:List AV} {K:Bool->Prop} (h:∀b,(b=true->l=[])->K b):Jo l K:=⟨fun hl=>h false (fun e=>by cases e),fun hl b=>h b fun _=>hl⟩
end Go.AM
namespace Go.CK
open Go.RowKit Go.AM
abbrev c7 (n:Int):AV:=.int .i64 n
abbrev slA {α:Type} (f:α->AV) (l:List α):AV:=.sl .no (l.map f)
def CF (M:Hp) (cs:List AV) (c:List Value):Prop:=c.length=cs.length∧∀j (h:j<cs.length) v,c[j]?=some v->FV M cs[j] v
theorem CF.nil {M:Hp}:CF M [] []:=⟨rfl,fun j h=>by cases h⟩
theorem CF.cons {M:Hp} {x:AV} {cs:List AV} {v:Value} {c:List Value} (h:FV M x v) (k:CF M cs c):CF M (x::cs) (v::c):=
 ⟨by simp [k.1],fun j hj u hu=>by
  cases j with
  |zero=>simp only [List.getElem?_cons_zero,Option.some.injEq] at hu;subst hu;exact h
  |succ j=>exact k.2 j (by simpa using hj) u (by simpa using hu)⟩
theorem CF.app {M:Hp} {cs ds:List AV} {c d:List Value} (h:CF M cs c) (k:CF M ds d):CF M (cs++ds) (c++d):=by
 refine ⟨by simp [h.1,k.1],fun j hj u hu=>?_⟩
 by_cases e:j<cs.length
 ·rw [List.getElem?_append_left (by rw [h.1];exact e)] at hu
  rw [List.getElem_append_left e];exact h.2 j e u hu
 ·rw [List.getElem?_append_right (by rw [h.1];omega)] at hu
  rw [List.getElem_append_right (by omega)]
  have:=k.2 (j-cs.length) (by simp at hj;omega) u (by rw [h.1] at hu;exact hu)
  exact this
theorem CF.agg {M:Hp} {cs:List AV} {c:List Value} (h:CF M cs c) (h1:∀u∈c,u.oneCell'=true):FV M (.agg cs) (.agg c.toArray):=.agg cs c h.1 h1 h.2
theorem Sl.fv {α:Type} {R:Hp->List Value->α->Prop} {f:α->AV} {M:Hp} {sz:Nat} {a:Option Addr} {l:List α} {k:Nat} (h:Sl M sz (R M) a l) (hk:l.length≤k) (hR:∀x∈l,∀c,R M c x->CF M (f x).cells c∧∀u∈c,u.oneCell'=true):FV M (.sl .no (l.map f)) (.slice a l.length k):=by
 have hlen:(l.map f).length=l.length:=by simp
 rw [←hlen]
 by_cases h0:0<l.length
 ·obtain ⟨b,o,ha⟩:=h.addr h0;refine FV.iT (B:=b) (off:=o) (sz:=sz) (fun z e=>by cases e) (by rw [hlen];exact hk) (by rw [hlen];exact h.le) (fun e=>by cases e) (fun _=>ha) (fun i hi=>?_)
  rw [hlen] at hi;obtain ⟨b',o',cs,h1,h2,h3,h4⟩:=h.at_ i hi;rw [ha] at h1;simp only [Option.some.injEq,Addr.mk.injEq,and_true] at h1;obtain ⟨rfl,rfl⟩:=h1;obtain ⟨⟨h5,h6⟩,h7⟩:=hR _ (List.getElem_mem hi) cs h4;rw [List.getElem_map];refine ⟨by rw [←h5,h2],fun j hj=>?_⟩
  have hj2:j<cs.length:=by rw [h5];exact hj
  have hj3:cs[j]?=some cs[j]:=List.getElem?_eq_getElem hj2;exact ⟨cs[j],h3 j _ hj3,h7 _ (List.getElem_mem hj2),h6 j hj _ hj3⟩
 ·have:l=[]:=List.length_eq_zero_iff.1 (by omega)
  subst this;exact FV.iT (B:=0) (off:=0) (sz:=0) (fun z e=>by cases e) (by simp) (by simp) (fun e=>by cases e) (fun e=>absurd rfl e) (fun i hi=>by cases hi)
theorem RSl.cf {α:Type} {R:Hp->List Value->α->Prop} {f:α->AV} {M:Hp} {sz:Nat} {c:List Value} {l:List α} (h:RSl sz R M c l) (hR:∀x∈l,∀c,R M c x->CF M (f x).cells c∧∀u∈c,u.oneCell'=true):CF M (slA f l).cells c∧∀u∈c,u.oneCell'=true:=by
 obtain ⟨a,k,rfl,h1,h2⟩:=h;exact ⟨.cons (h2.fv h1 hR) .nil,by simp [Value.oneCell']⟩
mutual
def Tm.av:Tm->AV
 |.mk k n s l=>.agg [.int .i64 k,.int .i64 n,.str s,.sl .no (Tm.avs l)]
def Tm.avs:List Tm->List AV
 |[]=>[]
 |t::l=>Tm.av t::Tm.avs l
end
theorem Tm.zk:∀l:List Tm,Tm.avs l=l.map Tm.av
 |[]=>rfl
 |t::l=>by rw [Tm.avs,Tm.zk l];rfl
def Tm.avw (t:Tm):AV:=.agg [.int .i64 t.kind,.int .i64 t.num,.str t.name,.sl .no (t.args.map Tm.av)]
theorem Tm.nK (t:Tm):t.av=t.avw:=by
 obtain ⟨k,n,s,l⟩:=t;rw [Tm.av,Tm.zk];rfl
theorem Tm.vq (t:Tm):t.av.cells.length=4:=by rw [Tm.nK];rfl
theorem RTm.cf {M:Hp} {c:List Value} {t:Tm} (h:RTm M c t):CF M t.av.cells c∧∀u∈c,u.oneCell'=true:=by
 refine ⟨?_,h.one⟩
 induction t using Tm.bD generalizing c with
 |h k n s l ih=>
  obtain ⟨a,cap,rfl,ik,iN,is,ic,hsl⟩:=h.inv;rw [Tm.av,Tm.zk];exact .cons (.int _ _) (.cons (.int _ _) (.cons (.str _ is) (.cons (hsl.fv ic fun x hx c hc=>⟨ih x hx hc,hc.one⟩) .nil)))
theorem RTm.fv {M:Hp} {c:List Value} {t:Tm} (h:RTm M c t):FV M t.av (.agg c.toArray):=by
 have:=h.cf;rw [Tm.nK] at this⊢;exact this.1.agg this.2
end Go.CK
namespace Go.AM
def AV.good (x:AV):Prop:=∃M v,FV M x v
end Go.AM
namespace Go.CK
open Go.RowKit Go.AM
theorem AU {s:ByteArray} (h:(AV.str s).good):s.size≤9223372036854775807:=by
 obtain ⟨M,v,h⟩:=h
 cases h with
 |str _ h=>exact h
theorem AW {cs:List AV} (h:(AV.agg cs).good):∀c∈cs,c.good:=by
 obtain ⟨M,v,h⟩:=h
 cases h with
 |agg _ vs hl h1 hv=>
  intro c hc;obtain ⟨j,hj,rfl⟩:=List.getElem_of_mem hc;exact ⟨M,vs[j],hv j hj _ (List.getElem?_eq_getElem (by omega))⟩
theorem I3 {o:Cap} {l:List AV} (h:(AV.sl o l).good):l.length≤9223372036854775807∧∀y∈l,y.good:=by
 obtain ⟨M,v,h⟩:=h;obtain ⟨a,k,B,off,sz,_,_,_,hl,_,_,he⟩:=h.ez;refine ⟨hl,fun y hy=>?_⟩;obtain ⟨i,hi,rfl⟩:=List.getElem_of_mem hy;obtain ⟨_,hc⟩:=he i hi;generalize l[i]=y at hc
 by_cases ha:∃cs,y=.agg cs
 ·obtain ⟨cs,rfl⟩:=ha
  have hx:∀j,∃v:Value,∀(h:j<cs.length),v.oneCell'=true∧FV M cs[j] v:=fun j=>by
   by_cases hj:j<cs.length
   ·obtain ⟨v,_,h2,h3⟩:=hc j hj;exact ⟨v,fun _=>⟨h2,h3⟩⟩
   ·exact ⟨undef,fun h=>absurd h hj⟩
  refine ⟨M,.agg (List.ofFn fun j:Fin cs.length=>(hx j).choose).toArray,.agg cs _ (by simp) (fun v hv=>?_) (fun j hj v hjv=>?_)⟩
  ·obtain ⟨j,rfl⟩:=List.mem_ofFn.1 hv;exact ((hx j).choose_spec j.2).1
  ·rw [List.getElem?_ofFn,dif_pos hj] at hjv;cases hjv;exact ((hx j).choose_spec hj).2
 ·have h1:y.cells=[y]:=by
   cases y<;>first|rfl|exact absurd ⟨_,rfl⟩ ha
  obtain ⟨v,_,_,h3⟩:=hc 0 (by rw [h1];simp)
  have:y.cells[0]'(by rw [h1];simp)=y:=by simp [h1]
  rw [this] at h3;exact ⟨M,v,h3⟩
theorem bH {α:Type} {f:α->AV} {l:List α} (h:(AV.sl .no (l.map f)).good):l.length≤9223372036854775807∧∀y∈l,(f y).good:=by
 obtain ⟨h1,h2⟩:=I3 h;exact ⟨by simpa using h1,fun y hy=>h2 _ (List.mem_map.2 ⟨y,hy,rfl⟩)⟩
theorem oe {t:Tm} (h:t.avw.good):t.name.size≤9223372036854775807∧t.args.length≤9223372036854775807∧∀x∈t.args,x.avw.good:=by
 have hs:=bH (AW h (.sl .no (t.args.map Tm.av)) (by simp))
 exact ⟨AU (AW h (.str t.name) (by simp)),hs.1,fun x hx=>by rw [←Tm.nK];exact hs.2 x hx⟩
theorem Fun.assume {P:Program} {f:FuncId} {vals:List AV} {r:AV} (hf:vals.all AV.flat=true) (h:(∀x∈vals,x.good)->Fun P f vals r):Fun P f vals r:=fun bs E G a0 w args lo h1 h2 h3=>by
 refine h (fun x hx=>?_) bs E G a0 w args lo h1 h2 h3;obtain ⟨j,hj,rfl⟩:=List.getElem_of_mem hx;have hjv:args[j]?=some (args[j]'(by omega)):=List.getElem?_eq_getElem (by omega)
 exact ⟨G.M,_,(h3 j hj _ hjv).Ii (List.all_eq_true.1 hf _ (List.getElem_mem hj))⟩
theorem eL.tmK {l:List Tm} {n:Nat} {K:AV->Prop} {x:Tm} (h:l[n]?=some x) (k:K x.avw):eL 4 (l.map Tm.av) (n:Int) K:=.known (by simpa using h) (by omega) Tm.vq (by rw [Tm.nK];exact k)
theorem eL.tm {l:List Tm} {n:Nat} {K:AV->Prop} (h1:n<l.length) (k:∀x,l[n]?=some x->K x.avw):eL 4 (l.map Tm.av) (n:Int) K:=.K3 h1 Tm.vq fun x hx=>by rw [Tm.nK];exact k x hx
theorem Szs.tm {l:List Tm}:Szs 4 (l.map Tm.av):=.map Tm.vq
def Bd.av (x:Bd):AV:=.agg [.int .i64 x.var,.int .i64 x.term.kind,.int .i64 x.term.num,.str x.term.name,.sl .no (x.term.args.map Tm.av)]
theorem RBd.cf {M:Hp} {c:List Value} {x:Bd} (h:RBd M c x):CF M x.av.cells c∧∀u∈c,u.oneCell'=true:=by
 refine ⟨?_,h.one⟩;obtain ⟨c1,rfl,_,q1⟩:=h;have w0:=Tm.nK x.term;have t:=(CF.app (CF.cons (FV.int .i64 x.var) CF.nil) (RTm.cf q1).1);rw [w0] at t;exact t
end Go.CK
namespace Go.AM
open Go.CK Go.RowKit
def scalar:AV->Bool
 |.bool _=>true
 |.int _ _=>true
 |.str _=>true
 |_=>false
def Vw (bs:List Box) (x y:AV):Prop:=∀(E:Entry) (G:Gh) (a:Act) (w:World) (lo:Nat),RS E G ⟨[],bs,lo⟩ a w->∀v,RV G.M G.σ bs.length x v->RV (Hp.of w) G.σ 0 y v
theorem Vw.same {bs:List Box} {x:AV} (h:x.flat=true):Vw bs x x:=fun _ _ _ _ _ hs _ hv=>.flat ((hv.Ii h).mono hs.ok)
theorem Vw.row {α:Type} {f:α->AV} {z:Nat} (hp:Plain f z) {bs:List Box} {b m k:Nat} {l:List α} (hb:bs[b]?=some (aL f z k l)) (hm:m=l.length):Vw bs (.bsl b m k) (.sl .no (l.map f)):=fun E G a w lo hs v hv=>by
 refine .flat ?_;subst hm;obtain ⟨ad,rfl,hbl,hmk,hml,had⟩:=hv.dH;have hz:∀y∈l.map f,y.cells.length=z:=fun y hy=>by obtain ⟨x,_,rfl⟩:=List.mem_map.1 hy;exact hp.sz x
 have hlm:(l.map f).length=l.length:=by simp
 by_cases hk:k=0
 ·subst hk;have hl:l=[]:=List.eq_nil_of_length_eq_zero (by omega)
  subst hl;exact FV.iT (l:=[]) (B:=0) (off:=0) (sz:=z) (by simp) (Nat.le_refl _) (Nat.zero_le _) (by simp) (fun h=>absurd rfl h) (fun i hi=>by cases hi)
 ·have hne:cellsOf (l.map f)++List.replicate ((k-l.length)*z) .top≠[]:=fun e=>by
   have:=congrArg List.length e;rw [List.length_append,hp.len,List.length_replicate,←Nat.add_mul,List.length_nil] at this;have h2:0<(l.length+(k-l.length))*z:=Nat.mul_pos (by omega) hp.pos
   omega
  have hbc:aa bs b=some (cellsOf (l.map f)++List.replicate ((k-l.length)*z) .top):=cr (eT hb) hne;rw [had hk]
  have hel:fO (Hp.of w) (G.σ b) 0 z (l.map f):=fO.yR (p:=List.replicate ((k-l.length)*z) .top) hz fun j hj=>by
   obtain ⟨u,h1,h2,h3⟩:=hs.ze (s:=⟨[],bs,lo⟩) hbc j hj;refine ⟨u,by rw [Nat.zero_add];exact h1,h2,?_⟩
   have hc:(cellsOf (l.map f)++List.replicate ((k-l.length)*z) AV.top)[j].aF=(cellsOf (l.map f)++List.replicate ((k-l.length)*z) AV.top)[j]∧(cellsOf (l.map f)++List.replicate ((k-l.length)*z) AV.top)[j].aU=true:=by
    have:=List.getElem_mem hj;rcases List.mem_append.1 this with hx|hx
    ·exact hp.mem hx
    ·rw [(List.mem_replicate.1 hx).2];exact ⟨rfl,rfl⟩
   rw [hc.1] at h3;exact (h3.aU hc.2).mono hs.ok
  have:=FV.iT (M:=Hp.of w) (o:=.no) (l:=l.map f) (a:=some ⟨G.σ b,0,none⟩) (k:=k) (B:=G.σ b) (off:=0) (sz:=z) (by simp) (by rw [hlm];exact hmk) (by rw [hlm];first|exact hml|exact glim_le hml) (by simp) (fun _=>rfl) hel
  rw [hlm] at this;exact this
inductive Vws (bs:List Box):List AV->List AV->Prop
 |nil:Vws bs [] []
 |cons {x y:AV} {xs ys:List AV} (h:Vw bs x y) (k:Vws bs xs ys):Vws bs (x::xs) (y::ys)
theorem Vws.len {bs:List Box} {xs ys:List AV} (h:Vws bs xs ys):ys.length=xs.length:=by
 induction h with
 |nil=>rfl
 |cons _ _ ih=>simp [ih]
theorem Vws.get {bs:List Box} {xs ys:List AV} (h:Vws bs xs ys):∀j (hj:j<xs.length) (hj':j<ys.length),Vw bs xs[j] ys[j]:=by
 induction h with
 |nil=>intro j hj;cases hj
 |cons h _ ih=>
  intro j hj hj'
  cases j with
  |zero=>exact h
  |succ j=>exact ih j (by simpa using hj) (by simpa using hj')
theorem Fun.view {P:Program} {f:FuncId} {vals vals':List AV} {r:AV} {bs:List Box} (h:Fun P f vals' r) (hr:scalar r=true) (hv:Vws bs vals vals'):Sem P f vals bs fun r' bs'=>r'=r∧bs'=bs:=by
 intro E G a0 w args lo hpre hl hval
 have h0:RS ⟨fun _=>False,Hp.of w,w,0,0,G.σ,[]⟩ ⟨Hp.of w,G.σ,fun _=>none⟩ ⟨[],[],0⟩ ⟨#[],[]⟩ w:=by
  have hat:∀p x,(⟨[],[],0⟩:St).at p=some x->False:=fun p x hp=>by
   cases p with
   |sl t=>simp [St.at,ak] at hp
   |bx b j=>simp [St.at,aa] at hp
  have hbx:∀b cs,aa ([]:List Box) b=some cs->False:=fun b cs hb=>by simp [aa] at hb
  exact ⟨Fr.refl _ _ _,Hp.le_refl _,rfl,fun p x hp=>(hat p x hp).elim,fun b j x hp=>(hat _ x hp).elim,fun b cs hb=>(hbx b cs hb).elim,fun b cs hb=>(hbx b cs hb).elim,fun b b' cs cs' hb _ _=>(hbx b cs hb).elim,fun p z l hp=>(hat p _ hp).elim,(fun p q B hp=>by cases hp),(fun p B hp=>by cases hp),(fun p B hp=>by cases hp),rfl,Nat.le_refl _,(fun b hb=>by cases hb),Sp.none _ _ _ _ _ _⟩
 refine (h [] _ _ _ w args 0 h0 (by rw [hl,hv.len]) (fun j hj v hjv=>?_)).mono ?_
 ·have hj2:j<vals.length:=by rw [←hv.len];exact hj
  exact hv.get j hj2 hj E G a0 w lo hpre v (hval j hj2 v hjv)
 ·rintro e w' ⟨v,r',bs',G',rfl,⟨rfl,_⟩,h'⟩;refine ⟨v,r',bs,⟨G.M,G.σ,fun p=>match p with|.sl _=>none|.bx b j=>G.cl (.bx b j)⟩,rfl,⟨rfl,rfl⟩,?_⟩
  have hno:∀B,¬dV ⟨Hp.of w,G.σ,fun _=>none⟩ [] B:=fun B hB=>by
   rcases hB with ⟨b,cs,hb,_⟩|⟨b,j,hb⟩|⟨b,x,hb,_⟩
   ·simp [aa] at hb
   ·cases hb
   ·exact dS hb
  have hfr:Fr (dV ⟨Hp.of w,G.σ,fun _=>none⟩ []) (Hp.of w) w G'.M w':=h'.fr;have hat0:(⟨[(0,r')],bs',([]:List Box).length⟩:St).at (.sl 0)=some r':=rfl
  have hatc:∀p x,(⟨[(0,r')],bs,bs.length⟩:St).at p=some x->(p=.sl 0∧x=r')∨(∃b j,p=.bx b j∧(⟨[],bs,lo⟩:St).at (.bx b j)=some x):=fun p x hp=>by
   cases p with
   |sl t=>
    simp only [St.at,ak] at hp;split at hp
    ·rename_i hb;have:=Nat.eq_of_beq_eq_true hb;subst this;cases hp;exact .inl ⟨rfl,rfl⟩
    ·cases hp
   |bx b j=>exact .inr ⟨b,j,rfl,hp⟩
  have hbv:∀b j x,(⟨[],bs,lo⟩:St).at (.bx b j)=some x->al G.σ ⟨#[v],[]⟩ w' (.bx b j)=al G.σ a0 w (.bx b j):=fun b j x hx=>by
   simp only [St.at] at hx
   cases hb:aa bs b with
   |none=>rw [hb] at hx;cases hx
   |some cs=>simp only [al];rw [bK (hfr.heap _ (hpre.blt hb) (hno _))]
  have hrv:RV G.M G.σ bs.length r'.aF v:=by
   have h1:=h'.val _ _ hat0
   cases r' with
   |bool b=>exact .flat (by have:=h1.cB;rw [show v=.bool b from this];exact .bool b)
   |int k n=>exact .flat (by have:=h1.aC;rw [show v=.int k n from this];exact .int k n)
   |str s=>exact .flat (by have:=h1.dG;rw [show v=.string s from this.1];exact .str s this.2)
   |_=>cases hr
  refine ⟨⟨hfr.os,hfr.tape,hfr.output,hfr.size,Hp.le_refl _,fun B hB _=>hfr.heap B hB (hno B),fun B hB _ _=>rfl⟩,Hp.le_trans hpre.ok (Hp.le_trans hfr.le h'.ok),rfl,fun p x hp=>?_,fun b j x hp=>?_,fun b cs hb=>?_,fun b cs hb=>?_,hpre.inj,fun p z l hp=>?_,fun p q B hp hq'=>?_,fun p B hB b cs hb=>?_,fun p B hB=>?_,rfl,Nat.le_refl _,fun _ _=>rfl,?_⟩
  ·rcases hatc p x hp with ⟨rfl,rfl⟩|⟨b,j,rfl,hx⟩
   ·exact hrv
   ·show RV G.M G.σ bs.length x.aF _;rw [hbv b j x hx];exact hpre.val _ _ hx
  ·rcases hatc _ x hp with ⟨e,_⟩|⟨b',j',e,hx⟩
   ·cases e
   ·cases e;show (al G.σ _ w' _).oneCell'=true;rw [hbv b j x hx];exact hpre.one _ _ _ hx
  ·obtain ⟨vs,T,h1,h2⟩:=hpre.box b cs hb;exact ⟨vs,T,(hfr.heap _ (hpre.blt hb) (hno _)).trans h1,h2⟩
  ·obtain ⟨h1,_⟩:=hpre.bmem b cs hb;exact ⟨h1,.inl (.inl ⟨b,cs,hb,rfl⟩)⟩
  ·rcases hatc p _ hp with ⟨rfl,hx⟩|⟨b,j,rfl,hx⟩
   ·subst hx;cases hr
   ·obtain ⟨ad,k,h1,h2,h3⟩:=hpre.own _ _ _ hx;refine ⟨ad,k,(hbv b j _ hx).trans h1,h2,?_⟩;rcases h3 with h3|⟨B,hB,h4,h5⟩
    ·exact .inl h3
    ·have hlt:=(hpre.cllt _ B hB).1;obtain ⟨vs,T,h6,h7⟩:=h5.cells;exact .inr ⟨B,hB,h4,h5.lt,⟨vs,T,(hfr.heap B hlt (hno B)).trans h6,h7⟩,h5.free,.inl (.inr (.inl ⟨b,j,hB⟩))⟩
  ·cases p with
   |sl t=>cases hp
   |bx b j=>
    cases q with
    |sl u=>cases hq'
    |bx b' j'=>exact hpre.clinj _ _ B hp hq'
  ·cases p with
   |sl t=>cases hB
   |bx b' j'=>exact hpre.clbox _ B hB b cs hb
  ·cases p with
   |sl t=>cases hB
   |bx b' j'=>exact ⟨Nat.lt_of_lt_of_le (hpre.cllt _ B hB).1 hfr.size,.inl (.inr (.inl ⟨b',j',hB⟩))⟩
  ·refine ⟨fun B o hs=>?_,fun b x hb=>?_,hpre.sp.inj,[],rfl,.nil⟩
   ·rcases hs with ⟨b,x,hb,e,ho⟩|⟨hmem,_⟩
    ·obtain ⟨h1,h2,_⟩:=hpre.sp.ob B o (.inl ⟨b,x,hb,e,ho⟩);have hlt:=(Array.getElem?_eq_some_iff.1 h1).1;refine ⟨(hfr.heap B hlt (hno B)).trans h1,fun p hp=>?_,.inl (.inr (.inr ⟨b,x,hb,e⟩))⟩
     cases p with
     |sl t=>cases hp
     |bx b' j'=>exact h2 _ hp
    ·cases hmem
   ·exact hpre.sp.base b x hb
theorem ab.view {P:Program} {f:FuncId} {vals raw vals':List AV} {r:AV} {bs:List Box} {K:AV->List Box->Prop} (h:Fun P f vals' r) (hr:scalar r=true) (hv:Vws bs raw vals') (hK:K r bs):ab P f vals raw bs K:=
 .raw (h.view hr hv) fun r' bs' ⟨e1,e2⟩=>by subst e1 e2;exact hK
theorem Sem.assume {P:Program} {f:FuncId} {vals:List AV} {bs:List Box} {Q:AV->List Box->Prop} (h:(∀x∈vals,x.flat=true->x.good)->(∀cs,AV.ept cs∈vals->∀c∈cs,c.good)->Sem P f vals bs Q):Sem P f vals bs Q:=fun E G a0 w args lo h1 h2 h3=>by
 refine h (fun x hx hf=>?_) (fun cs hx c hc=>?_) E G a0 w args lo h1 h2 h3
 ·obtain ⟨j,hj,rfl⟩:=List.getElem_of_mem hx;exact ⟨G.M,_,(h3 j hj _ (List.getElem?_eq_getElem (by omega))).Ii hf⟩
 ·obtain ⟨j,hj,e⟩:=List.getElem_of_mem hx;have hv:=h3 j hj _ (List.getElem?_eq_getElem (by omega))
  rw [e] at hv;obtain ⟨B,off,_,hcs⟩:=hv.qg;obtain ⟨i,hi,rfl⟩:=List.getElem_of_mem hc;obtain ⟨v,_,_,h6⟩:=hcs i hi;exact ⟨G.M,v,h6⟩
theorem lh.GN {α:Type} {f:α->AV} {z:Nat} (hp:Plain f z) {e:List (Nat×AV)} {bs:List Box} {lo:Nat} {l':List α} {o:Cap} {K:AV->St->Prop} (hlim:l'.length≤4294967296)
  (h:∀k',l'.length≤k'->K (.bsl bs.length l'.length k') ⟨e,bs++[aL f z k' l'],lo⟩):lh z ⟨e,bs,lo⟩ (.sl .full []) (.sl o (l'.map f)) K:=by
 refine ⟨?_⟩;unfold mG;simp only [qx,wD];refine ⟨fun y hy=>by obtain ⟨x,_,rfl⟩:=List.mem_map.1 hy;exact hp.sz x,?_⟩
 rw [List.length_map];refine ⟨⟨hp.pos,by simp,by omega,fun x hx=>by simp at hx⟩,fun k' hk'=>?_⟩
 have:=h k' (by omega)
 simp only [aL,iv,Nat.zero_add,List.take_nil,List.nil_append] at this⊢;exact this
theorem Gg {α:Type} (own:List α) (x y c:α):((own++[x])++[c]).set own.length y=(own++[y])++[c]:=by simp
end Go.AM
