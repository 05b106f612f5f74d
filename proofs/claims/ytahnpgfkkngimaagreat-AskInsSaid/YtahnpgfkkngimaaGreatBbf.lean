/-
  Texts of this aQ joined (wip/gen/bundle.py),those declarations only that are needed:UrD UrE UrF. By an AI agent.
-/
import Derived.Test.YtahnpgfkkngimaaGreatBbe
set_option linter.unusedSimpArgs false
set_option linter.unusedVariables false
set_option maxRecDepth 100000
namespace Go.CK
open Go.AM
def fA(v:Int):List Bnd->Nat
 |[]=>0
 |b::l=>if b.v<v then fA v l+1 else 0
def lT(x:Bnd)(l:List Bnd):List Bnd:=l.take (fA x.v l)++x::l.drop (fA x.v l)
theorem yZ(v:Int):∀l:List Bnd,fA v l<=l.length
 |[]=>ZG _
 |b::l=>by
  have:=yZ v l;rw[fA];split
  .simp only[ZX];omega
  .exact ZJ _
theorem DO(v:Int):∀(l:List Bnd) (j:Nat) (b:Bnd),l[j]? =some b->j<fA v l->b.v<v
 |[],j,b,h,_=>by simp at h
 |c::l,j,b,h,hj=>by
  rw[fA] at hj;split at hj
  .cases j with
   |zero=>simp at h;subst h;assumption
   |succ j=>exact DO v l j b (by simpa using h) (by omega)
  .omega
theorem DP(v:Int):∀(l:List Bnd) (b:Bnd),l[fA v l]? =some b->¬b.v<v
 |[],b,h=>by simp at h
 |c::l,b,h=>by
  rw[fA] at h;split at h
  .exact DP v l b (by simpa using h)
  .simp at h;subst h;assumption
theorem iX{v:Int}{l:List Bnd}{k:Nat}(hk:k<=l.length)(h1:∀j b,l[j]? =some b->j<k->b.v<v)(h2:∀b,l[k]? =some b->¬b.v<v):fA v l=k:=by
 have h3:=yZ v l
 by_cases h:fA v l<k
 .have hlt:fA v l<l.length:=by omega
  have e:=ZA hlt;exact absurd (h1 _ _ e h) (DP v l _ e)
 .by_cases h':k<fA v l
  .have hlt:k<l.length:=by omega
   have e:=ZA hlt;exact absurd (DO v l k _ e h') (h2 _ e)
  .omega
theorem uF{x b:Bnd}{l:List Bnd}:b∈lT x l↔b=x\/b∈l:=by
 unfold lT;rw[ZY,ZI];constructor
 .rintro (h|h|h)
  .exact .inr (List.mem_of_mem_take h)
  .exact .inl h
  .exact .inr (List.mem_of_mem_drop h)
 .rintro (h|h)
  .exact .inr (.inl h)
  .rw [<-List.take_append_drop (fA x.v l) l,ZY] at h;rcases h with h|h
   .exact .inl h
   .exact .inr (.inr h)
theorem AP{x:Bnd}:∀{l:List Bnd},(l.map (·.v)).Pairwise (·<·)->(∀b∈l,b.v≠x.v)->((lT x l).map (·.v)).Pairwise (·<·)
 |[],_,_=>by simp[lT,fA]
 |c::l,h,hn=>by
  have hc:=hn c (ZV ..);have h0:=h;rw[ZP,Zx] at h;unfold lT;rw[fA];split
  .rename_i hlt;have ih:=AP h.2 λb hb=>hn b (ZQ _ hb);rw[XN,List.drop_succ_cons,Ze,ZP,Zx];refine⟨λv hv=>?_,ih⟩;obtain⟨b,hb,rfl⟩:=Zk.1 hv;rcases uF.1 hb with rfl|hb
   .exact hlt
   .exact h.1 _ (YV hb)
  .rename_i hlt;rw[YJ,Xb,Ym,ZP,Zx];refine⟨λv hv=>?_,h0⟩;rw[ZP] at hv;rcases ZI.1 hv with rfl|hv
   .omega
   .have:=h.1 v hv;omega
def GM(g:Rg)(m:List (Int×Int))(i:Nat)(out:List Bnd):Option (Option (List Bnd)):=match g.nodes[i]?,g.cls[i]? with
 |some x,some c=>if¬x.t.kind=1\/(g.shape c=none/\oiI (g.le c)=x.t.num) then some (some out) else
  match m[c]? with
  |none=>none
  |some y=>if 200<y.1\/20<y.2 then some none else match gU g 20 c with
   |none=>none
   |some t=>some (some (lT ⟨x.t.num,t⟩ out))
 |_,_=>none
def ie(g:Rg)(m:List (Int×Int)):Nat->Option (Option (List Bnd))
 |0=>some (some [])
 |i+1=>match ie g m i with
  |none=>none
  |some none=>some none
  |some (some out)=>GM g m i out
section
variable{g:Rg}
noncomputable abbrev Rg.M (g:Rg):Int->Tm:=mguM g.nodes g.R g.shape g.le
theorem tV(hg:RW g){m:List (Int×Int)}(hm:∀c,g.R c c->∃t,g.Ex c t/\m[c]? =some (fa t)):∀n:Nat,n<=g.nodes.length->∃r,ie g m n=some r/\
  ((∃out,r=some out/\(out.map (·.v)).Pairwise (·<·)/\(∀v t,(⟨v,t⟩:Bnd)∈out↔∃(i:Nat) (x:Nd),i<n/\g.nodes[i]? =some x/\x.t=az v/\t=g.M v/\¬g.M v=az v)/\∀b∈out,fits b.t)\/(r=none/\∃v,¬g.M v=az v/\¬fits (g.M v)))
 |0,_=>⟨some [],rfl,.inl ⟨[],rfl,.nil,λv t=>⟨λh=>(by cases h),λ⟨i,x,h,_⟩=>by omega⟩,λb h=>by cases h⟩⟩
 |n+1,hn=>by
  obtain⟨r,e1,e2⟩:=tV hg hm n (by omega)
  rcases e2 with ⟨out,rfl,h1,h2,h3⟩|⟨rfl,h1⟩
  rotate_left
  .exact ⟨none,by simp only[ie,e1],.inr ⟨rfl,h1⟩⟩
  have hp:=hg.par;obtain⟨x,hx⟩:∃x,g.nodes[n]? =some x:=⟨_,ZA (by omega)⟩
  obtain⟨c,hc⟩:=hp.tot n (by omega)
  have hc':g.cls[n]? =some c:=hc;have hcc:=hp.idem _ _ hc;obtain⟨t,ht,hmt⟩:=hm c hcc
  simp only[ie,e1,GM,hx,hc']
  --what is skipped brings nothing
  have hskip:(∀v,x.t=az v->g.M v=az v)->∃r,some (some out)=some r/\((∃out,r=some out/\(out.map (·.v)).Pairwise (·<·)/\(∀v t,(⟨v,t⟩:Bnd)∈out↔∃(i:Nat) (x:Nd),i<n+1/\g.nodes[i]? =some x/\x.t=az v/\t=g.M v/\¬g.M v=az v)/\∀b∈out,fits b.t)\/(r=none/\∃v,¬g.M v=az v/\¬fits (g.M v))):=λhs=>by
   refine⟨some out,rfl,.inl ⟨out,rfl,h1,λv t=>(h2 v t).trans ⟨λ⟨i,y,a,b⟩=>⟨i,y,by omega,b⟩,λ⟨i,y,a,b1,b2,b3,b4⟩=>?_⟩,h3⟩⟩
   by_cases hi:i=n
   .subst hi;rw[hx] at b1;cases b1;exact absurd (hs v b2) b4
   .exact ⟨i,y,by omega,b1,b2,b3,b4⟩
  by_cases hk:x.t.kind=1
  rotate_left
  .rw [if_pos (.inl hk)];exact hskip λv hv=>absurd (by rw[hv];rfl) hk
  have hxv:x.t=az x.t.num:=jY (fi _ (hg.nds.frm _ _ hx)) hk;have hM:g.M x.t.num=t:=lO hg.nds hp hx hxv hc ht;have hnum:∀v,x.t=az v->v=x.t.num:=λv hv=>by rw[hv];rfl
  have hiff:(g.shape c=none/\oiI (g.le c)=x.t.num)↔g.M x.t.num=az x.t.num:=by
   rw[hM];obtain⟨s1,s2⟩:=cT c hcc;generalize htt:t=t' at ht
   cases ht with
   |var h a1 a2=>
    rw[a1,a2]
    exact⟨λe=>by rw[<-e.2];rfl,λe=>⟨rfl,pB e⟩⟩
   |leaf h a1 a2 a3=>
    rw[a1];refine⟨λe=>(by cases e.1),λe=>?_⟩
    obtain⟨y',f1,f2,_⟩:=s1 _ a1;rw[a2] at f1;cases f1
    rw[e] at f2;exact absurd rfl f2
   |fn h a1 a2 a3 a4 a5=>
    rw[a1];refine⟨λe=>(by cases e.1),λe=>?_⟩
    obtain⟨y',f1,f2,_⟩:=s1 _ a1;rw[a2] at f1;cases f1;exact absurd (congrArg Tm.kind e) f2
  by_cases hs:g.M x.t.num=az x.t.num
  .rw [if_pos (.inr (hiff.2 hs))];exact hskip λv hv=>by rw[hnum v hv];exact hs
  .rw [if_neg (λe=>e.elim (λe=>e hk) λe=>hs (hiff.1 e))];simp only[hmt]
   by_cases hbig:200<(fa t).1\/20<(fa t).2
   .rw [if_pos hbig];exact⟨none,rfl,.inr ⟨rfl,x.t.num,hs,by rw[hM];exact(kX t).1 hbig⟩⟩
   .rw [if_neg hbig];have hfit:fits t:=Decidable.byContradiction λe=>hbig ((kX t).2 e);simp only[wP hg 20 c t ht hfit.2];refine⟨some (lT ⟨x.t.num,t⟩ out),rfl,.inl ⟨_,rfl,AP h1 (λb hb e=>?_),λv t'=>?_,λb hb=>?_⟩⟩
    .have hb':(⟨b.v,b.t⟩:Bnd)∈out:=hb;obtain⟨i,y,a1,a2,a3,_⟩:=(h2 b.v b.t).1 hb';have e:b.v=x.t.num:=e;have:=hg.nds.one i n y x a2 hx (by rw[a3];rfl) (by rw[a3,e];exact hxv.symm)
     omega
    .rw [uF];constructor
     .rintro (e|e)
      .cases e;exact⟨n,x,by omega,hx,hxv,hM.symm,hs⟩
      .obtain ⟨i,y,a,b⟩:=(h2 v t').1 e;exact⟨i,y,by omega,b⟩
     .rintro ⟨i,y,a,b1,b2,b3,b4⟩
      by_cases hi:i=n
      .subst hi;rw[hx] at b1;cases b1;left;have:=hnum v b2;subst this;rw[b3,hM]
      .exact .inr ((h2 v t').2 ⟨i,y,by omega,b1,b2,b3,b4⟩)
    .rcases uF.1 hb with rfl|hb
     .exact hfit
     .exact h3 b hb
def Gb(g:Rg):Option (List Bnd×Int):=match Au g with
 |none=>none
 |some none=>some ([],13)
 |some (some m)=>match ie g m g.nodes.length with
  |none=>none
  |some none=>some ([],6)
  |some (some out)=>some (out,0)
theorem Ga(hg:RW g)(hc:aE g.nodes g.R []):∃out e,Gb g=some (out,e)/\Ans (Sat g.nodes g.R []) out e:=by
 obtain⟨r,e1,e2⟩:=EP hg;unfold Gb;rcases e2 with ⟨m,rfl,_,hm⟩|⟨rfl,hn⟩
 .simp only[e1]
  have hmg:Mgu (Sat g.nodes g.R []) g.M:=GV hg.nds hg.par (cT (g:=g)) (AG hg) hc λr hr=>by
   obtain⟨t,ht,_⟩:=hm r hr;exact⟨t,ht⟩
  obtain⟨r,f1,f2⟩:=tV hg hm g.nodes.length (ZG _);rcases f2 with ⟨out,rfl,h1,h2,h3⟩|⟨rfl,v,h1,h2⟩
  .refine ⟨out,0,by simp only[f1],.inr ⟨g.M,hmg,.inl ⟨⟨h1,λv t=>?_⟩,h3,rfl⟩⟩⟩
   rw[h2 v t];constructor
   .rintro ⟨i,x,_,_,_,a,b⟩;exact⟨a,b⟩
   .rintro ⟨a,b⟩
    by_cases h:∃(k:Nat) (x:Nd),g.nodes[k]? =some x/\x.t=az v
    .obtain ⟨k,x,q1,q2⟩:=h;exact⟨k,x,(ZB.1 q1).1,q1,q2,a,b⟩
    .exact absurd (p8 h) b
  .exact ⟨[],6,by simp only[f1],.inr ⟨g.M,hmg,.inr ⟨⟨v,h1,h2⟩,rfl,rfl⟩⟩⟩
 .exact ⟨[],13,by simp only[e1],.inl ⟨hn,rfl,rfl⟩⟩
end
def vX(f:Nat):Rg->List (Tm×Tm)->Option (Rg×Bool)
 |g,[]=>some (g,true)
 |g,(x,y)::ps=>match iW f (bw (bw g x).1 y).1 (bw g x).2 (bw (bw g x).1 y).2 with
  |none=>none
  |some (g',false)=>some (g',false)
  |some (g',true)=>vX f g' ps
theorem Ea(g:Rg):kW g<=g.cls.length:=by
 unfold kW;have:=Yz (p:=λk=>decide (g.cls[k]? =some k)) (l:=List.range g.cls.length);rw[Yu] at this;exact this
theorem zP{f:Nat}:∀(ps:List (Tm×Tm)) (g:Rg),RW g->aE g.nodes g.R []->(∀p∈ps,p.1.form=true/\p.2.form=true)->g.cls.length+(Tm.ai (ps.map (·.1))+Tm.ai (ps.map (·.2)))<f->
  ∃g' b,vX f g ps=some (g',b)/\(b=true->RW g'/\aE g'.nodes g'.R []/\∀σ,Sat g'.nodes g'.R [] σ↔(Sat g.nodes g.R [] σ/\Eqs ps σ))/\(b=false->∀σ,¬(Sat g.nodes g.R [] σ/\Eqs ps σ))
 |[],g,hg,hc,_,_=>⟨g,true,rfl,λ_=>⟨hg,hc,λσ=>⟨λh=>⟨h,λp hp=>by cases hp⟩,λh=>h.1⟩⟩,λe=>by cases e⟩
 |(x,y)::ps,g,hg,hc,hfm,hf=>by
  obtain⟨fx,fy⟩:=hfm (x,y) (ZV ..);simp only[ZP,Tm.ai] at hf;obtain⟨a1,n1,a2,a3⟩:=nA x hg hc fx;have l1:=(nz g x).2;obtain⟨b1,n2,b2,b3⟩:=nA y a1.gw a1.cl fy;have l2:=(nz (bw g x).1 y).2;have hab:=a1.trans b1;have hx2:=b1.old _ _ a2;have hcls:=Ea (bw (bw g x).1 y).1
  obtain⟨g',b,q1,q2,q3,q4,q5⟩:=rz f (bw (bw g x).1 y).1 [] (bw g x).2 (bw (bw g x).1 y).2 b1.gw (nE b1.cl) (λp hp=>by
   rw[Zp] at hp;subst hp;exact⟨(ZB.1 hx2).1,(ZB.1 b2).1⟩) (by omega)
  rw[Ym] at q4 q5
  have hsat:∀σ,Sat (bw (bw g x).1 y).1.nodes (bw (bw g x).1 y).1.R [((bw g x).2,(bw (bw g x).1 y).2)] σ↔(Sat g.nodes g.R [] σ/\app σ x=app σ y):=λσ=>by
   rw[zK,hab.sat σ,kT hx2,kT b2,a3,b3]
  have hcons:∀σ,Eqs ((x,y)::ps) σ↔(app σ x=app σ y/\Eqs ps σ):=λσ=>⟨λh=>⟨h (x,y) (ZV ..),λp hp=>h p (ZQ _ hp)⟩,λh p hp=>by
   rcases ZI.1 hp with rfl|hp
   .exact h.1
   .exact h.2 p hp⟩
  cases b with
  |false=>
   refine⟨g',false,by simp only[vX,q1],λe=>(by cases e),λ_ σ hs=>?_⟩
   rw[hcons] at hs
   exact q5 rfl σ ((hsat σ).2 ⟨hs.1,hs.2.1⟩)
  |true=>
   obtain⟨k1,k2,k3,k4⟩:=q4 rfl;obtain⟨g3,b3',p1,p2,p3⟩:=zP (f:=f) ps g' k1 k2 (λp hp=>hfm p (ZQ _ hp)) (by omega)
   refine⟨g3,b3',by simp only[vX,q1];exact p1,λe=>?_,λe σ hs=>?_⟩
   .obtain ⟨s1,s2,s3⟩:=p2 e;refine⟨s1,s2,λσ=>?_⟩;rw[s3 σ,k4 σ,hsat σ,hcons σ,and_assoc]
   .rw [hcons] at hs;exact p3 e σ ⟨(k4 σ).2 ((hsat σ).2 ⟨hs.1,hs.2.1⟩),hs.2.2⟩
def rg0:Rg:=⟨[],[]⟩
theorem Gt:RW rg0:=⟨rfl,⟨λi x h=>(by simp[rg0] at h),λi x h=>(by simp[rg0] at h),λi x h=>(by simp[rg0] at h),λi j x y h=>by simp[rg0] at h⟩,λk r h=>by simp[rg0] at h⟩
theorem tx:aE rg0.nodes rg0.R []:=λi k r x y h=>by simp[rg0] at h
theorem Dv(σ:Int->Tm):Sat rg0.nodes rg0.R [] σ:=⟨λk r h=>(by have h:rg0.cls[k]? =some r:=h;simp[rg0] at h),λp hp=>by cases hp⟩
abbrev fR:Nat:=300000001
def BL(a b:List Tm):Option (List Bnd×Int):=
 if (a.all Tm.right&&b.all Tm.right)=true then
  if a.length=b.length then match vX fR rg0 (a.zip b) with
   |none=>none
   |some (_,false)=>some ([],13)
   |some (g,true)=>Gb g
  else some ([],9)
 else some ([],2)
theorem HS{a b:List Tm}(hN:Tm.ai a+Tm.ai b<=300000000):∃out e,BL a b=some (out,e)/\(if (a.all Tm.right&&b.all Tm.right)=true then (if a.length=b.length then Ans (Eqs (a.zip b)) out e else out=[]/\e=9) else out=[]/\e=2):=by
 have hfR:fR=300000001:=rfl;unfold BL
 by_cases hr:(a.all Tm.right&&b.all Tm.right)=true
 .simp only[if_pos hr]
  by_cases hl:a.length=b.length
  .simp only[if_pos hl];simp only[ZD] at hr
   have hfm:∀p∈a.zip b,p.1.form=true/\p.2.form=true:=λp hp=>by
    have:=List.of_mem_zip hp;exact⟨cU (ZS.1 hr.1 _ this.1),cU (ZS.1 hr.2 _ this.2)⟩
   obtain⟨z1,z2⟩:=yd hl;obtain⟨g,bb,q1,q2,q3⟩:=zP (f:=fR) (a.zip b) rg0 Gt tx hfm (by rw[z1,z2];show 0+_<_;omega)
   rw[q1]
   cases bb with
   |false=>exact⟨[],13,rfl,.inl ⟨λσ hs=>q3 rfl σ ⟨Dv σ,hs⟩,rfl,rfl⟩⟩
   |true=>
    obtain⟨s1,s2,s3⟩:=q2 rfl;obtain⟨out,e,p1,p2⟩:=Ga s1 s2;refine⟨out,e,p1,p2.congr λσ=>?_⟩;rw[s3 σ];exact⟨λh=>h.2,λh=>⟨Dv σ,h⟩⟩
  .simp only[if_neg hl];exact⟨[],9,rfl,rfl,rfl⟩
 .simp only[if_neg hr];exact⟨[],2,rfl,rfl,rfl⟩
end Go.CK
namespace Go.CK
open Go.AM Go.Proofs
def Nd.avr(x:Nd):AV:=.agg [.int .i64 x.t.kind,.int .i64 x.t.num,.str x.t.name,.sl .no (x.kids.map bG)]
def rbs(l:List Nd)(c:List Nat)(cap:Nat):List Box:=[.cells [.sl (.own 4) (l.map Nd.avr),.bsl 1 c.length cap],aL bG 1 cap c]
abbrev Rg.bs(g:Rg)(cap:Nat):List Box:=rbs g.nodes g.cls cap
def oiN(o:Option Nat):Int:=match o with
 |none=>-1
 |some k=>k
theorem Ks{g:Rg}{c j i:Nat}{x:Nd}(hx:g.nodes[j]? =some x)(hi:g.cls[j]? =some i):g.isS c j=(decide (i=c)&&decide (¬x.t.kind=1)):=by
 unfold Rg.isS;rw[hx,hi];simp
theorem pJ{g:Rg}{c cap:Nat}(hcap:g.cls.length<=cap)(hl:g.cls.length=g.nodes.length)(hn:g.nodes.length<=4000000000):AM.Sem Tryz.prog 154 [.ptr 0 0,.int .i64 (c:Int)] (g.bs cap) λr bs'=>r=.int .i64 (oiN (g.shape c))/\bs'=g.bs cap:=by
 refine ei (by simp) ?_
 conv=>whnf
 skip;refine aw.by (fb:=true) (λ_ (j:Nat)=>⟨[(0,.ptr 0 0),(1,.int .i64 (c:Int)),(5,.int .i64 (j:Int))],g.bs cap,2⟩) (λj=>j<=g.nodes.length/\∀i,i<j->g.isS c i=false) (λj=>g.nodes.length-j) 0 ⟨ZJ _,λi h=>by omega⟩ ?_ ?_
 .exact au
 .rintro j ⟨q1,q2⟩
  by_cases hj:j<g.nodes.length
  .obtain ⟨x,hx⟩:∃x,g.nodes[j]? =some x:=⟨_,ZA hj⟩;obtain⟨i,hi⟩:∃i,g.cls[j]? =some i:=⟨_,ZA (by omega)⟩
   have hs:=Ks (c:=c) hx hi
   have hno:¬(i=c/\¬x.t.kind=1)->∀k,k<j+1->g.isS c k=false:=λh k hk=>by
    by_cases e:k=j
    .subst e;rw[hs];simpa using h
    .exact q2 k (by omega)
   by_cases h1:i=c<;>by_cases h2:x.t.kind=1
   .have h1':(i:Int)=(c:Int):=by omega
    conv=>whnf
    repeat' (first|(refine gC ?_;first|refine .not ?_|refine gD (cI ?_))|refine gW (wI ?_)|refine gL (.map ?_)|refine gN (nS ?_)|refine gI (gM (iE ?_))|(refine gE ?_;refine eLn ?_))<;>conv=>whnf
    refine⟨j+1,⟨⟨hj,hno (λe=>e.2 h2)⟩,by omega⟩,?_⟩
    exact au
   .have h1':(i:Int)=(c:Int):=by omega
    have he:g.shape c=some j:=xM hj (by rw[hs,h1,decide_eq_true rfl,decide_eq_true h2];rfl) q2
    conv=>whnf
    repeat' (first|(refine gC ?_;first|refine .not ?_|(refine gD ?_;first|refine cI ?_|refine cJ ?_))|refine gL (.map ?_)|refine gN (nS ?_)|refine gI (gM (iE ?_))|(refine gE ?_;refine eLn ?_)|refine af.nrm ?_)<;>conv=>whnf
    rw[he];exact⟨rfl,rfl⟩
   .have h1':¬(i:Int)=(c:Int):=by omega
    conv=>whnf
    repeat' (first|(refine gC ?_;first|refine cN ?_|(refine gD ?_;first|refine cI ?_|refine cJ ?_))|refine gW (wI ?_)|refine gL (.map ?_)|refine gN (nS ?_)|(refine gE ?_;refine eLn ?_))<;>conv=>whnf
    refine⟨j+1,⟨⟨hj,hno (λe=>h1 e.1)⟩,by omega⟩,?_⟩
    exact au
   .have h1':¬(i:Int)=(c:Int):=by omega
    conv=>whnf
    repeat' (first|(refine gC ?_;first|refine cN ?_|(refine gD ?_;first|refine cI ?_|refine cJ ?_))|refine gW (wI ?_)|refine gL (.map ?_)|refine gN (nS ?_)|(refine gE ?_;refine eLn ?_))<;>conv=>whnf
    refine⟨j+1,⟨⟨hj,hno (λe=>h1 e.1)⟩,by omega⟩,?_⟩
    exact au
  .obtain rfl:j=g.nodes.length:=by omega
   have he:g.shape c=none:=fC.2 q2
   conv=>whnf
   repeat' (first|refine gC (gD (cJ ?_))|refine gL (.map ?_)|refine af.nrm ?_)<;>conv=>whnf
   rw[he];exact⟨rfl,rfl⟩
theorem DI{g:Rg}{c cap:Nat}(hcap:g.cls.length<=cap)(hl:g.cls.length=g.nodes.length)(hn:g.nodes.length<=4000000000)(hpos:∀(i:Nat) (x:Nd),g.nodes[i]? =some x->x.t.kind=1->0<=x.t.num):AM.Sem Tryz.prog 155 [.ptr 0 0,.int .i64 (c:Int)] (g.bs cap) λr bs'=>r=.int .i64 (oiI (g.le c))/\bs'=g.bs cap:=by
 have hle:∀n w,g.leN c n=some w->0<=w:=by
  intro n
  induction n with
  |zero=>intro w h;cases h
  |succ n ih=>
   intro w h;rw[Rg.leN] at h;split at h
   .exact ih w h
   .rename_i x hx;split at h
    .rename_i hc;have:=hpos n x hx hc.2
     cases hl0:g.leN c n with
     |none=>rw[hl0] at h;cases h;exact this
     |some w0=>
      have:=ih w0 hl0;rw[hl0,sg] at h;split at h<;>(cases h;omega)
    .exact ih w h
 refine ej (by simp) ?_
 conv=>whnf
 skip;refine aw.by (fb:=true) (λ_ (j:Nat)=>⟨[(0,.ptr 0 0),(1,.int .i64 (c:Int)),(5,.int .i64 (oiI (g.leN c j))),(6,.int .i64 (j:Int))],g.bs cap,2⟩) (λj=>j<=g.nodes.length) (λj=>g.nodes.length-j) 0 (ZJ _) ?_ ?_
 .rw [show oiI (g.leN c 0)=-1 from rfl];exact au
 .rintro j q1
  by_cases hj:j<g.nodes.length
  .obtain ⟨x,hx⟩:∃x,g.nodes[j]? =some x:=⟨_,ZA hj⟩;obtain⟨i,hi⟩:∃i,g.cls[j]? =some i:=⟨_,ZA (by omega)⟩
   have hstep:g.leN c (j+1)=if i=c/\x.t.kind=1 then sg x.t.num (g.leN c j) else g.leN c j:=by
    rw[Rg.leN,hx];simp only[hi,ZN]
   cases hl0:g.leN c j with
   |none=>
    rw[show oiI (none:Option Int)=-1 from rfl];rw[hl0] at hstep
    by_cases h1:i=c
    .have h1':(i:Int)=(c:Int):=by omega
     by_cases h2:x.t.kind=1
     .rw [if_pos ⟨h1,h2⟩] at hstep;have hst:oiI (g.leN c (j+1))=x.t.num:=by rw[hstep];rfl
      conv=>whnf
      repeat' (first|(refine gC ?_;first|refine cY ?_|refine gD (cI ?_))|refine gW (wI ?_)|refine gL (.map ?_)|refine gN (nS ?_)|refine gI (gM (iE ?_))|(refine gE ?_;refine eLn ?_))<;>conv=>whnf
      refine⟨j+1,⟨hj,by omega⟩,?_⟩
      rw[hst];exact au
     .rw [if_neg (λe=>h2 e.2)] at hstep;have hst:oiI (g.leN c (j+1))=-1:=by rw[hstep];rfl
      conv=>whnf
      repeat' (first|(refine gC ?_;first|refine cN ?_|(refine gD ?_;first|refine cI ?_|refine cJ ?_))|refine gW (wI ?_)|refine gL (.map ?_)|refine gN (nS ?_)|refine gI (gM (iE ?_))|(refine gE ?_;refine eLn ?_))<;>conv=>whnf
      refine⟨j+1,⟨hj,by omega⟩,?_⟩
      rw[hst];exact au
    .have h1':¬(i:Int)=(c:Int):=by omega
     rw[if_neg (λe=>h1 e.1)] at hstep;have hst:oiI (g.leN c (j+1))=-1:=by rw[hstep];rfl
     conv=>whnf
     repeat' (first|(refine gC ?_;first|refine cN ?_|(refine gD ?_;first|refine cI ?_|refine cJ ?_))|refine gW (wI ?_)|refine gL (.map ?_)|refine gN (nS ?_)|(refine gE ?_;refine eLn ?_))<;>conv=>whnf
     refine⟨j+1,⟨hj,by omega⟩,?_⟩
     rw[hst]
     exact au
   |some w=>
    rw[show oiI (some w)=w from rfl];rw[hl0] at hstep;have hw:=hle j w hl0
    by_cases h1:i=c
    .have h1':(i:Int)=(c:Int):=by omega
     by_cases h2:x.t.kind=1
     .rw [if_pos ⟨h1,h2⟩] at hstep
      by_cases h3:x.t.num<w
      .have hst:oiI (g.leN c (j+1))=x.t.num:=by rw[hstep,sg,if_pos h3];rfl
       conv=>whnf
       repeat' (first|(refine gC ?_;(refine gD ?_;first|refine cI ?_|refine cJ ?_))|refine gW (wI ?_)|refine gL (.map ?_)|refine gN (nS ?_)|refine gI (gM (iE ?_))|(refine gE ?_;refine eLn ?_))<;>conv=>whnf
       refine⟨j+1,⟨hj,by omega⟩,?_⟩
       rw[hst];exact au
      .have hst:oiI (g.leN c (j+1))=w:=by rw[hstep,sg,if_neg h3];rfl
       conv=>whnf
       repeat' (first|(refine gC ?_;(refine gD ?_;first|refine cI ?_|refine cJ ?_))|refine gW (wI ?_)|refine gL (.map ?_)|refine gN (nS ?_)|refine gI (gM (iE ?_))|(refine gE ?_;refine eLn ?_))<;>conv=>whnf
       refine⟨j+1,⟨hj,by omega⟩,?_⟩
       rw[hst];exact au
     .rw [if_neg (λe=>h2 e.2)] at hstep;have hst:oiI (g.leN c (j+1))=w:=by rw[hstep];rfl
      conv=>whnf
      repeat' (first|(refine gC ?_;first|refine cN ?_|(refine gD ?_;first|refine cI ?_|refine cJ ?_))|refine gW (wI ?_)|refine gL (.map ?_)|refine gN (nS ?_)|refine gI (gM (iE ?_))|(refine gE ?_;refine eLn ?_))<;>conv=>whnf
      refine⟨j+1,⟨hj,by omega⟩,?_⟩
      rw[hst];exact au
    .have h1':¬(i:Int)=(c:Int):=by omega
     rw[if_neg (λe=>h1 e.1)] at hstep;have hst:oiI (g.leN c (j+1))=w:=by rw[hstep];rfl
     conv=>whnf
     repeat' (first|(refine gC ?_;first|refine cN ?_|(refine gD ?_;first|refine cI ?_|refine cJ ?_))|refine gW (wI ?_)|refine gL (.map ?_)|refine gN (nS ?_)|(refine gE ?_;refine eLn ?_))<;>conv=>whnf
     refine⟨j+1,⟨hj,by omega⟩,?_⟩
     rw[hst];exact au
  .obtain rfl:j=g.nodes.length:=by omega
   conv=>whnf
   repeat' (first|refine gC (gD (cJ ?_))|refine gL (.map ?_)|refine af.nrm ?_)<;>conv=>whnf
   exact⟨rfl,rfl⟩
end Go.CK
namespace Go.CK
open Go.AM Go.Proofs
def Rg.bs2(g:Rg)(cap:Nat):List Box:=[.cells [.sl (.own 4) (g.nodes.map Nd.avr),.bsl 2 g.cls.length cap],.dead,aL bG 1 cap g.cls]
def JG(g:Rg)(cap:Nat)(t:Tm)(x y:Box)(kd:AV):List Box:=[.cells [.sl (.own 4) (g.nodes.map Nd.avr),.bsl 4 g.cls.length cap],.dead,.cells [.int .i64 t.kind,.int .i64 t.num,.str t.name,.sl .no (t.args.map Tm.av)],.cells [.int .i64 t.kind,.int .i64 t.num,.str t.name,kd],x,y]
def oC(g:Rg)(t:Tm)(j cap kc:Nat):St:=⟨[(0,.ptr 0 0),(3,.ptr 2 0),(6,.ptr 3 0),(7,.int .i64 (j:Int))],
 if j<t.args.length then JG (bj g (t.args.take j)).1 cap t (aL bG 1 cap (bj g (t.args.take j)).1.cls) (aL bG 1 kc (bj g (t.args.take j)).2) (.bsl 5 (bj g (t.args.take j)).2.length kc)
 else JG (bj g t.args).1 cap t (aL bG 1 cap (bj g t.args).1.cls) .dead (.sl .no ((bj g t.args).2.map bG)),2⟩
def lW(g:Rg)(t:Tm)(r:AV)(bs':List Box):Prop:=r=.int .i64 ((bw g t).2:Int)/\∃cap',(bw g t).1.cls.length<=cap'/\bs'=(bw g t).1.bs2 cap'
theorem Ba{g:Rg}{t:Tm}{l:List Nat}{k:Nat}:(jX g t l).bs2 k=[.cells [.sl (.own 4) (g.nodes.map Nd.avr++[Nd.avr ⟨t,l⟩]),.bsl 2 (g.cls++[g.nodes.length]).length k],.dead,aL bG 1 k (g.cls++[g.nodes.length])]:=by
 simp only[jX,Rg.bs2,Zt,ZP,Yd]
set_option maxHeartbeats 2000000 in
theorem DY(t:Tm):t.Vok->∀(g:Rg) (cap:Nat),g.cls.length<=cap->g.nodes.length+t.nodes<=4000000000->g.cls.length+t.nodes<=4000000000->AM.Sem Tryz.prog 151 [.ptr 0 0,t.avw] (g.bs cap) (lW g t):=by
 induction t using Tm.bD with
 |h k n s l ih=>
 intro hv g cap hcap hn hu;generalize ha:Tm.mk k n s l=t at hv hn hu|-;replace ih:∀x∈t.args,x.Vok->∀(g:Rg) (cap:Nat),g.cls.length<=cap->g.nodes.length+x.nodes<=4000000000->g.cls.length+x.nodes<=4000000000->AM.Sem Tryz.prog 151 [.ptr 0 0,x.avw] (g.bs cap) (lW g x):=by subst ha;exact ih
 have hnl:Tm.ai t.args+1<=t.nodes:=by subst ha;simp only[Tm.nodes,Tm.args];omega
 clear ha;refine en (by simp) ?_
 by_cases hk1:t.kind=1
 .conv=>whnf
  repeat' refine gC (gD (cI ?_))<;>conv=>whnf
  refine aw.by (fb:=true) (λ_ (j:Nat)=>⟨[(0,.ptr 0 0),(3,.ptr 2 0),(5,.int .i64 (j:Int))],g.bs cap++[.cells [.int .i64 t.kind,.int .i64 t.num,.str t.name,.sl .no (t.args.map Tm.av)]],2⟩) (λj=>j<=g.nodes.length/\∀i,i<j->g.isV t.num i=false) (λj=>g.nodes.length-j) 0 ⟨ZJ _,λi h=>by omega⟩ ?_ ?_
  .exact au
  .rintro j ⟨q1,q2⟩
   by_cases hj:j<g.nodes.length
   .obtain ⟨x,hx⟩:∃x,g.nodes[j]? =some x:=⟨_,ZA hj⟩;have hs:g.isV t.num j=(decide (x.t.kind=1)&&decide (x.t.num=t.num)):=by unfold Rg.isV;rw[hx]
    have hno:¬(x.t.kind=1/\x.t.num=t.num)->∀k,k<j+1->g.isV t.num k=false:=λh k hk=>by
     by_cases e:k=j
     .subst e;rw[hs];simpa using h
     .exact q2 k (by omega)
    by_cases h1:x.t.kind=1<;>by_cases h2:x.t.num=t.num
    .have he:=xM hj (by rw[hs,decide_eq_true h1,decide_eq_true h2];rfl) q2
     conv=>whnf
     repeat' (first|refine gC (gD (cI ?_))|refine gL (.map ?_)|refine gI (gM (iE ?_)))<;>conv=>whnf
     refine af.lay [some 0,none,some 1] oko ?_
     conv=>whnf
     repeat' refine af.nrm ?_<;>conv=>whnf
     rw[A9 hk1 he];exact⟨rfl,cap,hcap,rfl⟩
    all_goals
     conv=>whnf
     repeat' (first|(refine gC ?_;first|refine cN ?_|(refine gD ?_;first|refine cI ?_|refine cJ ?_))|refine gW (wI ?_)|refine gL (.map ?_)|refine gI (gM (iE ?_)))<;>conv=>whnf
     refine⟨j+1,⟨⟨hj,hno (λe=>by first|exact h1 e.1|exact h2 e.2)⟩,by omega⟩,?_⟩
     exact au
   .obtain rfl:j=g.nodes.length:=by omega
    have hnew:t.kind=1->cA (g.isV t.num) g.nodes.length=none:=λ_=>fC.2 q2
    conv=>whnf
    repeat' (first|refine gC (gD (cJ ?_))|refine gL (.map ?_))<;>conv=>whnf
    rw[show lW g t=λr bs'=>r=.int .i64 ((bj g t.args).1.nodes.length:Int)/\∃cap',(bj g t.args).1.cls.length+1<=cap'/\bs'=(jX (bj g t.args).1 t (bj g t.args).2).bs2 cap' by funext r bs';rw[lW,uW hnew];simp only[jX,ZC,ZU]]
    refine aw.by (fb:=true) (λ_ (q:Nat×Nat×Nat)=>oC g t q.1 q.2.1 q.2.2) (λq=>q.1<=t.args.length/\(bj g (t.args.take q.1)).1.cls.length<=q.2.1/\(bj g (t.args.take q.1)).2.length<=q.2.2) (λq=>t.args.length-q.1) (0,cap,0) ⟨ZJ _,by rw[YJ,bj];exact hcap,by rw[YJ,bj];exact ZJ _⟩ ?_ ?_
    .dsimp only;rw[oC]
     by_cases h0:0<t.args.length
     .rw [if_pos h0,YJ,bj];dsimp only;refine ah.cx (.bx 3 3) rfl rfl ?_
      conv=>whnf
      refine ah.lay [some 0,none,some 2,some 3,some 1,some 4] oko ?_
      conv=>whnf
      refine ah.at_ ?_ rfl
      conv=>whnf
      refine And.intro ?_ ?_<;>conv=>whnf
      all_goals repeat' (first|(refine gV ?_;first|refine vE ?_|refine vI ?_)|(refine gX ?_;first|refine xB ?_|(refine BxN.mk ?_ ?_;(focus (simp[AV.norm,AV.aD,cellsOf];done))))|exact True.intro)<;>conv=>whnf
     .have he:t.args=[]:=ZL (by omega)
      rw[if_neg h0,he,bj];dsimp only;refine ah.cx (.bx 3 3) rfl rfl ?_
      conv=>whnf
      refine ah.bY mW 3 3 (b:=4) (m:=0) (k:=0) (k0:=0) (l:=[]) rfl rfl rfl (ZG _) ?_
      conv=>whnf
      refine ah.lay [some 0,none,some 2,some 3,some 1,none] oko ?_
      conv=>whnf
      refine ah.at_ ?_ rfl
      conv=>whnf
      refine And.intro ?_ ?_<;>conv=>whnf
      all_goals repeat' (first|(refine gV ?_;first|refine vE ?_|refine vI ?_)|(refine gX ?_;first|refine xB ?_|(refine BxN.mk ?_ ?_;(focus (simp[AV.norm,AV.aD,he];done))))|exact True.intro)<;>conv=>whnf
    .rintro ⟨j,cj,kc⟩ ⟨q1,q2,q3⟩;dsimp only at q1 q2 q3|-
     by_cases hj:j<t.args.length
     .obtain ⟨x,hx⟩:∃x,t.args[j]? =some x:=⟨_,ZA hj⟩;have htk:t.args.take (j+1)=t.args.take j++[x]:=by rw[Zz,hx];rfl
      have hs:=rK g (t.args.take j) x;rw[<-htk] at hs;have hl:=kV g (t.args.take j);have hlx:=bI t.args hx;have hxs:=ih x (ZE hx) (hv.kids (ZE hx));have hkj:=rL g (t.args.take j);rw[Zn,XS (by omega)] at hkj
      have hlj:=bF t.args;rw[oC,if_pos hj];generalize bj g (t.args.take j)=a at hs hl hkj q2 q3|-;obtain⟨ga,ka⟩:=a;dsimp only at hs hl hkj q2 q3|-
      conv=>whnf
      repeat' (first|refine gC (gD (cI ?_))|refine gL (.map ?_)|refine gI (gT (iA ?_)))<;>conv=>whnf
      refine ab.at [0,4] (hxs ga cj q2 (by omega) (by omega)) rfl rfl ?_ oko ?_
      .rintro r bs' ⟨rfl,cp,hcp,rfl⟩;exact⟨rfl,rfl,oko⟩
      rintro r bs' ⟨rfl,cp,hcp,rfl⟩;generalize bw ga x=b at hs hcp|-;obtain⟨gb,kb⟩:=b;dsimp only at hs hcp|-
      conv=>whnf
      repeat' (first|refine gW (wI ?_)|(refine gP ?_;refine aOn λk hk=>?_)|refine gPr (pS ?_))<;>conv=>whnf
      refine⟨(j+1,cp,k),⟨⟨hj,by dsimp only;rw[hs];exact hcp,by dsimp only;rw[hs];exact hk⟩,by show _-(j+1)<_-j;omega⟩,?_⟩
      dsimp only;rw[oC]
      by_cases hj1:j+1<t.args.length
      .rw [if_pos hj1,hs];dsimp only;refine ah.lay [some 0,none,some 2,some 3,some 6,some 7] oko ?_
       conv=>whnf
       exact au
      .rw [Zl (by omega)] at hs
       rw[if_neg hj1,hs];dsimp only;refine ah.bY mW 3 3 (b:=7) (l:=ka++[kb]) rfl rfl rfl (ZG _) ?_;rw[Zw]
       conv=>whnf
       refine ah.lay [some 0,none,some 2,some 3,some 6,none] oko ?_
       conv=>whnf
       exact au
     .obtain rfl:j=t.args.length:=by omega
      have hl:=kV g t.args;rw[oC,if_neg hj];rw[Zl (ZG _)] at q2;generalize bj g t.args=a at hl q2|-;obtain⟨ga,ka⟩:=a;dsimp only at hl q2|-
      conv=>whnf
      repeat' (first|refine gC (gD (cJ ?_))|refine gW (wI ?_)|(refine gL ?_;first|refine .map ?_|refine .one ?_|refine .app ?_)|refine gN (nS ?_)|refine gPr (pS ?_))<;>conv=>whnf
      rw[Int.add_sub_cancel]
      conv=>whnf
      repeat' (first|refine gW (wI ?_)|(refine gL ?_;first|refine .map ?_|refine .one ?_|refine .app ?_)|(refine gP ?_;refine aOn λk hk=>?_)|refine gPr (pS ?_))<;>conv=>whnf
      refine af.lay [some 0,none,some 6] oko ?_
      conv=>whnf
      repeat' refine af.nrm ?_<;>conv=>whnf
      refine⟨by simp,k,by rw[ZC] at hk;exact hk,?_⟩
      rw[Ba];rfl
 .have hnew:t.kind=1->cA (g.isV t.num) g.nodes.length=none:=λh=>absurd h hk1
  conv=>whnf
  repeat' refine gC (gD (cJ ?_))<;>conv=>whnf
  rw[show lW g t=λr bs'=>r=.int .i64 ((bj g t.args).1.nodes.length:Int)/\∃cap',(bj g t.args).1.cls.length+1<=cap'/\bs'=(jX (bj g t.args).1 t (bj g t.args).2).bs2 cap' by funext r bs';rw[lW,uW hnew];simp only[jX,ZC,ZU]]
  refine aw.by (fb:=true) (λ_ (q:Nat×Nat×Nat)=>oC g t q.1 q.2.1 q.2.2) (λq=>q.1<=t.args.length/\(bj g (t.args.take q.1)).1.cls.length<=q.2.1/\(bj g (t.args.take q.1)).2.length<=q.2.2) (λq=>t.args.length-q.1) (0,cap,0) ⟨ZJ _,by rw[YJ,bj];exact hcap,by rw[YJ,bj];exact ZJ _⟩ ?_ ?_
  .dsimp only;rw[oC]
   by_cases h0:0<t.args.length
   .rw [if_pos h0,YJ,bj];dsimp only;refine ah.cx (.bx 3 3) rfl rfl ?_
    conv=>whnf
    refine ah.lay [some 0,none,some 2,some 3,some 1,some 4] oko ?_
    conv=>whnf
    refine ah.at_ ?_ rfl
    conv=>whnf
    refine And.intro ?_ ?_<;>conv=>whnf
    all_goals repeat' (first|(refine gV ?_;first|refine vE ?_|refine vI ?_)|(refine gX ?_;first|refine xB ?_|(refine BxN.mk ?_ ?_;(focus (simp[AV.norm,AV.aD,cellsOf];done))))|exact True.intro)<;>conv=>whnf
   .have he:t.args=[]:=ZL (by omega)
    rw[if_neg h0,he,bj];dsimp only;refine ah.cx (.bx 3 3) rfl rfl ?_
    conv=>whnf
    refine ah.bY mW 3 3 (b:=4) (m:=0) (k:=0) (k0:=0) (l:=[]) rfl rfl rfl (ZG _) ?_
    conv=>whnf
    refine ah.lay [some 0,none,some 2,some 3,some 1,none] oko ?_
    conv=>whnf
    refine ah.at_ ?_ rfl
    conv=>whnf
    refine And.intro ?_ ?_<;>conv=>whnf
    all_goals repeat' (first|(refine gV ?_;first|refine vE ?_|refine vI ?_)|(refine gX ?_;first|refine xB ?_|(refine BxN.mk ?_ ?_;(focus (simp[AV.norm,AV.aD,he];done))))|exact True.intro)<;>conv=>whnf
  .rintro ⟨j,cj,kc⟩ ⟨q1,q2,q3⟩;dsimp only at q1 q2 q3|-
   by_cases hj:j<t.args.length
   .obtain ⟨x,hx⟩:∃x,t.args[j]? =some x:=⟨_,ZA hj⟩;have htk:t.args.take (j+1)=t.args.take j++[x]:=by rw[Zz,hx];rfl
    have hs:=rK g (t.args.take j) x;rw[<-htk] at hs;have hl:=kV g (t.args.take j);have hlx:=bI t.args hx;have hxs:=ih x (ZE hx) (hv.kids (ZE hx));have hkj:=rL g (t.args.take j);rw[Zn,XS (by omega)] at hkj
    have hlj:=bF t.args;rw[oC,if_pos hj];generalize bj g (t.args.take j)=a at hs hl hkj q2 q3|-;obtain⟨ga,ka⟩:=a;dsimp only at hs hl hkj q2 q3|-
    conv=>whnf
    repeat' (first|refine gC (gD (cI ?_))|refine gL (.map ?_)|refine gI (gT (iA ?_)))<;>conv=>whnf
    refine ab.at [0,4] (hxs ga cj q2 (by omega) (by omega)) rfl rfl ?_ oko ?_
    .rintro r bs' ⟨rfl,cp,hcp,rfl⟩;exact⟨rfl,rfl,oko⟩
    rintro r bs' ⟨rfl,cp,hcp,rfl⟩;generalize bw ga x=b at hs hcp|-;obtain⟨gb,kb⟩:=b;dsimp only at hs hcp|-
    conv=>whnf
    repeat' (first|refine gW (wI ?_)|(refine gP ?_;refine aOn λk hk=>?_)|refine gPr (pS ?_))<;>conv=>whnf
    refine⟨(j+1,cp,k),⟨⟨hj,by dsimp only;rw[hs];exact hcp,by dsimp only;rw[hs];exact hk⟩,by show _-(j+1)<_-j;omega⟩,?_⟩
    dsimp only;rw[oC]
    by_cases hj1:j+1<t.args.length
    .rw [if_pos hj1,hs];dsimp only;refine ah.lay [some 0,none,some 2,some 3,some 6,some 7] oko ?_
     conv=>whnf
     exact au
    .rw [Zl (by omega)] at hs
     rw[if_neg hj1,hs];dsimp only;refine ah.bY mW 3 3 (b:=7) (l:=ka++[kb]) rfl rfl rfl (ZG _) ?_;rw[Zw]
     conv=>whnf
     refine ah.lay [some 0,none,some 2,some 3,some 6,none] oko ?_
     conv=>whnf
     exact au
   .obtain rfl:j=t.args.length:=by omega
    have hl:=kV g t.args;rw[oC,if_neg hj];rw[Zl (ZG _)] at q2;generalize bj g t.args=a at hl q2|-;obtain⟨ga,ka⟩:=a;dsimp only at hl q2|-
    conv=>whnf
    repeat' (first|refine gC (gD (cJ ?_))|refine gW (wI ?_)|(refine gL ?_;first|refine .map ?_|refine .one ?_|refine .app ?_)|refine gN (nS ?_)|refine gPr (pS ?_))<;>conv=>whnf
    rw[Int.add_sub_cancel]
    conv=>whnf
    repeat' (first|refine gW (wI ?_)|(refine gL ?_;first|refine .map ?_|refine .one ?_|refine .app ?_)|(refine gP ?_;refine aOn λk hk=>?_)|refine gPr (pS ?_))<;>conv=>whnf
    refine af.lay [some 0,none,some 6] oko ?_
    conv=>whnf
    repeat' refine af.nrm ?_<;>conv=>whnf
    refine⟨by simp,k,by rw[ZC] at hk;exact hk,?_⟩
    rw[Ba];rfl
end Go.CK
