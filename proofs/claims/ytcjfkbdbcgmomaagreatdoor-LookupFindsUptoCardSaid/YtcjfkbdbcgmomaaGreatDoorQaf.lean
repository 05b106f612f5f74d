/-
  By an AI agent.
-/
import Derived.Test.YtcjfkbdbcgmomaaGreatDoorQae
import Derived.Laws.StructEq
import Derived.Laws.BytesString
set_option linter.unusedSimpArgs false
set_option linter.unusedVariables false
namespace Go.AM
open Go.CK Go.RowKit
inductive FK where
 |b
 |i
 |s
deriving DecidableEq
def OV(P:Program)(t:TypeId):Option FK:=match P.underlying t with
 |some .bool=>some .b
 |some (.int _)=>some .i
 |some .string=>some .s
 |_=>none
def Di(P:Program):Nat->List Field->Option (List FK)
 |_,[]=>some []
 | k, f :: fs => match f.name != "_", Nat.beq f.offset k, OV P f.type, Di P (k + 1) fs with
  |true,true,some x,some xs=>some (x::xs)
  |_,_,_,_=>none
def mW:List FK->List AV->List AV->Option Bool
 |[],[],[]=>some true
 |.i::a,.int k x::r,.int k' y::r'=>match decide (k=k'),mW a r r' with
  |true,some b=>some (decide (x=y)&&b)
  |_,_=>none
 |.b::a,.bool x::r,.bool y::r'=>match mW a r r' with
  |some b=>some (decide (x=y)&&b)
  |none=>none
 |.s::a,.str x::r,.str y::r'=>match mW a r r' with
  |some b=>some (decide (x=y)&&b)
  |none=>none
 |_,_,_=>none
inductive mD where
 |eqA (neg:Bool) (ks:List FK)
 |eqB (neg:Bool)
 |eqF (neg:Bool)
 |eqP (neg:Bool)
 |cap
 |see
 |bts
 |lde (agg:Bool) (n:Nat)
deriving Inhabited
inductive O7 where
 |ok (x:AV)
 |need (p:Prop) (x:AV)
def bY(neg b:Bool):Bool:=match neg with
 |true=>!b
 |false=>b
def vu:List AV->Option (List Int)
 |[]=>some []
 |.int .u8 n::r=>match vu r with
  |some l=>some (n::l)
  |none=>none
 |_=>none
def strOf(a:List Int):ByteArray:=a.foldl (λr n=>r.push (UInt8.ofNat n.toNat)) ByteArray.empty
def OT(agg:Bool)(n:Nat)(cs:List AV):Option O7:=
 match agg with
 |true=>match Nat.ble n cs.length with
  |true=>some (.ok (.agg (cs.take n)))
  |false=>none
 |false=>match cs with
  |c::_=>some (.ok c)
  |[]=>none
def mD.val:mD->List AV->Option O7
 |.eqA neg d,[.agg xs,.agg ys]=>match mW d xs ys with
  |some b=>match neg with
   |true=>some (.ok (.bool (!b)))
   |false=>some (.ok (.bool b))
  |none=>none
 |.eqB neg,[.bool a,.bool b]=>match neg with
  |true=>some (.ok (.bool (!decide (a=b))))
  |false=>some (.ok (.bool (decide (a=b))))
 |.eqF neg,[.fn _ _ _,.nfn]=>match neg with
  |true=>some (.ok (.bool true))
  |false=>some (.ok (.bool false))
 |.eqF neg,[.nfn,.nfn]=>match neg with
  |true=>some (.ok (.bool false))
  |false=>some (.ok (.bool true))
 |.eqP neg,[.ptr _ _,.kB]=>match neg with
  |true=>some (.ok (.bool true))
  |false=>some (.ok (.bool false))
 |.eqP neg,[.kB,.kB]=>match neg with
  |true=>some (.ok (.bool false))
  |false=>some (.ok (.bool true))
 |.cap,[.bsl _ _ k]=>some (.ok (.int .i64 k))
 |.cap,[.sl .full l]=>some (.ok (.int .i64 l.length))
 |.see,[x]=>some (.ok x)
 |.bts,[.sl _ l]=>match vu l with
  |some c=>some (.ok (.str (strOf c)))
  |none=>none
 |.lde agg n,[.ept cs]=>OT agg n cs
 |_,_=>none
def di(g:mD)(ab:List AV)(K:AV->Prop):Prop:=
 match g.val ab with
 |some (.ok r)=>K r
 |some (.need p r)=>p/\K r
 |none=>False
theorem EV{g:mD}{ab:List AV}{K K':AV->Prop}(hk:∀x,K x->K' x)(h:di g ab K):di g ab K':=by
 unfold di at h|-;split at h<;>first|exact hk _ h|exact⟨h.1,hk _ h.2⟩|exact h
theorem nF{g:mD}{ab:List AV}{K:AV->Prop}(h:di g ab K):∃r,di g ab (λx=>x=r)/\K r:=by
 unfold di at h|-;split at h<;>first|exact⟨_,rfl,h⟩|exact⟨_,⟨h.1,rfl⟩,h.2⟩|exact h.elim
theorem qS{P:Program}{M:Hp}{σ:Nat->Nat}{n:Nat}{xs ys:Array Value}{d:Nat}(w:World):∀(fs:List Field) (k:Nat) (ks:List FK) (as bs:List AV) (b:Bool),Di P k fs=some ks->mW ks as bs=some b->
  (∀j (h:j<as.length) v,xs[k+j]? =some v->RV M σ n as[j] v)->(∀j (h:j<bs.length) v,ys[k+j]? =some v->RV M σ n bs[j] v)->xs.size=k+as.length->ys.size=k+bs.length->
  (Op.eqFields (d+1) xs ys fs).run P w=.ok b w
 |[],k,ks,as,bs,b,hf,he,hx,hy,sx,sy=>by
  simp only[Di,zN] at hf;subst hf;cases as<;>cases bs<;>simp[mW] at he;subst he
  simp[Op.eqFields]
 |f::fs,k,ks,as,bs,b,hf,he,hx,hy,sx,sy=>by
  simp only[Di] at hf;split at hf
  ·rename_i x xs' h1 h2 h3 h4; cases hf; have h2 := Nat.eq_of_beq_eq_true h2; have hn : f.name ≠ "_" := by simpa using h1
   have go:∀(va vb:Value) (a0 b0:AV) (ar br:List AV) (e b':Bool),as=a0::ar->bs=b0::br->P.plainKey f.type=true->(∀v,RV M σ n a0 v->v=va)->(∀v,RV M σ n b0 v->v=vb)->(Op.equalIn (d+1) f.type va vb).run P w=.ok e w->mW xs' ar br=some b'->b=(e&&b')->(Op.eqFields (d+1) xs ys (f::fs)).run P w=.ok b w:=λva vb a0 b0 ar br e b' ea eb hp ha hb he' hr hbb=>by
    subst ea eb;simp only[zX] at sx sy;obtain⟨u,hu⟩:∃u,xs[k]? =some u:=⟨_,zi (by omega)⟩
    obtain⟨v,hv⟩:∃v,ys[k]? =some v:=⟨_,zi (by omega)⟩
    have e1:=ha u (hx 0 (by simp) u (by simpa using hu))
    have e2:=hb v (hy 0 (by simp) v (by simpa using hv))
    subst e1 e2;have p1:=run_part_plain (P:=P) w hp (xs:=xs) (off:=f.offset) (v:=u) (by rw[h2];exact hu)
    have p2:=run_part_plain (P:=P) w hp (xs:=ys) (off:=f.offset) (v:=v) (by rw[h2];exact hv)
    have ih:=qS (d:=d) w fs (k+1) xs' ar br b' h4 hr (λj hj z hz=>by
     have:=hx (j+1) (by simpa using hj) z (by rw[show k+(j+1)=k+1+j by omega];exact hz)
     simpa using this) (λj hj z hz=>by
     have:=hy (j+1) (by simpa using hj) z (by rw[show k+(j+1)=k+1+j by omega];exact hz)
     simpa using this) (by omega) (by omega)
    simp only[Op.eqFields,if_pos hn,yW,p1,p2,he',yV];subst hbb;cases e
    .simp
    .simpa using ih
   have hk3:=h3;unfold OV at h3;split at h3<;>cases h3
   .rename_i hu;have hp:P.plainKey f.type=true:=by simp[Program.plainKey,hu]
    cases as with
    |nil=>cases bs<;>simp[mW] at he
    |cons a0 ar=>cases bs with
     |nil=>cases a0<;>simp[mW] at he
     |cons b0 br=>
      cases a0<;>cases b0<;>simp[mW] at he;rename_i p q;split at he
      .rename_i b' hb';cases he;exact go (.bool p) (.bool q) _ _ _ _ (p==q) b' rfl rfl hp (λv hv=>hv.cS) (λv hv=>hv.cS) (run_equalIn_bool' w d f.type p q hu) hb' (by cases p<;>cases q<;>rfl)
      .cases he
   .rename_i hu;have hp:P.plainKey f.type=true:=by simp[Program.plainKey,hu]
    cases as with
    |nil=>cases bs<;>simp[mW] at he
    |cons a0 ar=>cases bs with
     |nil=>cases a0<;>simp[mW] at he
     |cons b0 br=>
      cases a0<;>cases b0<;>simp[mW] at he;rename_i k1 p k2 q;split at he
      .rename_i b' hkk hb';cases he;have:=of_decide_eq_true hkk;subst this;exact go (.int k1 p) (.int k1 q) _ _ _ _ (p==q) b' rfl rfl hp (λv hv=>hv.aK) (λv hv=>hv.aK) (run_equalIn_int w d f.type k1 _ p q hu) hb' (by congr 1)
      .cases he
   .rename_i hu;have hp:P.plainKey f.type=true:=by simp[Program.plainKey,hu]
    cases as with
    |nil=>cases bs<;>simp[mW] at he
    |cons a0 ar=>cases bs with
     |nil=>cases a0<;>simp[mW] at he
     |cons b0 br=>
      cases a0<;>cases b0<;>simp[mW] at he;rename_i p q;split at he
      .rename_i b' hb';cases he;exact go (.string p) (.string q) _ _ _ _ (p.toList==q.toList) b' rfl rfl hp (λv hv=>hv.cK.1) (λv hv=>hv.cK.1) (run_equalIn_string w d f.type p q hu) hb' (by rw[tZ])
      .cases he
  .cases hf
def nT(P:Program)(t:TypeId):Option (List FK):=match P.underlying t with
 |some (.struct fs)=>match P.stoodInHeld t,P.eqGuardType P.depth t with
  |false,false=>Di P 0 fs.toList
  |_,_=>none
 |_=>none
section
variable{P:Program}{s:St}{o:Oper}{K:St->Prop}
theorem yi{t u:TypeId}{x y:Operand}{neg:Bool}(B:o.op=.binOp (if neg then .neq else .eql) t x y u){rx p:Opd}(O:opd x=some rx)(N:opd y=some p){k:List FK}(hk:nT P t=some k)
  (h:di (.eqA neg k) [s.ev rx,s.ev p] λr=>K (s.put o.dst r)):OpS P o s K:=by
 have R:∀c,o.op≠.defer c:=λc e=>by rw[B] at e;cases e
 obtain⟨r,i,S⟩:=nF h
 have l:∃xs ys b,s.ev rx=.agg xs/\s.ev p=.agg ys/\mW k xs ys=some b/\r=.bool (bY neg b):=by
  unfold di at i;cases z:s.ev rx<;>cases q:s.ev p<;>simp only[z,q,mD.val] at i;rename_i xs ys
  cases he:mW k xs ys with
  |none=>rw[he] at i;exact i.elim
  |some b=>
   rw[he] at i;refine⟨xs,ys,b,rfl,rfl,he,?_⟩;cases neg<;>exact i.symm
 obtain⟨xs,ys,b,ex,T,he,rfl⟩:=l;refine OpS.pure _ R S λE G a w hs=>⟨.bool (bY neg b),?_,.flat (.bool _)⟩;have F:=hs.ev O;have D:=hs.ev N;rw[ex] at F;rw[T] at D;obtain⟨us,hu,M,_,J⟩:=F.eD;obtain⟨vs,H,L,_,rv⟩:=D.eD;unfold nT at hk;split at hk
 .rename_i fs I;split at hk
  .rename_i A Q;have n:P.fieldsOf t=fs:=by simp[Program.fieldsOf,I]
   have f:(Op.equal t (.agg us.toArray) (.agg vs.toArray)).run P w=.ok b w:=by
    have:=run_equalIn_struct (P:=P) w 9999 t us.toArray vs.toArray (by rw[n];exact I) A
    unfold Op.equal;rw[show Op.maxDepth=9999+1 from rfl,this,n];exact qS (d:=9998) w fs.toList 0 k xs ys b hk he (λj C v g=>J j C v (by simpa using g)) (λj C v g=>rv j C v (by simpa using g)) (by simp[M]) (by simp[L])
   have m:∀op,(eqGuard op t x y (.agg us.toArray) (.agg vs.toArray)).run P w=.ok () w:=λop=>by
    unfold eqGuard;cases op<;>simp[Q]
   unfold execOp;cases neg
   .simp only[B,ZX,if_false,yW,hu,H,m,yV,binOp,f,bY,yX]
   .simp only[B,if_true,yW,hu,H,m,yV,binOp,f,bY,yX]
  .cases hk
 .cases hk
theorem yh{t u:TypeId}{x y:Operand}{neg:Bool}(n:o.op=.binOp (if neg then .neq else .eql) t x y u){rx f:Opd}(z:opd x=some rx)(v:opd y=some f)(A:P.underlying t=some .bool)
  (h:di (.eqB neg) [s.ev rx,s.ev f] λr=>K (s.put o.dst r)):OpS P o s K:=by
 have B:∀c,o.op≠.defer c:=λc e=>by rw[n] at e;cases e
 obtain⟨r,j,C⟩:=nF h
 have d:∃p q,s.ev rx=.bool p/\s.ev f=.bool q/\r=.bool (bY neg (decide (p=q))):=by
  unfold di at j;cases i:s.ev rx<;>cases g:s.ev f<;>simp only[i,g,mD.val] at j;rename_i p q;refine⟨p,q,rfl,rfl,?_⟩;cases neg<;>exact j.symm
 obtain⟨p,q,ex,D,rfl⟩:=d;refine OpS.pure _ B C λE G a w hs=>⟨.bool (bY neg (decide (p=q))),?_,.flat (.bool _)⟩;have m:=hs.ev z;have l:=hs.ev v;rw[ex] at m;rw[D] at l;have k:=m.cS;have F:=l.cS
 have b:(Op.equal t (.bool p) (.bool q)).run P w=.ok (decide (p=q)) w:=by
  rw[run_equal_bool w t p q A];congr 1
 rw[dk P _ o n w (by rw[k];simp) (by rw[k];simp),k,F]
 cases neg
 .simp only[ZX,if_false,binOp,yW,b,yV,yX,bY]
 .simp only[if_true,binOp,yW,b,yV,yX,bY]
theorem KU{P:Program}(w:World)(d:Nat){t:TypeId}{a b:Array TypeId}{c:Bool}(h:P.underlying t=some (.func a b c)):(Op.equalIn (d+1) t .nilFunc .nilFunc).run P w=.ok true w:=by
 simp[Op.equalIn,run_underlying h]
theorem MA{P:Program}(w:World)(d:Nat){t:TypeId}{a b:Array TypeId}{c:Bool}{f:Fn}{xs ys:Array Value}(h:P.underlying t=some (.func a b c)):(Op.equalIn (d+1) t (.func f xs ys) .nilFunc).run P w=.ok false w:=by
 simp[Op.equalIn,run_underlying h]
theorem yg{t u:TypeId}{x y:Operand}{neg:Bool}(q:o.op=.binOp (if neg then .neq else .eql) t x y u){rx k:Opd}(C:opd x=some rx)(B:opd y=some k){a b:Array TypeId}{c:Bool}(z:P.underlying t=some (.func a b c))
  (h:di (.eqF neg) [s.ev rx,s.ev k] λr=>K (s.put o.dst r)):OpS P o s K:=by
 have D:∀c,o.op≠.defer c:=λc e=>by rw[q] at e;cases e
 obtain⟨r,l,F⟩:=nF h
 have i:∃p:Bool,s.ev k=.nfn/\r=.bool (bY neg p)/\((p=true/\s.ev rx=.nfn)\/(p=false/\∃f xs ys,s.ev rx=.fn f xs ys)):=by
  unfold di at l;cases n:s.ev rx<;>cases m:s.ev k<;>simp only[n,m,mD.val] at l
  .refine ⟨false,rfl,?_,.inr ⟨rfl,_,_,_,rfl⟩⟩;cases neg<;>exact l.symm
  .refine ⟨true,rfl,?_,.inl ⟨rfl,rfl⟩⟩;cases neg<;>exact l.symm
 obtain⟨p,H,rfl,hp⟩:=i;refine OpS.pure _ D F λE G a w hs=>⟨.bool (bY neg p),?_,.flat (.bool _)⟩;have j:=hs.ev C;have v:=hs.ev B;rw[H] at v;have A:=v.GP;rcases hp with ⟨rfl,ex⟩|⟨rfl,f,xs,ys,ex⟩
 .rw [ex] at j;have g:=j.GP
  have d:(Op.equal t .nilFunc .nilFunc).run P w=.ok true w:=by
   exact KU w 9999 z
  rw[dk P _ o q w (by rw[g];simp) (by rw[g];simp),g,A]
  cases neg
  .simp only[ZX,if_false,binOp,yW,d,yV,yX,bY]
  .simp only[if_true,binOp,yW,d,yV,yX,bY]
 .rw [ex] at j;obtain⟨us,vs,g,_⟩:=j.rZ
  have d:(Op.equal t (.func f us.toArray vs.toArray) .nilFunc).run P w=.ok false w:=by
   exact MA w 9999 z
  rw[dk P _ o q w (by rw[g];simp) (by rw[g];simp),g,A]
  cases neg
  .simp only[ZX,if_false,binOp,yW,d,yV,yX,bY]
  .simp only[if_true,binOp,yW,d,yV,yX,bY]
theorem KT{P:Program}(w:World)(d:Nat){t e:TypeId}(h:P.underlying t=some (.pointer e)):(Op.equalIn (d+1) t (.pointer none) (.pointer none)).run P w=.ok true w:=by
 simp[Op.equalIn,run_underlying h]
theorem KS{P:Program}(w:World)(d:Nat){t e:TypeId}(h:P.underlying t=some (.pointer e)){a:Addr}:(Op.equalIn (d+1) t (.pointer (some a)) (.pointer none)).run P w=.ok false w:=by
 simp[Op.equalIn,run_underlying h]
theorem yf{t u:TypeId}{x y:Operand}{neg:Bool}(n:o.op=.binOp (if neg then .neq else .eql) t x y u){rx j:Opd}(B:opd x=some rx)(A:opd y=some j){e:TypeId}(v:P.underlying t=some (.pointer e))
  (h:di (.eqP neg) [s.ev rx,s.ev j] λr=>K (s.put o.dst r)):OpS P o s K:=by
 have C:∀c,o.op≠.defer c:=λc e=>by rw[n] at e;cases e
 obtain⟨r,k,D⟩:=nF h
 have g:∃p:Bool,s.ev j=.kB/\r=.bool (bY neg p)/\((p=true/\s.ev rx=.kB)\/(p=false/\∃b off,s.ev rx=.ptr b off)):=by
  unfold di at k;cases m:s.ev rx<;>cases l:s.ev j<;>simp only[m,l,mD.val] at k
  .refine ⟨false,rfl,?_,.inr ⟨rfl,_,_,rfl⟩⟩;cases neg<;>exact k.symm
  .refine ⟨true,rfl,?_,.inl ⟨rfl,rfl⟩⟩;cases neg<;>exact k.symm
 obtain⟨p,F,rfl,hp⟩:=g;refine OpS.pure _ C D λE G a w hs=>⟨.bool (bY neg p),?_,.flat (.bool _)⟩;have i:=hs.ev B;have q:=hs.ev A;rw[F] at q;have z:=q.C3;rcases hp with ⟨rfl,ex⟩|⟨rfl,b,off,ex⟩
 .rw [ex] at i;have f:=i.C3
  have d:(Op.equal t (.pointer none) (.pointer none)).run P w=.ok true w:=by
   exact KT w 9999 v
  rw[dk P _ o n w (by rw[f];simp) (by rw[f];simp),f,z]
  cases neg
  .simp only[ZX,if_false,binOp,yW,d,yV,yX,bY]
  .simp only[if_true,binOp,yW,d,yV,yX,bY]
 .rw [ex] at i;obtain⟨f,_⟩:=i.hR
  have d:(Op.equal t (.pointer (some ⟨G.σ b,off,none⟩)) (.pointer none)).run P w=.ok false w:=by
   exact KS w 9999 v
  rw[dk P _ o n w (by rw[f];simp) (by rw[f];simp),f,z]
  cases neg
  .simp only[ZX,if_false,binOp,yW,d,yV,yX,bY]
  .simp only[if_true,binOp,yW,d,yV,yX,bY]
end
end Go.AM
namespace Go.AM
open Go.CK Go.RowKit
theorem Oh{s:St}{b off:Nat}{x:AV}(h:s.at (.bx b off)=some x):∃cs,aa s.bs b=some cs/\∃a:off<cs.length,cs[off]=x:=by
 simp only[St.at] at h
 cases hb:aa s.bs b with
 |none=>rw[hb] at h;cases h
 |some cs=>
  rw[hb] at h;simp only[ZG] at h
  have a:off<cs.length:=by
   rcases zt off cs.length with c|c
   .exact c
   .rw [zR c] at h;cases h
  rw[zA a] at h;exact⟨cs,rfl,a,by simpa using h⟩
def eA(agg:Bool)(n:Nat)(s:St)(d:Option Nat)(p:AV)(K:St->Prop):Prop:=
 match agg,d,p with
 |false,some t,.ptr b off=>match s.at (.bx b off) with
  |some (.sl (.own z) l)=>K (((s.put (some t) (.sl .no l)).upd (.bx b off) (.sl .no l)).upd (.sl t) (.sl (.own z) l))
  |_=>bV false n (s.rd (.ptr b off)) λr=>K (s.put d r)
 |agg,d,p=>bV agg n (s.rd p) λr=>K (s.put d r)
theorem CT{P:Program}{s:St}{o:Oper}{t:TypeId}{x:Operand}(D:o.op=.load t x){rx:Opd}(F:opd x=some rx){agg:Bool}{n:Nat}(J:od P t=some agg)(L:agg=true->dB P t=some n){K:St->Prop}
  (h:eA agg n s o.dst (s.ev rx) K):OpS P o s K:=by
 have R:∀c,o.op≠.defer c:=λc e=>by rw[D] at e;cases e
 unfold eA at h;split at h
 .rename_i m b off f A;split at h
  .rename_i z l C;intro E G a w rd n' next Q hs B g
   have d:=hs.ev F;rw[A] at d;obtain⟨d,_⟩:=d.hR;obtain⟨cs,hb,O,I⟩:=Oh C;obtain⟨u,N,_,M⟩:=hs.wq hb off O;rw[I] at M
   have v:(execOp a.eval o).run P w=.ok (.value u) w:=by
    unfold execOp;simp[D,Instr.loadAt,d,Instr.sureAddr,loadVar,dy J,N]
   refine⟨λ_ _=>trivial,?_⟩;rw[Oper.semAt_eq _ _ _ R,v];show next (a.put o.dst u) w
   rw[f];have j:=B m f;have y:=hs.put (k:=m) j M;have i:Pl.bx b off≠.sl m:=by simp
   have H:=y.move (p:=.bx b off) (q:=.sl m) (z:=z) (l:=l) (o:=.no) i (by rw[St.dY,if_neg i];exact C) (by rw[St.dY,if_pos rfl];rfl) (by
    rw[cT a w m u _ (by rw[hs.nt];exact j),if_pos rfl,cT a w m u _ (by rw[hs.nt];exact j),if_neg i]
    simp[aw,N])
   exact g _ _ _ _ h H rfl
  .skip;have S:bV false n (s.rd (s.ev rx)) λr=>K (s.put o.dst r):=by rw[A];exact h
   exact iZ D F J L S
 .exact iZ D F J L h
def gn(n:Nat)(s:St)(p:AV)(x:Opd)(K:St->Prop):Prop:=
 match n,p,x with
 |1,.ptr b off,.t k=>match s.get k with
  |.sl (.own z) l=>match aa s.bs b with
   |some cs=>req (Nat.blt off cs.length) (K (((s.aU b (cs.set off (.sl .no l))).upd (.sl k) (.sl .no l)).upd (.bx b off) (.sl (.own z) l)))
   |none=>False
  |_=>bW 1 s (.ptr b off) (s.ev (.t k)) K
 |n,.elp b i z off,x=>lM n s b i z off (s.ev x) K
 |n,p,x=>bW n s p (s.ev x) K
theorem Aa{P:Program}{s:St}{o:Oper}{t:TypeId}{p x:Operand}(B:o.op=.store t p x)(m:o.dst=none){F rx:Opd}(hp:opd p=some F)(f:opd x=some rx){n:Nat}(D:dB P t=some n){K:St->Prop}
  (h:gn n s (s.ev F) rx K):OpS P o s K:=by
 have Q:∀c,o.op≠.defer c:=λc e=>by rw[B] at e;cases e
 unfold gn at h;split at h
 .rename_i b off k j;split at h
  .rename_i z l O;split at h
   .rename_i cs hb;obtain⟨U,T⟩:=af.1 h;have v:off<cs.length:=by simpa using U
    refine OpS.skip _ Q m T λE G a w hs=>?_;have g:=hs.ev hp;rw[j] at g;obtain⟨g,_⟩:=g.hR;have A:=Bj O;obtain⟨M,H,J,_,_⟩:=hs.own _ _ _ A;have d:=hs.val _ _ A;simp only[AV.aI] at d;rw[J] at d
    have I:a.eval x=.slice M l.length H:=by
     cases x with
     |tmp W=>
      simp only[opd,zN,Opd.t.injEq] at f;subst f
      exact J
     |_=>simp[opd] at f<;>(first|cases f|(split at f<;>cases f))
    obtain⟨S,R,u,N⟩:=hs.setCell hb v d rfl;have C:Pl.sl k≠.bx b off:=by simp
    have r:∀q,(s.aU b (cs.set off (.sl .no l))).at q=if q=.bx b off then some (.sl .no l) else s.at q:=λq=>by
     have:s.aU b (cs.set off (.sl .no l))=s.upd (.bx b off) (.sl .no l):=by simp[St.upd,hb]
     rw[this];exact St.eO s (y:=cs[off]) (by simp[St.at,hb,v]) _ q
    have L:=S.move (p:=.sl k) (q:=.bx b off) (z:=z) (l:=l) (o:=.no) C (by rw[r,if_neg C];exact A) (by rw[r,if_pos rfl]) (by
     show ((w.setCell ⟨G.σ b,off,none⟩ (.slice M l.length H)).cell? ⟨G.σ b,off,none⟩).getD undef=_;rw[wa];simp only[and_self,if_true,N];exact J.symm)
    refine⟨_,_,?_,L⟩;unfold execOp;simp[B,Instr.storeAt,g,Instr.sureAddr,storeVar,aR D,I,Value.cells,storeCells,bS,run_store P w ⟨G.σ b,off,none⟩ (.slice M l.length H) .plain rfl,N,R]
   .exact h.elim
  .have V:bW 1 s (s.ev F) (s.ev (.t k)) K:=by rw[j];exact h
   exact jt B m hp f D V
 .rename_i b i z off j;exact Ab B m hp f D j h
 .exact jt B m hp f D h
end Go.AM
