/-
  Texts of this aV joined (wip/gen/bundle.py),those declarations only that are needed:AmU AmT. By an AI agent.
-/
import Derived.Test.YtcjfkbdbcgmomaaGreatDoorSae
import Derived.Laws.StructEq
import Derived.Laws.BytesString
set_option linter.unusedSimpArgs false
set_option linter.unusedVariables false
namespace Go.AM
open Go.CK Go.RowKit
inductive FK where
 |b
 |i
 |s
deriving DecidableEq
def Jo(P:Program)(t:TypeId):Option FK:=match P.underlying t with
 |some .bool=>some .b
 |some (.int _)=>some .i
 |some .string=>some .s
 |_=>none
def oq(P:Program):Nat->List Field->Option (List FK)
 |_,[]=>some []
 | k, f :: fs => match f.name != "_", Nat.beq f.offset k, Jo P f.type, oq P (k + 1) fs with
  |true,true,some x,some xs=>some (x::xs)
  |_,_,_,_=>none
def lz:List FK->List AV->List AV->Option Bool
 |[],[],[]=>some true
 |.i::ks,.int k x::r,.int k' y::r'=>match decide (k=k'),lz ks r r' with
  |true,some b=>some (decide (x=y)&&b)
  |_,_=>none
 |.b::ks,.bool x::r,.bool y::r'=>match lz ks r r' with
  |some b=>some (decide (x=y)&&b)
  |none=>none
 |.s::ks,.str x::r,.str y::r'=>match lz ks r r' with
  |some b=>some (decide (x=y)&&b)
  |none=>none
 |_,_,_=>none
inductive mC where
 |eqA (neg:Bool) (ks:List FK)
 |eqB (neg:Bool)
 |eqF (neg:Bool)
 |eqP (neg:Bool)
 |cap
 |see
 |bts
 |lde (agg:Bool) (n:Nat)
deriving Inhabited
inductive LG where
 |ok (x:AV)
 |need (p:Prop) (x:AV)
def bU(neg b:Bool):Bool:=match neg with
 |true=>!b
 |false=>b
def tZ:List AV->Option (List Int)
 |[]=>some []
 |.int .u8 n::r=>match tZ r with
  |some l=>some (n::l)
  |none=>none
 |_=>none
def strOf(ns:List Int):ByteArray:=ns.foldl (λr n=>r.push (UInt8.ofNat n.toNat)) ByteArray.empty
def Lq(agg:Bool)(n:Nat)(cs:List AV):Option LG:=
 match agg with
 |true=>match Nat.ble n cs.length with
  |true=>some (.ok (.agg (cs.take n)))
  |false=>none
 |false=>match cs with
  |c::_=>some (.ok c)
  |[]=>none
def mC.val:mC->List AV->Option LG
 |.eqA neg ks,[.agg xs,.agg ys]=>match lz ks xs ys with
  |some b=>match neg with
   |true=>some (.ok (.bool (!b)))
   |false=>some (.ok (.bool b))
  |none=>none
 |.eqB neg,[.bool a,.bool b]=>match neg with
  |true=>some (.ok (.bool (!decide (a=b))))
  |false=>some (.ok (.bool (decide (a=b))))
 |.eqF neg,[.fn _ _ _,.nfn]=>match neg with
  |true=>some (.ok (.bool true))
  |false=>some (.ok (.bool false))
 |.eqF neg,[.nfn,.nfn]=>match neg with
  |true=>some (.ok (.bool false))
  |false=>some (.ok (.bool true))
 |.eqP neg,[.ptr _ _,.cU]=>match neg with
  |true=>some (.ok (.bool true))
  |false=>some (.ok (.bool false))
 |.eqP neg,[.cU,.cU]=>match neg with
  |true=>some (.ok (.bool false))
  |false=>some (.ok (.bool true))
 |.cap,[.bsl _ _ k]=>some (.ok (.int .i64 k))
 |.cap,[.sl .full l]=>some (.ok (.int .i64 l.length))
 |.see,[x]=>some (.ok x)
 |.bts,[.sl _ l]=>match tZ l with
  |some ns=>some (.ok (.str (strOf ns)))
  |none=>none
 |.lde agg n,[.ept cs]=>Lq agg n cs
 |_,_=>none
def dj(g:mC)(ae:List AV)(K:AV->Prop):Prop:=
 match g.val ae with
 |some (.ok r)=>K r
 |some (.need p r)=>p/\K r
 |none=>False
theorem C7{g:mC}{ae:List AV}{K K':AV->Prop}(hk:∀x,K x->K' x)(h:dj g ae K):dj g ae K':=by
 unfold dj at h|-;split at h<;>first|exact hk _ h|exact⟨h.1,hk _ h.2⟩|exact h
theorem nk{g:mC}{ae:List AV}{K:AV->Prop}(h:dj g ae K):∃r,dj g ae (λx=>x=r)/\K r:=by
 unfold dj at h|-;split at h<;>first|exact⟨_,rfl,h⟩|exact⟨_,⟨h.1,rfl⟩,h.2⟩|exact h.elim
theorem mm{P:Program}{M:Hp}{σ:Nat->Nat}{n:Nat}{xs ys:Array Value}{d:Nat}(w:World):∀(fs:List Field) (k:Nat) (ks:List FK) (as bs:List AV) (b:Bool),oq P k fs=some ks->lz ks as bs=some b->
  (∀j (h:j<as.length) v,xs[k+j]? =some v->RV M σ n as[j] v)->(∀j (h:j<bs.length) v,ys[k+j]? =some v->RV M σ n bs[j] v)->xs.size=k+as.length->ys.size=k+bs.length->
  (Op.eqFields (d+1) xs ys fs).run P w=.ok b w
 |[],k,ks,as,bs,b,hf,he,hx,hy,sx,sy=>by
  simp only[oq,zO] at hf;subst hf;cases as<;>cases bs<;>simp[lz] at he;subst he
  simp[Op.eqFields]
 |f::fs,k,ks,as,bs,b,hf,he,hx,hy,sx,sy=>by
  simp only[oq] at hf;split at hf
  ·rename_i x xs' h1 h2 h3 h4; cases hf; have h2 := Nat.eq_of_beq_eq_true h2; have hn : f.name ≠ "_" := by simpa using h1
   have go:∀(va vb:Value) (a0 b0:AV) (ar br:List AV) (e b':Bool),as=a0::ar->bs=b0::br->P.plainKey f.type=true->(∀v,RV M σ n a0 v->v=va)->(∀v,RV M σ n b0 v->v=vb)->(Op.equalIn (d+1) f.type va vb).run P w=.ok e w->lz xs' ar br=some b'->b=(e&&b')->(Op.eqFields (d+1) xs ys (f::fs)).run P w=.ok b w:=λva vb a0 b0 ar br e b' ea eb hp ha hb he' hr hbb=>by
    subst ea eb;simp only[zY] at sx sy;obtain⟨u,hu⟩:∃u,xs[k]? =some u:=⟨_,zj (by omega)⟩
    obtain⟨v,hv⟩:∃v,ys[k]? =some v:=⟨_,zj (by omega)⟩
    have e1:=ha u (hx 0 (by simp) u (by simpa using hu))
    have e2:=hb v (hy 0 (by simp) v (by simpa using hv))
    subst e1 e2;have p1:=run_part_plain (P:=P) w hp (xs:=xs) (off:=f.offset) (v:=u) (by rw[h2];exact hu)
    have p2:=run_part_plain (P:=P) w hp (xs:=ys) (off:=f.offset) (v:=v) (by rw[h2];exact hv)
    have ih:=mm (d:=d) w fs (k+1) xs' ar br b' h4 hr (λj hj z hz=>by
     have:=hx (j+1) (by simpa using hj) z (by rw[show k+(j+1)=k+1+j by omega];exact hz)
     simpa using this) (λj hj z hz=>by
     have:=hy (j+1) (by simpa using hj) z (by rw[show k+(j+1)=k+1+j by omega];exact hz)
     simpa using this) (by omega) (by omega)
    simp only[Op.eqFields,if_pos hn,ya,p1,p2,he',yZ];subst hbb;cases e
    .simp
    .simpa using ih
   have hk3:=h3;unfold Jo at h3;split at h3<;>cases h3
   .rename_i hu;have hp:P.plainKey f.type=true:=by simp[Program.plainKey,hu]
    cases as with
    |nil=>cases bs<;>simp[lz] at he
    |cons a0 ar=>cases bs with
     |nil=>cases a0<;>simp[lz] at he
     |cons b0 br=>
      cases a0<;>cases b0<;>simp[lz] at he;rename_i p q;split at he
      .rename_i b' hb';cases he;exact go (.bool p) (.bool q) _ _ _ _ (p==q) b' rfl rfl hp (λv hv=>hv.dm) (λv hv=>hv.dm) (run_equalIn_bool' w d f.type p q hu) hb' (by cases p<;>cases q<;>rfl)
      .cases he
   .rename_i hu;have hp:P.plainKey f.type=true:=by simp[Program.plainKey,hu]
    cases as with
    |nil=>cases bs<;>simp[lz] at he
    |cons a0 ar=>cases bs with
     |nil=>cases a0<;>simp[lz] at he
     |cons b0 br=>
      cases a0<;>cases b0<;>simp[lz] at he;rename_i k1 p k2 q;split at he
      .rename_i b' hkk hb';cases he;have:=of_decide_eq_true hkk;subst this;exact go (.int k1 p) (.int k1 q) _ _ _ _ (p==q) b' rfl rfl hp (λv hv=>hv.aA) (λv hv=>hv.aA) (run_equalIn_int w d f.type k1 _ p q hu) hb' (by congr 1)
      .cases he
   .rename_i hu;have hp:P.plainKey f.type=true:=by simp[Program.plainKey,hu]
    cases as with
    |nil=>cases bs<;>simp[lz] at he
    |cons a0 ar=>cases bs with
     |nil=>cases a0<;>simp[lz] at he
     |cons b0 br=>
      cases a0<;>cases b0<;>simp[lz] at he;rename_i p q;split at he
      .rename_i b' hb';cases he;exact go (.string p) (.string q) _ _ _ _ (p.toList==q.toList) b' rfl rfl hp (λv hv=>hv.cG.1) (λv hv=>hv.cG.1) (run_equalIn_string w d f.type p q hu) hb' (by rw[sS])
      .cases he
  .cases hf
def ff(P:Program)(t:TypeId):Option (List FK):=match P.underlying t with
 |some (.struct fs)=>match P.stoodInHeld t,P.eqGuardType P.depth t with
  |false,false=>oq P 0 fs.toList
  |_,_=>none
 |_=>none
section
variable{P:Program}{s:St}{o:Oper}{K:St->Prop}
theorem wO{t u:TypeId}{x y:Operand}{neg:Bool}(ho:o.op=.binOp (if neg then .neq else .eql) t x y u){rx ry:Opd}(hx:opd x=some rx)(hy:opd y=some ry){ks:List FK}(hk:ff P t=some ks)
  (h:dj (.eqA neg ks) [s.ev rx,s.ev ry] λr=>K (s.put o.dst r)):OpS P o s K:=by
 have hd:∀c,o.op≠.defer c:=λc e=>by rw[ho] at e;cases e
 obtain⟨r,h1,h2⟩:=nk h
 have hval:∃xs ys b,s.ev rx=.agg xs/\s.ev ry=.agg ys/\lz ks xs ys=some b/\r=.bool (bU neg b):=by
  unfold dj at h1;cases hxv:s.ev rx<;>cases hyv:s.ev ry<;>simp only[hxv,hyv,mC.val] at h1;rename_i xs ys
  cases he:lz ks xs ys with
  |none=>rw[he] at h1;exact h1.elim
  |some b=>
   rw[he] at h1;refine⟨xs,ys,b,rfl,rfl,he,?_⟩;cases neg<;>exact h1.symm
 obtain⟨xs,ys,b,ex,ey,he,rfl⟩:=hval;refine OpS.pure _ hd h2 λE G a w hs=>⟨.bool (bU neg b),?_,.flat (.bool _)⟩;have vx:=hs.ev hx;have vy:=hs.ev hy;rw[ex] at vx;rw[ey] at vy;obtain⟨us,hu,lu,_,ru⟩:=vx.dR;obtain⟨vs,hv,lv,_,rv⟩:=vy.dR;unfold ff at hk;split at hk
 .rename_i fs ht;split at hk
  .rename_i hst hg;have hfo:P.fieldsOf t=fs:=by simp[Program.fieldsOf,ht]
   have hrun:(Op.equal t (.agg us.toArray) (.agg vs.toArray)).run P w=.ok b w:=by
    have:=run_equalIn_struct (P:=P) w 9999 t us.toArray vs.toArray (by rw[hfo];exact ht) hst
    unfold Op.equal;rw[show Op.maxDepth=9999+1 from rfl,this,hfo];exact mm (d:=9998) w fs.toList 0 ks xs ys b hk he (λj hj v hjv=>ru j hj v (by simpa using hjv)) (λj hj v hjv=>rv j hj v (by simpa using hjv)) (by simp[lu]) (by simp[lv])
   have hgd:∀op,(eqGuard op t x y (.agg us.toArray) (.agg vs.toArray)).run P w=.ok () w:=λop=>by
    unfold eqGuard;cases op<;>simp[hg]
   unfold execOp;cases neg
   .simp only[ho,Za,if_false,ya,hu,hv,hgd,yZ,binOp,hrun,bU,yb]
   .simp only[ho,if_true,ya,hu,hv,hgd,yZ,binOp,hrun,bU,yb]
  .cases hk
 .cases hk
theorem wN{t u:TypeId}{x y:Operand}{neg:Bool}(ho:o.op=.binOp (if neg then .neq else .eql) t x y u){rx ry:Opd}(hx:opd x=some rx)(hy:opd y=some ry)(ht:P.underlying t=some .bool)
  (h:dj (.eqB neg) [s.ev rx,s.ev ry] λr=>K (s.put o.dst r)):OpS P o s K:=by
 have hd:∀c,o.op≠.defer c:=λc e=>by rw[ho] at e;cases e
 obtain⟨r,h1,h2⟩:=nk h
 have hval:∃p q,s.ev rx=.bool p/\s.ev ry=.bool q/\r=.bool (bU neg (decide (p=q))):=by
  unfold dj at h1;cases hxv:s.ev rx<;>cases hyv:s.ev ry<;>simp only[hxv,hyv,mC.val] at h1;rename_i p q;refine⟨p,q,rfl,rfl,?_⟩;cases neg<;>exact h1.symm
 obtain⟨p,q,ex,ey,rfl⟩:=hval;refine OpS.pure _ hd h2 λE G a w hs=>⟨.bool (bU neg (decide (p=q))),?_,.flat (.bool _)⟩;have vx:=hs.ev hx;have vy:=hs.ev hy;rw[ex] at vx;rw[ey] at vy;have e1:=vx.dm;have e2:=vy.dm
 have hrun:(Op.equal t (.bool p) (.bool q)).run P w=.ok (decide (p=q)) w:=by
  rw[run_equal_bool w t p q ht];congr 1
 rw[dn P _ o ho w (by rw[e1];simp) (by rw[e1];simp),e1,e2]
 cases neg
 .simp only[Za,if_false,binOp,ya,hrun,yZ,yb,bU]
 .simp only[if_true,binOp,ya,hrun,yZ,yb,bU]
theorem H4{P:Program}(w:World)(d:Nat){t:TypeId}{a b:Array TypeId}{c:Bool}(h:P.underlying t=some (.func a b c)):(Op.equalIn (d+1) t .nilFunc .nilFunc).run P w=.ok true w:=by
 simp[Op.equalIn,run_underlying h]
theorem Jp{P:Program}(w:World)(d:Nat){t:TypeId}{a b:Array TypeId}{c:Bool}{f:Fn}{xs ys:Array Value}(h:P.underlying t=some (.func a b c)):(Op.equalIn (d+1) t (.func f xs ys) .nilFunc).run P w=.ok false w:=by
 simp[Op.equalIn,run_underlying h]
theorem wM{t u:TypeId}{x y:Operand}{neg:Bool}(ho:o.op=.binOp (if neg then .neq else .eql) t x y u){rx ry:Opd}(hx:opd x=some rx)(hy:opd y=some ry){a b:Array TypeId}{c:Bool}(ht:P.underlying t=some (.func a b c))
  (h:dj (.eqF neg) [s.ev rx,s.ev ry] λr=>K (s.put o.dst r)):OpS P o s K:=by
 have hd:∀c,o.op≠.defer c:=λc e=>by rw[ho] at e;cases e
 obtain⟨r,h1,h2⟩:=nk h
 have hval:∃p:Bool,s.ev ry=.nfn/\r=.bool (bU neg p)/\((p=true/\s.ev rx=.nfn)\/(p=false/\∃f xs ys,s.ev rx=.fn f xs ys)):=by
  unfold dj at h1;cases hxv:s.ev rx<;>cases hyv:s.ev ry<;>simp only[hxv,hyv,mC.val] at h1
  .refine ⟨false,rfl,?_,.inr ⟨rfl,_,_,_,rfl⟩⟩;cases neg<;>exact h1.symm
  .refine ⟨true,rfl,?_,.inl ⟨rfl,rfl⟩⟩;cases neg<;>exact h1.symm
 obtain⟨p,ey,rfl,hp⟩:=hval;refine OpS.pure _ hd h2 λE G a w hs=>⟨.bool (bU neg p),?_,.flat (.bool _)⟩;have vx:=hs.ev hx;have vy:=hs.ev hy;rw[ey] at vy;have e2:=vy.Ex;rcases hp with ⟨rfl,ex⟩|⟨rfl,f,xs,ys,ex⟩
 .rw [ex] at vx;have e1:=vx.Ex
  have hrun:(Op.equal t .nilFunc .nilFunc).run P w=.ok true w:=by
   exact H4 w 9999 ht
  rw[dn P _ o ho w (by rw[e1];simp) (by rw[e1];simp),e1,e2]
  cases neg
  .simp only[Za,if_false,binOp,ya,hrun,yZ,yb,bU]
  .simp only[if_true,binOp,ya,hrun,yZ,yb,bU]
 .rw [ex] at vx;obtain⟨us,vs,e1,_⟩:=vx.nx
  have hrun:(Op.equal t (.func f us.toArray vs.toArray) .nilFunc).run P w=.ok false w:=by
   exact Jp w 9999 ht
  rw[dn P _ o ho w (by rw[e1];simp) (by rw[e1];simp),e1,e2]
  cases neg
  .simp only[Za,if_false,binOp,ya,hrun,yZ,yb,bU]
  .simp only[if_true,binOp,ya,hrun,yZ,yb,bU]
theorem H3{P:Program}(w:World)(d:Nat){t e:TypeId}(h:P.underlying t=some (.pointer e)):(Op.equalIn (d+1) t (.pointer none) (.pointer none)).run P w=.ok true w:=by
 simp[Op.equalIn,run_underlying h]
theorem H2{P:Program}(w:World)(d:Nat){t e:TypeId}(h:P.underlying t=some (.pointer e)){a:Addr}:(Op.equalIn (d+1) t (.pointer (some a)) (.pointer none)).run P w=.ok false w:=by
 simp[Op.equalIn,run_underlying h]
theorem wL{t u:TypeId}{x y:Operand}{neg:Bool}(ho:o.op=.binOp (if neg then .neq else .eql) t x y u){rx ry:Opd}(hx:opd x=some rx)(hy:opd y=some ry){e:TypeId}(ht:P.underlying t=some (.pointer e))
  (h:dj (.eqP neg) [s.ev rx,s.ev ry] λr=>K (s.put o.dst r)):OpS P o s K:=by
 have hd:∀c,o.op≠.defer c:=λc e=>by rw[ho] at e;cases e
 obtain⟨r,h1,h2⟩:=nk h
 have hval:∃p:Bool,s.ev ry=.cU/\r=.bool (bU neg p)/\((p=true/\s.ev rx=.cU)\/(p=false/\∃b off,s.ev rx=.ptr b off)):=by
  unfold dj at h1;cases hxv:s.ev rx<;>cases hyv:s.ev ry<;>simp only[hxv,hyv,mC.val] at h1
  .refine ⟨false,rfl,?_,.inr ⟨rfl,_,_,rfl⟩⟩;cases neg<;>exact h1.symm
  .refine ⟨true,rfl,?_,.inl ⟨rfl,rfl⟩⟩;cases neg<;>exact h1.symm
 obtain⟨p,ey,rfl,hp⟩:=hval;refine OpS.pure _ hd h2 λE G a w hs=>⟨.bool (bU neg p),?_,.flat (.bool _)⟩;have vx:=hs.ev hx;have vy:=hs.ev hy;rw[ey] at vy;have e2:=vy.Bp;rcases hp with ⟨rfl,ex⟩|⟨rfl,b,off,ex⟩
 .rw [ex] at vx;have e1:=vx.Bp
  have hrun:(Op.equal t (.pointer none) (.pointer none)).run P w=.ok true w:=by
   exact H3 w 9999 ht
  rw[dn P _ o ho w (by rw[e1];simp) (by rw[e1];simp),e1,e2]
  cases neg
  .simp only[Za,if_false,binOp,ya,hrun,yZ,yb,bU]
  .simp only[if_true,binOp,ya,hrun,yZ,yb,bU]
 .rw [ex] at vx;obtain⟨e1,_⟩:=vx.eP
  have hrun:(Op.equal t (.pointer (some ⟨G.σ b,off,none⟩)) (.pointer none)).run P w=.ok false w:=by
   exact H2 w 9999 ht
  rw[dn P _ o ho w (by rw[e1];simp) (by rw[e1];simp),e1,e2]
  cases neg
  .simp only[Za,if_false,binOp,ya,hrun,yZ,yb,bU]
  .simp only[if_true,binOp,ya,hrun,yZ,yb,bU]
end
end Go.AM
namespace Go.AM
open Go.CK Go.RowKit
theorem KZ{s:St}{b off:Nat}{x:AV}(h:s.at (.bx b off)=some x):∃cs,aa s.bs b=some cs/\∃hj:off<cs.length,cs[off]=x:=by
 simp only[St.at] at h
 cases hb:aa s.bs b with
 |none=>rw[hb] at h;cases h
 |some cs=>
  rw[hb] at h;simp only[ZH] at h
  have hj:off<cs.length:=by
   rcases zu off cs.length with h1|h1
   .exact h1
   .rw [zS h1] at h;cases h
  rw[zA hj] at h;exact⟨cs,rfl,hj,by simpa using h⟩
def eO(agg:Bool)(n:Nat)(s:St)(d:Option Nat)(p:AV)(K:St->Prop):Prop:=
 match agg,d,p with
 |false,some t,.ptr b off=>match s.at (.bx b off) with
  |some (.sl (.own z) l)=>K (((s.put (some t) (.sl .no l)).upd (.bx b off) (.sl .no l)).upd (.sl t) (.sl (.own z) l))
  |_=>bL false n (s.rd (.ptr b off)) λr=>K (s.put d r)
 |agg,d,p=>bL agg n (s.rd p) λr=>K (s.put d r)
theorem Bg{P:Program}{s:St}{o:Oper}{t:TypeId}{x:Operand}(ho:o.op=.load t x){rx:Opd}(hx:opd x=some rx){agg:Bool}{n:Nat}(ha:nP P t=some agg)(hn:agg=true->dH P t=some n){K:St->Prop}
  (h:eO agg n s o.dst (s.ev rx) K):OpS P o s K:=by
 have hd:∀c,o.op≠.defer c:=λc e=>by rw[ho] at e;cases e
 unfold eO at h;split at h
 .rename_i t' b off hdst hpe;split at h
  .rename_i z l hat;intro E G a w rd n' next Q hs hdlt hnext
   have hpv:=hs.ev hx;rw[hpe] at hpv;obtain⟨hpv,_⟩:=hpv.eP;obtain⟨cs,hb,hj,hcs⟩:=KZ hat;obtain⟨u,h1,_,h3⟩:=hs.si hb off hj;rw[hcs] at h3
   have hrun:(execOp a.eval o).run P w=.ok (.value u) w:=by
    unfold execOp;simp[ho,Instr.loadAt,hpv,Instr.sureAddr,loadVar,dD ha,h1]
   refine⟨λ_ _=>trivial,?_⟩;rw[Oper.semAt_eq _ _ _ hd,hrun];show next (a.put o.dst u) w
   rw[hdst];have hlt:=hdlt t' hdst;have hput:=hs.put (k:=t') hlt h3;have hne:Pl.bx b off≠.sl t':=by simp
   have hmv:=hput.move (p:=.bx b off) (q:=.sl t') (z:=z) (l:=l) (o:=.no) hne (by rw[St.ef,if_neg hne];exact hat) (by rw[St.ef,if_pos rfl];rfl) (by
    rw[cQ a w t' u _ (by rw[hs.nt];exact hlt),if_pos rfl,cQ a w t' u _ (by rw[hs.nt];exact hlt),if_neg hne]
    simp[aw,h1])
   exact hnext _ _ _ _ h hmv rfl
  .skip;have h':bL false n (s.rd (s.ev rx)) λr=>K (s.put o.dst r):=by rw[hpe];exact h
   exact iU ho hx ha hn h'
 .exact iU ho hx ha hn h
def gn(n:Nat)(s:St)(p:AV)(x:Opd)(K:St->Prop):Prop:=
 match n,p,x with
 |1,.ptr b off,.t k=>match s.get k with
  |.sl (.own z) l=>match aa s.bs b with
   |some cs=>req (Nat.blt off cs.length) (K (((s.aF b (cs.set off (.sl .no l))).upd (.sl k) (.sl .no l)).upd (.bx b off) (.sl (.own z) l)))
   |none=>False
  |_=>bQ 1 s (.ptr b off) (s.ev (.t k)) K
 |n,.elp b i z off,x=>nR n s b i z off (s.ev x) K
 |n,p,x=>bQ n s p (s.ev x) K
theorem xA{P:Program}{s:St}{o:Oper}{t:TypeId}{p x:Operand}(ho:o.op=.store t p x)(hdn:o.dst=none){rp rx:Opd}(hp:opd p=some rp)(hx:opd x=some rx){n:Nat}(hn:dH P t=some n){K:St->Prop}
  (h:gn n s (s.ev rp) rx K):OpS P o s K:=by
 have hd:∀c,o.op≠.defer c:=λc e=>by rw[ho] at e;cases e
 unfold gn at h;split at h
 .rename_i b off k hpe;split at h
  .rename_i z l hg;split at h
   .rename_i cs hb;obtain⟨h1,h2⟩:=af.1 h;have hoff:off<cs.length:=by simpa using h1
    refine OpS.skip _ hd hdn h2 λE G a w hs=>?_;have hpv:=hs.ev hp;rw[hpe] at hpv;obtain⟨hpv,_⟩:=hpv.eP;have hat:=yp hg;obtain⟨ad,kk,hv,_,_⟩:=hs.own _ _ _ hat;have hval:=hs.val _ _ hat;simp only[AV.aG] at hval;rw[hv] at hval
    have hxe:a.eval x=.slice ad l.length kk:=by
     cases x with
     |tmp t'=>
      simp only[opd,zO,Opd.t.injEq] at hx;subst hx
      exact hv
     |_=>simp[opd] at hx<;>(first|cases hx|(split at hx<;>cases hx))
    obtain⟨h3,h4,u,h5⟩:=hs.setCell hb hoff hval rfl;have hne:Pl.sl k≠.bx b off:=by simp
    have hset:∀q,(s.aF b (cs.set off (.sl .no l))).at q=if q=.bx b off then some (.sl .no l) else s.at q:=λq=>by
     have:s.aF b (cs.set off (.sl .no l))=s.upd (.bx b off) (.sl .no l):=by simp[St.upd,hb]
     rw[this];exact St.eZ s (y:=cs[off]) (by simp[St.at,hb,hoff]) _ q
    have hmv:=h3.move (p:=.sl k) (q:=.bx b off) (z:=z) (l:=l) (o:=.no) hne (by rw[hset,if_neg hne];exact hat) (by rw[hset,if_pos rfl]) (by
     show ((w.setCell ⟨G.σ b,off,none⟩ (.slice ad l.length kk)).cell? ⟨G.σ b,off,none⟩).getD undef=_;rw[uF];simp only[and_self,if_true,h5];exact hv.symm)
    refine⟨_,_,?_,hmv⟩;unfold execOp;simp[ho,Instr.storeAt,hpv,Instr.sureAddr,storeVar,aL hn,hxe,Value.cells,storeCells,bN,run_store P w ⟨G.σ b,off,none⟩ (.slice ad l.length kk) .plain rfl,h5,h4]
   .exact h.elim
  .have h':bQ 1 s (s.ev rp) (s.ev (.t k)) K:=by rw[hpe];exact h
   exact jm ho hdn hp hx hn h'
 .rename_i b i z off hpe;exact xC ho hdn hp hx hn hpe h
 .exact jm ho hdn hp hx hn h
end Go.AM
