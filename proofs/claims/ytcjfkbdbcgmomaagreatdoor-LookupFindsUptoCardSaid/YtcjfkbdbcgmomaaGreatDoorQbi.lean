/-
  By an AI agent.
-/
import Derived.Test.YtcjfkbdbcgmomaaGreatDoorQbh
import Derived.Lib.LaidTab
import Derived.Deep.DrawnRows
set_option linter.unusedSimpArgs false
set_option linter.unusedVariables false
set_option maxRecDepth 100000
namespace Go.CK
open Go.RowKit Go.Proofs
def Tb(w:World):Prop:=∃T fz,w.heap[AM.KB]? =some (.cells AM.KV.toArray T fz)
theorem Tb.lt{w:World}(h:Tb w):AM.KB<w.heap.size:=by
 obtain⟨T,fz,h⟩:=h;exact mf h
theorem Tb.below{B:Nat}{w w':World}(h:Tb w)(hB:AM.KB<B)(hb:Below B w w'):Tb w':=by
 obtain⟨T,fz,h⟩:=h;exact⟨T,fz,(hb.block _ hB).trans h⟩
def Ls(n:Int)(w:World):Prop:=Calls Tryz.prog 231 #[.int .i64 n] w λe w'=>e=.returned (.string ⟨(Lib.itoa n).toArray⟩)/\Below w.heap.size w w'
theorem Mn{n:Int}(h0:-9223372036854775808<=n)(h1:n<=9223372036854775807){w:World}(ht:Tb w):Ls n w:=by
 have hT : Lib.TabIs Tryz.prog w "internal/strconv.uint64pow10" .u64 Lib.pow10Tab := by
  obtain ⟨T, fz, h⟩ := ht; unfold Lib.TabIs World.var?; rw [show Tryz.prog.globalNamed "internal/strconv.uint64pow10" = some AM.KB by kernel_rfl]
  simp only[ZG,h];rfl
 refine(Any.strconv_Itoa Tryz.Ka n h0 h1 w hT).mono ?_;rintro e w' ⟨rfl,k,os,rfl⟩;exact⟨rfl,Lib.below_grow _ w (zG _) k os⟩
theorem size_data(s:ByteArray):s.size=s.data.toList.length:=by cases s;rfl
theorem kD:∀(k u:Nat),u<10^(k+1)->(Lib.decDigits u).length<=k+1
 |0,u,h=>by rw[Lib.decDigits,dif_pos (by simpa using h)];simp
 |k+1,u,h=>by
  rw[Lib.decDigits];split
  .simp
  .have:=kD k (u/10) (by rw[Nat.pow_succ] at h;omega)
   simp;omega
theorem C0{n:Int}(b:-9223372036854775808<=n)(a:n<=9223372036854775807):(Lib.itoa n).length<=30:=by
 unfold Lib.itoa;split
 .have:=kD 19 n.natAbs (by omega)
  simp;omega
 .have:=kD 19 n.toNat (by omega)
  omega
def dh(tag:UInt8)(n:Int):List UInt8:=tag::Lib.itoa n
set_option maxHeartbeats 2000000 in
theorem lq(B b:Nat)(l:List UInt8)(tag:UInt8)(n:Int)(w:World)(h:IsW B b l w)(q:Tb w)(o:AM.KB<B)(u:-9223372036854775808<=n)(t:n<=9223372036854775807)(hlen:l.length<=100000000)(p:B<=w.heap.size):
  Calls Tryz.prog 198 #[.pointer (some ⟨b,0,none⟩),.int .u8 tag.toNat,.int .i64 n] w λe w'=>e=.returned (.tuple #[])/\IsW B b (l++dh tag n) w'/\Below B w w'/\Kq b w w':=by
 have v:=C0 u t;have mixed:Tryz.prog.follows .mixedOrders=true:=by kernel_rfl
 have hw:l++dh tag n=l++[tag]++(⟨(Lib.itoa n).toArray⟩:ByteArray).data.toList:=by simp[dh]
 rw[hw];have Hw:=Lib.hid hw;clear hw;have H:=Lib.hid h;clear h;have HT:=Lib.hid q;clear q
 go_enter Tryz.func198,Tryz.ntmps198
 go_wp2_with fail
 refine(Lb B b l tag w H.out (by omega) p).mono ?_
 rintro e d ⟨rfl,m,c,j⟩;have s:∀w',Below d.heap.size d w'->IsW B b (l++[tag]) w'/\Ls n w'/\Below B w w'/\B<=w'.heap.size:=λw' hb=>⟨rY m hb,Mn u t (HT.out.below o (c.trans (hb.mono (by have:=c.size;omega)))),c.trans (hb.mono (by have:=c.size;omega)),by have:=c.size;have:=hb.size;omega⟩
 have HI:=Lib.hid s;clear s;have r:∀w' a,Below d.heap.size d w'->Below w'.heap.size w' a->Below d.heap.size d a:=λw' a i hb=>i.trans (hb.mono i.size);have hm:∀w' a,Below d.heap.size d w'->Below B w' a->Below B w a:=λw' a i hb=>(c.trans (i.mono (by have:=c.size;omega))).trans hb
 have hk:∀w' a,Below d.heap.size d w'->Kq b w' a->Kq b w a:=λw' a i hb=>(j.trans (Kq.below i)).trans hb;have HK:=Lib.hid hk;clear hk;have HN:=Lib.hid r;clear r;have HM:=Lib.hid hm;clear hm;have HB:=Lib.hid c;clear c;clear m j
 go_wp2_with fail
 go_region_held3 (λw'=>Below B w w') (first|assumption|exact HM.out _ _ (by repeat (first|assumption|exact Below.refl _ _|refine Below.drew ?_)) (Below.refl _ _)) (first|(go_at_call 231;refine((HI.out _ (by repeat (first|assumption|exact Below.refl _ _|refine Below.drew ?_))).2.1).mono ?_;rintro e z ⟨rfl,k⟩;have k:=HN.out _ _ (by repeat (first|assumption|exact Below.refl _ _|refine Below.drew ?_)) k)|(go_at_call 230;refine(IY B b _ _ _ (HI.out _ (by repeat (first|assumption|exact Below.refl _ _|refine Below.drew ?_))).1 (by simp[ByteArray.size];omega) (HI.out _ (by repeat (first|assumption|exact Below.refl _ _|refine Below.drew ?_))).2.2.2).mono ?_;rintro e y ⟨rfl,x,g,f⟩;have f:=HK.out _ _ (by repeat (first|assumption|exact Below.refl _ _|refine Below.drew ?_)) f;have g:=HM.out _ _ (by repeat (first|assumption|exact Below.refl _ _|refine Below.drew ?_)) g))
 all_goals (go_wp2_with fail;go_end0;exact⟨rfl,x,g,f⟩)
def dA(s:ByteArray):List UInt8:=dh 115 s.size++(58::s.data.toList)
theorem Hh(s:ByteArray):s.size<=(dA s).length:=by simp only[dA,zC,zX,<-size_data];omega
set_option maxHeartbeats 2000000 in
theorem IZ(B b:Nat)(l:List UInt8)(s:ByteArray)(w:World)(h:IsW B b l w)(n:Tb w)(k:AM.KB<B)(hlen:l.length+(dA s).length<=100000000)(m:B<=w.heap.size):
  Calls Tryz.prog 199 #[.pointer (some ⟨b,0,none⟩),.string s] w λe w'=>e=.returned (.tuple #[])/\IsW B b (l++dA s) w'/\Below B w w'/\Kq b w w':=by
 have q:=Hh s;have hw:l++dA s=l++dh 115 s.size++[58]++s.data.toList:=by simp[dA]
 have a:(l++dh 115 s.size).length+1+s.size<=100000000:=by
  simp only[dA,zC,zX,<-size_data] at hlen|-;omega
 rw[hw];have Hw:=Lib.hid hw;clear hw;have Hl:=Lib.hid a;clear a;have H:=Lib.hid h;clear h;have HT:=Lib.hid n;clear n
 go_enter Tryz.func199,Tryz.ntmps199
 go_wp2_with fail
 refine(lq B b l 115 s.size w H.out HT.out k (by omega) (by omega) (by omega) m).mono ?_
 rintro e p ⟨rfl,x,d,i⟩;have t:=d.size
 go_wp2_with fail
 refine(Lb B b _ 58 p x (by have:=Hl.out;omega) (by omega)).mono ?_
 rintro e o ⟨rfl,v,c,g⟩;have r:=c.size
 go_wp2_with fail
 refine(IY B b _ s o v (by have:=Hl.out;simp only[zC,zX,ZP] at this|-;omega) (by omega)).mono ?_
 rintro e y ⟨rfl,u,j,f⟩
 go_wp2_with fail
 go_end0
 exact⟨rfl,u,(d.trans c).trans j,(i.trans g).trans f⟩
mutual
def ck:Tm->List UInt8
 |.mk k n s l=>if k=0 then dh 105 n else if k=1 then dh 118 n else if k=2 then dh 102 l.length++dA s++bP l else dh 107 k++dh 110 n++dA s
def bP:List Tm->List UInt8
 |[]=>[]
 |t::l=>ck t++bP l
end
mutual
def Tm.io:Tm->Prop
 |.mk k n _ l=>dO k/\dO n/\Tm.ios l
def Tm.ios:List Tm->Prop
 |[]=>True
 |t::l=>Tm.io t/\Tm.ios l
end
theorem Tm.hO:∀{l:List Tm},Tm.ios l↔∀t∈l,t.io
 |[]=>by simp[Tm.ios]
 |a::l=>by simp only[Tm.ios,Tm.hO (l:=l),zI,forall_eq_or_imp]
theorem tU:∀(l m:List Tm),bP (l++m)=bP l++bP m
 |[],m=>rfl
 |t::l,m=>by rw[ze,bP,bP,tU l m,zg]
open Go.AM in
theorem BO(t:Tm):(Tm.av t).cells=[.int .i64 t.kind,.int .i64 t.num,.str t.name,.sl .no (t.args.map Tm.av)]:=by
 cases t;simp[Tm.av,AV.cells,Tm.kind,Tm.num,Tm.name,Tm.args,Tm.tP]
open Go.AM in
theorem y5{M:Hp}{l:List Tm}{v:Value}(h:FV M (slA Tm.av l) v):∃a k,v=.slice a l.length k/\∀i (f:i<l.length),∃B off sv,a=some ⟨B,off,none⟩/\M B (off+i*4)=some (.int .i64 l[i].kind)/\M B (off+i*4+1)=some (.int .i64 l[i].num)/\M B (off+i*4+2)=some (.string l[i].name)/\M B (off+i*4+3)=some sv/\FV M (slA Tm.av l[i].args) sv/\l[i].name.size<=lim:=by
 obtain⟨a,k,B,off,sz,rfl,_,_,_,_,q,he⟩:=h.cX;rw[zF];refine⟨a,k,rfl,λi f=>?_⟩;have c:l.map Tm.av≠[]:=λe=>by rw[List.map_eq_nil_iff] at e;subst e;cases f
 obtain⟨b,n⟩:=he i (by simpa using f)
 rw[ZD] at b n;rw[BO] at b;simp only[zX,ZP] at b;subst b;have m:(l[i].av).cells=_:=BO l[i]
 have g:∀j (d:j<4) x,[AV.int .i64 l[i].kind,.int .i64 l[i].num,.str l[i].name,.sl .no (l[i].args.map Tm.av)][j]? =some x->∃u,M B (off+i*4+j)=some u/\FV M x u:=λj d x p=>by
  obtain⟨u,s,_,r⟩:=n j (by rw[m];exact d)
  refine⟨u,s,?_⟩
  have:(l[i].av).cells[j]'(by rw[m];exact d)=x:=by
   have:(l[i].av).cells[j]? =some x:=by rw[m];exact p
   exact(zB.1 this).2
  rw[<-this];exact r
 obtain⟨y,g0,f0⟩:=g 0 (by omega) _ rfl
 obtain⟨w,g1,f1⟩:=g 1 (by omega) _ rfl
 obtain⟨t,g2,f2⟩:=g 2 (by omega) _ rfl
 obtain⟨o,g3,f3⟩:=g 3 (by omega) _ rfl
 cases f0;cases f1
 cases f2 with
 |str _ hs=>exact⟨B,off,o,q c,by simpa using g0,g1,g2,g3,f3,hs⟩
theorem Hq{l:List Tm}{j:Nat}(h:j<l.length):bP (l.take (j+1))=bP (l.take j)++ck l[j]:=by
 rw[List.take_succ_eq_append_getElem h,tU];simp[bP]
theorem LF(l:List Tm)(j:Nat):(bP (l.take j)).length<=(bP l).length:=by
 have:=tU (l.take j) (l.drop j);rw[List.take_append_drop] at this;rw[this,zC];omega
open Go.AM in
def Lo(W:World)(t:Tm):Prop:=∀sv,FV (Hp.of W) (slA Tm.av t.args) sv->∀(b:Nat) (a:List UInt8) (w:World),IsW W.heap.size b a w->Below W.heap.size W w->a.length+(ck t).length<=100000000->
 Calls Tryz.prog 151 #[.pointer (some ⟨b,0,none⟩),.agg #[.int .i64 t.kind,.int .i64 t.num,.string t.name,sv]] w λe w'=>e=.returned (.tuple #[])/\IsW W.heap.size b (a++ck t) w'/\Below W.heap.size w w'/\Kq b w w'
open Go.AM in
set_option maxHeartbeats 2000000 in
theorem Gj{W:World}{l:List Tm}(A:∀t∈l,Lo W t){sv:Value}(m:FV (Hp.of W) (slA Tm.av l) sv)(b:Nat)(r:List UInt8)(w:World)(h:IsW W.heap.size b r w)(hb:Below W.heap.size W w)(hlen:r.length+(bP l).length<=100000000):
  Calls Tryz.prog 97 #[.pointer (some ⟨b,0,none⟩),sv] w λe w'=>e=.returned (.tuple #[])/\IsW W.heap.size b (r++bP l) w'/\Below W.heap.size w w'/\Kq b w w':=by
 obtain⟨a,k,rfl,q⟩:=y5 m
 have x:l.length<=lim:=by
  obtain⟨_,_,_,_,_,_,_,_,f,_⟩:=m.cX;simpa using f
 unfold lim at x;have HA:=Lib.hid q;clear q;have H:=Lib.hid h;clear h;have HB:=Lib.hid hb;clear hb;have HL:=Lib.hid A;clear A;have Hlen:=Lib.hid hlen;clear hlen;clear m
 go_enter Tryz.func97,Tryz.ntmps97
 go_wp2_with fail
 go_loopw [8] (λi wr=>∃j:Nat,j<=l.length/\i=.int .i64 j/\IsW W.heap.size b (r++bP (l.take j)) wr/\Below W.heap.size w wr/\Kq b w wr) (λi _=>l.length-(RowKit.intOf i).toNat)
 case atStart=>exact⟨0,by omega,rfl,by simpa[bP] using H.out,Below.refl _ _,Kq.refl _ _⟩
 case round=>
  obtain⟨j,I,rfl,f,g,z⟩:=hrel;have H1:=Lib.hid f;clear f
  by_cases d:j<l.length
  .obtain ⟨B,off,sv,rfl,g0,g1,g2,g3,c,E⟩:=HA.out j d;have y:B<W.heap.size:=Hp.lt (Hp.le_refl _) g0;obtain⟨a2,k2,rfl,_⟩:=y5 c;have cell:∀o v,Hp.of W B o=some v->wr.cell? ⟨B,o,none⟩=some v:=λo v m=>((HB.out.trans g).cell (p:=⟨B,o,none⟩) y).trans m;have J:=cell _ _ g0;have c1:=cell _ _ g1;have c2:=cell _ _ g2;have c3:=cell _ _ g3;clear cell g0 g1 g2 g3;have Hsv:=Lib.hid c;clear c;have n:=Hq d;have hle:=LF l (j+1);have Htk:=Lib.hid n;clear n;have Hle:=Lib.hid hle;clear hle;have D:=g.size;have F:=HB.out.size
   go_wp2_with fail
   refine(HL.out l[j] (zc d) _ Hsv.out b _ _ (rY H1.out ((Below.refl _ wr).alloc (zG _) _)) ((HB.out.trans g).alloc (by omega) _) (by have f:=Hle.out;have C:=Hlen.out;rw[Htk.out] at f;simp only[zC] at f|-;omega)).mono ?_
   rintro e G ⟨rfl,C,s,u⟩
   go_wp2_with fail
   go_roundw
   case rel=>exact⟨j+1,by omega,by go_num,by rw[Htk.out,<-zg];exact C,(g.alloc (by omega) _).trans s,(z.trans (Kq.below ((Below.refl _ wr).alloc (zG _) _))).trans u⟩
   case measure=>simp[RowKit.intOf];omega
  .have he:l.take j=l:=zl (by omega)
   have Hd:=Lib.hid he;clear he
   go_wp2_with fail
   go_end0
   exact⟨rfl,by have:=H1.out;rw[Hd.out] at this;exact this,g,z⟩
open Go.AM in
set_option maxHeartbeats 4000000 in
theorem Na{W:World}(r:Tb W)(t:Tm)(p:t.io):Lo W t:=by
 induction t using Tm.bA with
 |h k n s l ih=>
  intro sv B b u w h hb hlen;simp only[Tm.args,Tm.kind,Tm.num,Tm.name] at B|-;rw[Tm.io] at p;obtain⟨hk,H,p⟩:=p;have U:∀t∈l,Lo W t:=λt T=>ih t T (Tm.hO.1 p t T);obtain⟨a,G,rfl,_⟩:=y5 B
  have P:l.length<=lim:=by
   obtain⟨_,_,_,_,_,_,_,_,h1,_⟩:=B.cX;simpa using h1
  unfold lim at P;have Q:=hb.size;have A:=rY h ((Below.refl _ w).alloc (zG _) (.cells #[.int .i64 k,.int .i64 n,.string s,.slice a l.length G] 81));have g:Below W.heap.size w (w.alloc (.cells #[.int .i64 k,.int .i64 n,.string s,.slice a l.length G] 81)):=(Below.refl _ w).alloc Q _;have m:Kq b w (w.alloc (.cells #[.int .i64 k,.int .i64 n,.string s,.slice a l.length G] 81)):=Kq.below ((Below.refl _ w).alloc (zG _) _);obtain⟨q,hw⟩:∃q,q=w.alloc (.cells #[.int .i64 k,.int .i64 n,.string s,.slice a l.length G] 81):=⟨_,rfl⟩;rw[<-hw] at A g m;have D:q.heap[w.heap.size]? =some (.cells #[.int .i64 k,.int .i64 n,.string s,.slice a l.length G] 81 (0,0)):=by rw[hw];exact World.alloc_heap_new w _
  have V:b<w.heap.size:=by
   rcases h with h|h<;>(obtain⟨_,v,B,_⟩:=h;exact mf B)
  have o:∀w',Kq b q w'->w'.cell? ⟨w.heap.size,0,none⟩=some (.int .i64 k)/\w'.cell? ⟨w.heap.size,1,none⟩=some (.int .i64 n)/\w'.cell? ⟨w.heap.size,2,none⟩=some (.string s)/\w'.cell? ⟨w.heap.size,3,none⟩=some (.slice a l.length G):=λw' hq=>by
   have:=(hq.keep w.heap.size (mf D) (by omega) (λcs fz e=>by rw[D] at e;cases e)).trans D
   simp[World.cell?,this]
  have Z:q.heap.size=w.heap.size+1:=by rw[hw];simp
  have M:∀w',Below W.heap.size w w'->Tb w':=λw' Y=>r.below r.lt (hb.trans Y);have HK:=Lib.hid o;clear o;have HT:=Lib.hid M;clear M;have HL:=Lib.hid U;clear U;have HV:=Lib.hid B;clear B;have HB:=Lib.hid hb;clear hb;have H1:=Lib.hid A;clear A;obtain⟨x,c1,c2,c3⟩:=HK.out q (Kq.refl _ _);clear h ih p;have hW1:=g.size
  by_cases L:k=0
  .subst L;have i:ck (.mk 0 n s l)=dh 105 n:=by simp[ck]
   rw[i] at hlen|-;have Hl:=Lib.hid hlen;clear hlen;have Het:=Lib.hid i;clear i
   go_enter Tryz.func151,Tryz.ntmps151
   go_wp2_with fail
   rw[<-hw];refine(lq W.heap.size b u 105 n q H1.out (HT.out _ g) r.lt H.1 H.2 (by have:=Hl.out;omega) (by omega)).mono ?_
   rintro e y ⟨rfl,E,c,f⟩
   go_wp2_with fail
   go_end0
   exact⟨rfl,E,g.trans c,m.trans f⟩
  .by_cases K:k=1
   .subst K;have i:ck (.mk 1 n s l)=dh 118 n:=by simp[ck]
    rw[i] at hlen|-;have Hl:=Lib.hid hlen;clear hlen;have Het:=Lib.hid i;clear i
    go_enter Tryz.func151,Tryz.ntmps151
    go_wp2_with fail
    rw[<-hw];refine(lq W.heap.size b u 118 n q H1.out (HT.out _ g) r.lt H.1 H.2 (by have:=Hl.out;omega) (by omega)).mono ?_
    rintro e y ⟨rfl,E,c,f⟩
    go_wp2_with fail
    go_end0
    exact⟨rfl,E,g.trans c,m.trans f⟩
   .by_cases J:k=2
    .subst J;have i:ck (.mk 2 n s l)=dh 102 l.length++dA s++bP l:=by simp[ck]
     rw[i] at hlen|-;have F:u++(dh 102 l.length++dA s++bP l)=u++dh 102 l.length++dA s++bP l:=by simp
     rw[F];simp only[zC] at hlen;have Hl:=Lib.hid hlen;clear hlen;have Het:=Lib.hid i;clear i;have He3:=Lib.hid F;clear F
     go_enter Tryz.func151,Tryz.ntmps151
     go_wp2_with fail
     rw[<-hw];refine(lq W.heap.size b u 102 l.length q H1.out (HT.out _ g) r.lt (by omega) (by omega) (by have:=Hl.out;omega) (by omega)).mono ?_
     rintro e y ⟨rfl,E,c,f⟩;clear x c1 c2 c3;obtain⟨x,c1,c2,c3⟩:=HK.out y f;have O:=c.size;have c:=g.trans c
     go_wp2_with fail
     refine(IZ W.heap.size b _ s y E (HT.out _ c) r.lt (by have:=Hl.out;simp only[zC];omega) (by omega)).mono ?_
     rintro e I ⟨rfl,S,d,j⟩;clear x c1 c2 c3;obtain⟨x,c1,c2,c3⟩:=HK.out I (f.trans j);have N:=d.size;have d:=c.trans d
     go_wp2_with fail
     refine(Gj HL.out HV.out b _ I S (HB.out.trans d) (by have:=Hl.out;simp only[zC];omega)).mono ?_
     rintro e X ⟨rfl,R,z,C⟩
     go_wp2_with fail
     go_end0
     exact⟨rfl,R,d.trans z,m.trans ((f.trans j).trans C)⟩
    .have i:ck (.mk k n s l)=dh 107 k++dh 110 n++dA s:=by simp[ck,L,K,J]
     rw[i] at hlen|-;have F:u++(dh 107 k++dh 110 n++dA s)=u++dh 107 k++dh 110 n++dA s:=by simp
     rw[F];simp only[zC] at hlen;have Hl:=Lib.hid hlen;clear hlen;have Het:=Lib.hid i;clear i;have He3:=Lib.hid F;clear F
     go_enter Tryz.func151,Tryz.ntmps151
     go_wp2_with fail
     rw[<-hw];refine(lq W.heap.size b u 107 k q H1.out (HT.out _ g) r.lt hk.1 hk.2 (by have:=Hl.out;omega) (by omega)).mono ?_
     rintro e y ⟨rfl,E,c,f⟩;clear x c1 c2 c3;obtain⟨x,c1,c2,c3⟩:=HK.out y f;have O:=c.size;have c:=g.trans c
     go_wp2_with fail
     refine(lq W.heap.size b _ 110 n y E (HT.out _ c) r.lt H.1 H.2 (by have:=Hl.out;simp only[zC];omega) (by omega)).mono ?_
     rintro e I ⟨rfl,S,d,j⟩;clear x c1 c2 c3;obtain⟨x,c1,c2,c3⟩:=HK.out I (f.trans j);have N:=d.size;have d:=c.trans d
     go_wp2_with fail
     refine(IZ W.heap.size b _ s I S (HT.out _ d) r.lt (by have:=Hl.out;simp only[zC];omega) (by omega)).mono ?_
     rintro e X ⟨rfl,R,z,C⟩
     go_wp2_with fail
     go_end0
     exact⟨rfl,R,d.trans z,m.trans ((f.trans j).trans C)⟩
set_option maxHeartbeats 2000000 in
theorem Jh(b k:Nat)(a:Option Addr)(w:World):Calls Tryz.prog 97 #[.pointer (some ⟨b,0,none⟩),.slice a 0 k] w λe w'=>e=.returned (.tuple #[])/\w'=w:=by
 go_enter Tryz.func97,Tryz.ntmps97
 go_wp2_with fail
 go_loopw [8] (λi wr=>i=.int .i64 0/\wr=w) (λi _=>0)
 case atStart=>exact⟨rfl,rfl⟩
 case round=>
  obtain⟨rfl,rfl⟩:=hrel
  go_wp2_with fail
  go_end0
  exact⟨rfl,rfl⟩
open Go.AM in
set_option maxHeartbeats 2000000 in
theorem M9{W:World}(u:Tb W){key:List Tm}(h:Tm.ios key){sv:Value}(i:FV (Hp.of W) (slA Tm.av key) sv)(hlen:(bP key).length<=100000000):
  Calls Tryz.prog 47 #[sv] W λe w'=>e=.returned (.string ⟨(bP key).toArray⟩)/\Below W.heap.size W w':=by
 have c:=World.alloc_heap_new W (.cells #[.pointer none,.slice none 0 0] 162);have b:Below W.heap.size W (W.alloc (.cells #[.pointer none,.slice none 0 0] 162)):=(Below.refl _ W).alloc (zG _) _;obtain⟨f,hw⟩:∃f,f=W.alloc (.cells #[.pointer none,.slice none 0 0] 162):=⟨_,rfl⟩;rw[<-hw] at c b;have s:=b.size;obtain⟨a,k,rfl,_⟩:=y5 i;have m:IsW W.heap.size W.heap.size [] f:=.inl ⟨zG _,.slice none 0 0,c,World.ownsRow_nil _ _ _ _,by simp[Value.ownBlock]⟩
 by_cases hk:key=[]
 .subst hk;have Hx:=Lib.hid c;clear c;clear i
  go_enter Tryz.func47,Tryz.ntmps47
  go_wp2_with fail
  rw[<-hw];have Hw:=Lib.hid hw;clear hw;refine(Jh W.heap.size k a f).mono ?_;rintro e p ⟨rfl,rfl⟩
  go_wp2_with fail
  refine(Hz W.heap.size W.heap.size _ _ Hx.out).mono ?_;rintro e o ⟨rfl,d⟩
  go_wp2_with fail
  go_ret
  exact⟨rfl,b.trans d⟩
 .have g:bP key≠[]:=by
   cases key with
   |nil=>exact absurd rfl hk
   |cons t l=>
    obtain⟨k',n',v,l'⟩:=t;simp only[bP,ck];split
    .simp [dh]
    .split
     .simp [dh]
     .split<;>simp[dh]
  have Hv:=Lib.hid i;clear i;have Hne:=Lib.hid g;clear g;have Hl:=Lib.hid hlen;clear hlen;have Hio:=Lib.hid h;clear h
  go_enter Tryz.func47,Tryz.ntmps47
  go_wp2_with fail
  rw[<-hw];have Hw:=Lib.hid hw;clear hw;refine(Gj (λt q=>Na u t (Tm.hO.1 Hio.out t q)) Hv.out W.heap.size [] f m b (by simpa using Hl.out)).mono ?_
  rintro e p ⟨rfl,n,j,r⟩;rw[Zi] at n
  go_wp2_with fail
  refine(Jp W.heap.size W.heap.size _ _ n Hne.out).mono ?_;rintro e o ⟨rfl,d⟩
  go_wp2_with fail
  go_ret
  exact⟨rfl,(b.trans j).trans d⟩
end Go.CK
namespace Go.CK
open Go.AM Go.Proofs
variable{ab:List AV}{bs:List Box}{Q:AV->List Box->Prop}
def AB:RC:=
 (.seq (rR [1,2] [oQ 1 (.box 0),oQ 2 (.box (.c (.agg [(.int .i64 0),(.str ⟨⟨[]⟩⟩),(.sl .full [])])))]) (.seq (rR [1,2] [qF 3 1 1,qF 4 1 3,qL 5 4,oQ 6 (.build [(.int .i64 0),(.int .i64 0),(.str ⟨⟨[]⟩⟩),(.sl .full [])] [(3,1,5)]),oQ 7 (cF 96 [6]),oQ 8 (.fld false 3 1 7),qF 9 1 1,qF 10 1 9,oN (.store 1 10 8)]) (.seq (rR [2] [qA 11 3 1,oN (.store 3 2 11)]) .ret)))
theorem A0(hn:ab.length<=12)(h:SP Tryz.prog true ab bs AB [.cell 2 true 3] Q):AM.Sem Tryz.prog 45 ab bs Q:=
 oZ (keeps:=[(0,[1,2]),(1,[1,2]),(2,[2])]) (solo:=[]) Tryz.func45 rfl hn h
def tg:RC:=
 (.seq (rR [1,2] [oQ 1 (.box 0),oQ 2 (.box (.c (.agg [(.int .i64 0),(.int .i64 0),(.str ⟨⟨[]⟩⟩),(.sl .full [])])))]) (.seq (rR [1,2] [qF 5 3 1,qL 6 5,oQ 7 (cF 150 [6]),qF 8 3 1,oN (.store 1 8 7)]) (.seq (.seq (rR [1,2,10,11,12] [qF 9 3 1,qL 10 9,oQ 11 (.len false 10),oQ 12 (.mov (.c (.int .i64 0)))]) (.block 0 (.loop (.seq (rR [1,2,10,11,12,13] [oQ 13 (.bin .lss 12 11)]) (.seq (.cond 13 .skip (.exit 0)) (.seq (.block 1 (.seq (rR [1,2,3,4,10,11,12] [qM 14 12,qI 15 4 10 12,qA 16 4 15,oQ 4 (.box (.c (.agg [(.int .i64 0),(.int .i64 0),(.str ⟨⟨[]⟩⟩),(.sl .full [])]))),qM 3 14,oN (.store 4 4 16)]) (.mult [1,2,10,11,12] [(0,qF 17 3 1),(0,qL 18 17),(0,qM 19 3),(0,qA 20 4 4),(0,oQ 21 (cF 96 [20])),(0,qI 22 4 18 19),(1,oN (.store 4 22 21))]))) (rR [1,2,10,11,12] [oQ 23 (.bin .add 12 (.c (.int .i64 1))),qM 12 23]))))))) (.seq (rR [2] [
 qA 24 4 1,oN (.store 4 2 24)]) .ret))))
theorem tq(hn:ab.length<=25)(h:SP Tryz.prog true ab bs tg [.cell 2 true 4] Q):AM.Sem Tryz.prog 96 ab bs Q:=
 oZ (keeps:=[(0,[1,2]),(1,[1,2]),(2,[1,2,10,11,12]),(3,[1,2,10,11,12,13]),(4,[1,2,3,4,10,11,12]),(5,[1,2,10,11,12]),(6,[1,2,10,11,12]),(7,[2]),(2000005,[0,1,2,3,4,5,6]),(3000005,[0,0,0,0,0,0,1])]) (solo:=[]) Tryz.func96 rfl hn h
def mL:RC:=
 (.seq (rR [2,3] [oQ 2 (.box 0),oQ 3 (.box 1),oQ 4 (.mov (.c .nfn))]) (.seq (rR [4] [oQ 5 (.pD (.func 108) [] [2,3]),qM 4 5]) .ret))
def kQ:RC:=
 (.seq (rR [0,2,12,13,14] [qL 9 1,qK 10 9,qF 11 0 10,qL 12 11,oQ 13 (.len false 12),oQ 14 (.mov (.c (.int .i64 0)))]) (.block 0 (.loop (.seq (rR [0,2,12,13,14,15] [oQ 15 (.bin .lss 14 13)]) (.seq (.cond 15 .skip (.exit 0)) (.seq (.block 1 (.seq (rR [0,2,4,5,12,13,14] [qM 16 14,qI 17 3 12 14,qA 18 3 17,oQ 5 (.box (.c (.agg [(.str ⟨⟨[]⟩⟩),(.int .i64 0),(.sl .full [])]))),qM 4 16,oN (.store 3 5 18)]) (.seq (.seq (rR [0,2,4,5,12,13,14,31] [qF 19 0 5,qL 20 19,qF 21 0 2,qL 22 21,oQ 23 (.bin .neq 20 22),qM 24 23,oG 25 24 false (.aL 1 5),oG 26 24 false (.load false 1 25),oG 27 24 false (.aL 1 2),oG 28 24 false (.load false 1 27),oG 29 24 false (.len false 28),oG 30 24 false (.bin .neq 26 29),oQ 31 (.pick 24 (.c (.bool true)) 30)]) (.cond 31 (.exit 1) .skip)) (.seq (rR [0,2,4,5,6,12,13,14] [oQ 6 (.mov (.c (.sl .full [])))]) (.seq (.seq
 (rR [0,2,4,6,12,13,14,33,34,35] [qF 32 2 5,qL 33 32,oQ 34 (.len false 33),oQ 35 (.mov (.c (.int .i64 0)))]) (.block 2 (.loop (.seq (rR [0,2,4,6,12,13,14,33,34,35,36] [oQ 36 (.bin .lss 35 34)]) (.seq (.cond 36 .skip (.exit 2)) (.seq (.block 3 (.seq (rR [0,2,4,6,8,12,13,14,33,34,35] [qI 37 1 33 35,qL 38 37,qM 8 38]) (rR [0,2,4,6,12,13,14,33,34,35] [qM 39 6,qF 40 1 2,qL 41 40,qM 42 8,qI 43 4 41 42,qA 44 4 43,oQ 45 (.aM 4 [44]),oQ 46 (.append 4 39 45),qM 6 46]))) (rR [0,2,4,6,12,13,14,33,34,35] [oQ 47 (.bin .add 35 (.c (.int .i64 1))),qM 35 47]))))))) (.seq (rR [0,2,12,13,14,53] [qM 48 0,qM 49 4,qM 50 6,oQ 51 (cF 47 [50]),oQ 52 (.dM 48 [49,51]),oQ 53 (.un .not 52)]) (.cond 53 .ret .skip))))))) (rR [0,2,12,13,14] [oQ 54 (.bin .add 14 (.c (.int .i64 1))),qM 14 54])))))))
def lS:RC:=
 (.seq (rR [2,3] [oQ 2 (.box 0),oQ 3 (.box 1)]) (.seq (rR [2,3,12] [qL 9 2,qF 10 1 3,qA 11 2 10,oQ 12 (cF 53 [9,11])]) (.block 0 (.range 12 [13,14] (.seq (rR [2,3,4,14] [qM 4 13]) (rR [2,3,4,5] [qM 5 14])) (.block 1 (.seq (rR [2,3,4,5,6] [qL 15 2,qK 16 15,qF 17 2 16,qL 18 17,qM 19 4,qI 20 1 18 19,qL 21 20,qM 22 5,oQ 23 (.eff (.tab .get) [21,22]),qM 6 23]) (.seq (rR [2,3,4,5,6,7] [qM 25 6,qF 26 0 3,qL 27 26,oQ 28 (cF 105 [25,27]),qM 24 28,oQ 29 (.ext 0 24),oQ 30 (.ext 1 24),qM 7 29,qM 8 30]) (.mult [] [(0,qL 31 2),(0,qK 32 31),(0,qF 33 2 32),(0,qL 34 33),(0,qM 35 4),(0,qI 36 1 34 35),(0,qL 37 36),(0,qM 38 5),(0,qM 39 6),(0,qM 40 7),(0,qF 41 0 3),(0,qL 42 41),(2,oQ 43 (.eff (.bsR 1) [42])),(2,oQ 44 (cF 106 [39,40,43])),(1,oN (.eff (.tab .put) [37,38,44]))]))))))))
def mM:RC:=
 (.seq (rR [0,1,2] [oQ 6 (.mov (.c (.sl .full [])))]) (.seq (.seq (rR [0,1,2,35] [qM 7 0,oQ 8 (.more (.eqP false) [7,(.c .kB)]),qM 9 8,oG 10 9 false (.mov 1),oG 11 9 false (.bin .lss 10 (.c (.int .i64 0))),oQ 12 (.pick 9 (.c (.bool true)) 11),qM 13 12,oG 14 13 false (.mov 1),oG 15 13 false (.mov 0),oG 16 13 false (.qu 15),oG 17 13 false (.aL 0 16),oG 18 13 false (.load false 1 17),oG 19 13 false (.len false 18),oG 20 13 false (.bin .geq 14 19),oQ 21 (.pick 13 (.c (.bool true)) 20),qM 22 21,oG 23 22 false (.mov 2),oG 24 22 false (.len false 23),oG 25 22 false (.mov 0),oG 26 22 false (.qu 25),oG 27 22 false (.aL 0 26),oG 28 22 false (.load false 1 27),oG 29 22 false (.mov 1),oG 30 22 false (.idx 3 28 29),oG 31 22 false (.aL 2 30),oG 32 22 false (.load false 1 31),oG 33 22 false (.len false 32),oG 34 22 false (.bin .neq 24 33),oQ 35 (.pick 22 (.c (.bool true)) 34)])
 (.cond 35 (.seq (rR [6] [oQ 6 (.mov (.c (.sl .full [])))]) .ret) .skip)) (.seq (.mult [6] [(0,qM 36 0),(0,qK 37 36),(0,qF 38 2 37),(0,qL 39 38),(0,qM 40 1),(0,qI 41 1 39 40),(0,qL 42 41),(0,qM 43 2),(0,oQ 44 (cF 47 [43])),(1,oQ 45 (.eff (.tab .get) [42,44])),(1,oQ 46 (cF 44 [45])),(0,oQ 6 (.take 46))]) .ret)))
def e6:RC:=
 (.seq (rR [0,1] [oQ 4 (.mov (.c (.int .i64 0))),oQ 5 (.mov (.c (.bool false)))]) (.seq (rR [0,1,6] [qM 10 0,oQ 11 (.len false 10),qM 6 11]) (.seq (rR [0,1,6,7,8] [qM 12 6,oQ 7 (.mov (.c (.int .i64 0))),qM 8 12]) (.seq (.block 0 (.loop (.seq (.seq (rR [0,1,6,7,8,15] [qM 13 7,qM 14 8,oQ 15 (.bin .lss 13 14)]) (.cond 15 .skip (.exit 0))) (.block 1 (.seq (rR [0,1,6,7,8,9] [qM 16 7,qM 17 8,oQ 18 (.bin .add 16 17),oQ 19 (.conv (some .u64) 18),oQ 20 (.bin .shr 19 (.c (.int .u64 1))),oQ 21 (.conv (some .i64) 20),qM 9 21]) (.seq (rR [0,1,6,7,8,9,27] [qM 22 0,qM 23 9,qI 24 1 22 23,qL 25 24,qM 26 1,oQ 27 (cF 155 [25,26])]) (.cond 27 (rR [0,1,6,7,8] [qM 28 9,oQ 29 (.bin .add 28 (.c (.int .i64 1))),qM 7 29]) (rR [0,1,6,7,8] [qM 30 9,qM 8 30])))))))) (.seq (rR [4,5] [qM 31 7,qM 32 7,qM 33 6,oQ 34 (.bin .lss 32 33),qM 35 34,oG 36 35 true (.mov 0),oG 37 35 true (.mov 7),oG 38 35 true (.idx 1 36 37),oG 39 35 true (.load false 1 38),oG 40 35 true (.mov 1),oG 41 35 true (.bin .eql 39 40),oG 42 35 true (.mov 41),oG 43 42 false (.mov 0),oG 44 42 false (.mov 7),oG 45 42 false (.idx 1 43 44),oG 46 42 false (.load false 1 45),oG 47 42 false (cF 156 [46]),oG 48 42 false (.mov 47),oG 49 48 true (.mov 1),oG 50 48 true (cF 156 [49]),oG 51 42 false (.pick 48 50 (.c (.bool false))),oG 52 35 true (.pick 42 (.c (.bool true)) 51),oQ 53 (.pick 35 52 (.c (.bool false))),qM 4 31,qM 5 53])
 .ret)))))
theorem fa(hn:ab.length<=54)(h:SP Tryz.prog true ab bs e6 [.slot 4,.slot 5] Q):AM.Sem Tryz.prog 105 ab bs Q:=
 oZ (keeps:=[(0,[0,1]),(1,[0,1,6]),(2,[0,1,6,7,8]),(3,[0,1,6,7,8,15]),(4,[0,1,6,7,8,9]),(5,[0,1,6,7,8,9,27]),(7,[0,1,6,7,8]),(6,[0,1,6,7,8]),(8,[4,5])]) (solo:=[]) Tryz.func105 rfl hn h
theorem l4(hn:ab.length<=6)(h:SP Tryz.prog false ab bs mL [.slot 4] Q):AM.Sem Tryz.prog 53 ab bs Q:=
 oZ (keeps:=[(0,[2,3]),(1,[4])]) (solo:=[]) Tryz.func53 rfl hn h
theorem kz(hn:ab.length<=55)(h:SP Tryz.prog false ab bs kQ [] Q):AM.Sem Tryz.prog 108 ab bs Q:=
 oZ (keeps:=[(0,[0,2,12,13,14]),(1,[0,2,12,13,14,15]),(2,[0,2,4,5,12,13,14]),(3,[0,2,4,5,12,13,14,31]),(4,[0,2,4,5,6,12,13,14]),(5,[0,2,4,6,12,13,14,33,34,35]),(6,[0,2,4,6,12,13,14,33,34,35,36]),(7,[0,2,4,6,8,12,13,14,33,34,35]),(8,[0,2,4,6,12,13,14,33,34,35]),(9,[0,2,4,6,12,13,14,33,34,35]),(10,[0,2,12,13,14,53]),(11,[0,2,12,13,14])]) (solo:=[]) Tryz.func108 rfl hn h
theorem lp(hn:ab.length<=45)(h:SP Tryz.prog false ab bs lS [] Q):AM.Sem Tryz.prog 51 ab bs Q:=
 oZ (keeps:=[(0,[2,3]),(1,[2,3,12]),(2,[2,3,4,14]),(3,[2,3,4,5]),(4,[2,3,4,5,6]),(5,[2,3,4,5,6,7]),(6,[]),(1000000,[43]),(2000006,[0,1,2,3,4,5,6,7,8,9,10,11,12,13,14]),(3000006,[0,0,0,0,0,0,0,0,0,0,0,0,2,2,1])]) (solo:=[]) Tryz.func51 rfl hn h
theorem l6(hn:ab.length<=47)(h:SP Tryz.prog false ab bs mM [.slot 6] Q):AM.Sem Tryz.prog 13 ab bs Q:=
 oZ (keeps:=[(0,[0,1,2]),(1,[0,1,2,35]),(2,[6]),(3,[6]),(2000003,[0,1,2,3,4,5,6,7,8,9,10,11]),(3000003,[0,0,0,0,0,0,0,0,0,1,1,0])]) (solo:=[]) Tryz.func13 rfl hn h
end Go.CK
namespace Go.CK
open Go.AM Go.RowKit Go.Proofs
theorem Kw{w w':World}(h:Below w.heap.size w w'):(Hp.of w).le (Hp.of w'):=λb o v a=>by
 have c:=Hp.lt (Hp.le_refl _) a;simp only[Hp.of,World.cell?] at a|-;rw[h.block b c];exact a
theorem Fun.JV{P:Program}{f:FuncId}{ab:List AV}{t:ByteArray}(g:t.size<=lim)(l:ab.all AV.flat=true)(h:∀(w:World) (args:List Value),Tb w->args.length=ab.length->(∀j (a:j<ab.length) v,args[j]? =some v->FV (Hp.of w) ab[j] v)->Calls P f args.toArray w λe w'=>e=.returned (.string t)/\Below w.heap.size w w'):Fun P f ab (.str t):=by
 intro bs E G a0 w args lo hs i d;have c:∀j (a:j<ab.length),(ab[j]).flat=true:=λj a=>zS.1 l _ (zc a);refine(h w args hs.fr.kn.tb i (λj a v b=>((d j a v b).Jg (c j a)).mono hs.ok)).mono ?_;rintro e w' ⟨rfl,hb⟩;have n:=hs.sI (bR G bs w 1) ⟨#[.string t],[]⟩ (Fr.refl _ _ _ hs.fr.kn) rfl bs.length rfl (zG _) (λ_ _=>rfl) (λB hB=>.inl hB) rfl;have m:=n.grow (M':=G.M) (w':=w') ⟨hb.os,hb.tape,hb.output,hb.size,Hp.le_refl _,λB hB _=>hb.block B hB,λ_ _ _ _=>rfl⟩ (Hp.le_trans hs.ok (Kw hb));refine⟨_,_,_,_,rfl,⟨rfl,rfl⟩,m.put (k:=0) Zw (x:=.str t) (.flat (.str t g))⟩
def fS(key:List Tm):ByteArray:=⟨(bP key).toArray⟩
theorem Gi{key:List Tm}(a:Tm.ios key)(hlen:(bP key).length<=100000000):Fun Tryz.prog 47 [slA Tm.av key] (.str (fS key)):=by
 refine Fun.JV (by simp[fS,ByteArray.size,lim];omega) rfl λw args c d b=>?_
 match args,d with
 |[v],_=>exact M9 c a (b 0 (by simp) v rfl) hlen
def tmA:Option Tm->AV
 |some t=>t.avw
 |none=>.agg [.top,.top,.top,.top]
theorem nu:Plain tmA 4:=by
 refine⟨by decide,λx=>by cases x<;>rfl,λx c h=>?_,λx c h=>?_⟩
 .cases x<;>(simp[tmA,Tm.avw,AV.cells] at h;rcases h with rfl|rfl|rfl|rfl<;>rfl)
 .cases x<;>(simp[tmA,Tm.avw,AV.cells] at h;rcases h with rfl|rfl|rfl|rfl<;>rfl)
theorem BP(l:List Tm):(l.map some).map tmA=l.map Tm.av:=by
 rw[List.map_map];exact List.map_congr_left λt _=>(Tm.pM t).symm
theorem IB{l:List Tm}(d:l.length<=4294967296):AM.Sem Tryz.prog 150 [.sl .no (l.map Tm.av)] [] λr bs'=>∃k,l.length<=k/\r=.bsl 0 l.length k/\bs'=[aJ tmA 4 k (l.map some)]:=by
 refine ek (by simp) ?_
 conv=>whnf
 skip;refine F9.no λb hb=>?_
 conv=>whnf
 repeat' (refine gC ?_;refine ak.any (λc=>?_) (λc=>?_))<;>conv=>whnf
 .have a:l=[]:=by simpa using hb c
  subst a;exact ag.sE 2 rfl (ag.slot ⟨0,zG _,rfl,rfl⟩)
 .rw [<-BP];refine oe.EU (l':=l.map some) nu (by rw[zF];exact d) λk hk=>?_
  conv=>whnf
  skip;rw[zF] at hk;exact ag.slot ⟨k,hk,by simp[St.get,au],rfl⟩
theorem M6{α:Type}{l:List α}{j:Nat}{x:α}(b:l[j]? =some x):(l.map some)[j]? =some (some x)/\(l.map some).set j (some x)=l.map some:=by
 have a:(l.map some)[j]? =some (some x):=by rw[ZF,b];rfl
 refine⟨a,Zo λi=>?_⟩
 by_cases e:j=i
 .subst e;rw[List.getElem?_set_self (zB.1 a).1,a]
 .rw [Ze e]
theorem Iw{t:Tm}(ih:∀x∈t.args,Fun Tryz.prog 96 [x.avw] x.avw):Fun Tryz.prog 96 [t.avw] t.avw:=by
 refine Fun.of (Sem.assume λc _=>?_) rfl rfl;have i:=(ox (c t.avw (by simp) rfl)).2.1
 refine tq (by simp) ?_
 conv=>whnf
 skip;refine ae.at [] (IB (l:=t.args) (by omega)) rfl rfl ?_ oko ?_
 .rintro r bs' ⟨k,hk,rfl,rfl⟩;exact⟨rfl,rfl,oko⟩
 rintro r bs' ⟨k,hk,rfl,rfl⟩
 conv=>whnf
 skip;refine ax.by (fb:=true) (λ_ (j:Nat)=>⟨[(1,.ptr 0 0),(2,.ptr 1 0),(10,.bsl 2 t.args.length k),(11,.int .i64 (t.args.length:Int)),(12,.int .i64 (j:Int))],[.cells [.int .i64 t.kind,.int .i64 t.num,.str t.name,.bsl 2 t.args.length k],.cells [.int .i64 0,.int .i64 0,.str ⟨⟨[]⟩⟩,.sl .full []],aJ tmA 4 k (t.args.map some)],0⟩) (λj=>j<=t.args.length) (λj=>t.args.length-j) 0 (zJ _) ?_ ?_
 .exact aN
 .rintro j h
  by_cases f:j<t.args.length
  .obtain ⟨x,e⟩:∃x,t.args[j]? =some x:=⟨_,zA f⟩;obtain⟨d,g⟩:=M6 e;have a:=ih x (zE e)
   conv=>whnf
   repeat' (first|refine gC (gD (cI ?_))|refine gN (nS ?_))<;>conv=>whnf
   refine ElN.elem nu rfl d ?_
   conv=>whnf
   repeat' (first|refine gG (aW.fn (a) ?_)|refine gN (nS ?_))<;>conv=>whnf
   refine EsN.elem nu (λx=>by cases x<;>rfl) (x:=some x) (y:=some x) rfl d rfl ?_
   conv=>whnf
   repeat' refine gW (wI ?_)<;>conv=>whnf
   refine⟨j+1,⟨f,by omega⟩,?_⟩
   rw[Zn,g];refine al.lay [some 0,some 1,some 2] oko ?_
   conv=>whnf
   exact aN
  .obtain rfl:j=t.args.length:=by omega
   conv=>whnf
   repeat' refine gC (gD (cJ ?_))<;>conv=>whnf
   refine ag.mm nu 1 3 (b:=2) (l:=t.args.map some) rfl rfl rfl (by simp) ?_
   rw[zl (by simp),BP]
   conv=>whnf
   repeat' refine ag.nrm ?_<;>conv=>whnf
   rfl
theorem Iv(t:Tm):Fun Tryz.prog 96 [t.avw] t.avw:=by
 induction t using Tm.bA with
 |h k n s l ih=>exact Iw ih
theorem Ny(i:It):Fun Tryz.prog 45 [i.av] i.av:=by
 have h:Fun Tryz.prog 96 [.agg [.int .i64 0,.int .i64 0,.str ⟨⟨[]⟩⟩,.sl .no (i.atom.args.map Tm.av)]] (.agg [.int .i64 0,.int .i64 0,.str ⟨⟨[]⟩⟩,.sl .no (i.atom.args.map Tm.av)]):=Iv (.mk 0 0 ⟨⟨[]⟩⟩ i.atom.args);refine Fun.of (A0 (by simp) ?_) rfl rfl
 conv=>whnf
 repeat' (first|refine gF (ae.fn (h) ?_)|refine ag.nrm ?_)<;>conv=>whnf
 rfl
end Go.CK
namespace Go.CK
open Go.AM Go.Proofs
def Ac.has(c:Ac)(s:ByteArray)(args:List Tm):Bool:=decide (c.name=s)&&decide (c.arity=args.length)
def tm0:Tm:=.mk 0 0 ⟨#[]⟩ []
def keyOf(c:Ac)(args:List Tm):List Tm:=c.positions.map λp=>args.getD p.toNat tm0
def Gz(c:Ac)(args:List Tm):Prop:=∀p∈c.positions,0<=p/\p<args.length
theorem H7{c:Ac}{args:List Tm}(h:Tm.ios args)(hp:Gz c args):Tm.ios (keyOf c args):=Tm.hO.2 λt d=>by
 obtain⟨p,a,rfl⟩:=zk.1 d;obtain⟨f,e⟩:=hp p a;have b:p.toNat<args.length:=by omega
 refine Tm.hO.1 h _ ?_;simp[List.getD,zA b]
theorem H8{bs:List Box}{p:Nat}{s:ByteArray}{args:List Tm}:AM.Sem Tryz.prog 53 [.ptr p 0,.agg [.str s,.sl .no (args.map Tm.av)]] bs λr bs'=>r=.fn (.func 108) [] [.ptr bs.length 0,.ptr (bs.length+1) 0]/\bs'=bs++[.cells [.ptr p 0]]++[.cells [.str s,.sl .no (args.map Tm.av)]]:=by
 refine l4 (by simp) ?_
 conv=>whnf
 try dsimp only
 skip;have e:(bs++[Box.cells [AV.ptr p 0]]).length=bs.length+1:=by simp
 rw[e];exact⟨_,aD.refl _,.inl ⟨rfl,rfl⟩⟩
structure Lr(bs0:List Box)(n q1 q2 p:Nat)(acc:List Ac)(s:ByteArray)(args:List Tm)(J:Nat->List Box->Prop):Prop where
 x:∀j bs,J j bs->bs[q1]? =some (.cells [.ptr p 0])
 a:∀j bs,J j bs->bs[q2]? =some (.cells [.str s,.sl .no (args.map Tm.av)])
 p:∀j bs,J j bs->∃I T,bs[p]? =some (.cells [slA Ac.av acc,I,T])
 snoc:∀j bs b,J j bs->J j (bs++[b])
 skip:∀j bs c,J j bs->acc[j]? =some c->c.has s args=false->J (j+1) bs
 act:∀j bs c,J j bs->acc[j]? =some c->c.has s args=true->mB Tryz.prog n [.int .i64 (j:Int),.str (fS (keyOf c args))] bs λr bs'=>r=.bool true/\J (j+1) bs'
theorem Fg{bs:List Box}{n F g p:Nat}{acc:List Ac}{s:ByteArray}{args:List Tm}{J:Nat->List Box->Prop}(hJ:Lr bs n F g p acc s args J)(E:J 0 bs)(B:Tm.ios args)(h:∀c∈acc,c.has s args=true->Gz c args)(hlen:∀c∈acc,c.has s args=true->(bP (keyOf c args)).length<=100000000)(H:acc.length<=1000000)(w:∀c∈acc,c.positions.length<=1000000):
  AM.Sem Tryz.prog 108 [.yl n,.ptr F 0,.ptr g 0] bs λr bs'=>r=.tup []/\J acc.length bs':=by
 refine kz (by simp) ?_
 conv=>whnf
 try dsimp only
 skip;refine gi.of (cs:=[.ptr p 0]) (by simp[aa,hJ.x _ _ E,Box.cs?]) ?_
 conv=>whnf
 try dsimp only
 skip;obtain⟨I0,T0,z⟩:=hJ.p _ _ E;refine gi.of (cs:=[slA Ac.av acc,I0,T0]) (by simp[aa,z,Box.cs?]) ?_
 conv=>whnf
 try dsimp only
 repeat' refine gL (.map ?_)<;>(conv=>whnf;try dsimp only)
 refine ax.by (fb:=false) (λ_ (a:Nat×List Box)=>⟨[(0,.yl n),(2,.ptr g 0),(12,.sl .no (acc.map Ac.av)),(13,.int .i64 (acc.length:Int)),(14,.int .i64 (a.1:Int))],a.2,bs.length⟩) (λa=>a.1<=acc.length/\J a.1 a.2) (λa=>acc.length-a.1) (0,bs) ⟨zJ _,E⟩ ?_ ?_
 .refine al.atS ?_ rfl rfl
  conv=>whnf
  repeat' (first|(refine gV ?_;first|refine vE ?_|refine vI ?_)|exact True.intro)<;>conv=>whnf
 .rintro ⟨j,q⟩ ⟨t,m⟩;dsimp only at t m
  by_cases d:j<acc.length
  .obtain ⟨c,o⟩:∃c,acc[j]? =some c:=⟨_,zA d⟩;have f:=zE o;have N:=hJ.a _ _ m;have b:=hJ.snoc j q (.cells [AV.str c.name,AV.int IntKind.i64 c.arity,AV.sl Cap.no (List.map aG c.positions)]) m;have C:aa (q++[Box.cells [AV.str c.name,AV.int IntKind.i64 c.arity,AV.sl Cap.no (List.map aG c.positions)]]) q.length=some [AV.str c.name,AV.int IntKind.i64 c.arity,AV.sl Cap.no (List.map aG c.positions)]:=by simp[aa,Box.cs?]
   conv=>whnf
   try dsimp only
   repeat' (first|refine gC (gD (cI ?_))|refine gI (gM (iE ?_))|refine gB (.last ?_)|refine jI.last ?_)<;>(conv=>whnf;try dsimp only)
   obtain⟨B3,hB⟩:∃B3,B3=q++[Box.cells [AV.str c.name,AV.int IntKind.i64 c.arity,AV.sl Cap.no (List.map aG c.positions)]]:=⟨_,rfl⟩;rw[<-hB] at b C|-;clear hB;have P:aa B3 g=some [AV.str s,.sl .no (args.map Tm.av)]:=by simp[aa,hJ.a _ _ b,Box.cs?]
   by_cases A:c.name=s
   .by_cases I:c.arity=args.length
    .have e:c.has s args=true:=by simp[Ac.has,A,I]
     have k:=h c f e;have O:=w c f
     conv=>whnf
     try dsimp only
     repeat' (first|(refine gC ?_;first|refine .not ?_|refine gD (cI ?_))|refine gL (.map ?_)|refine gB (.of (by assumption) ?_))<;>(conv=>whnf;try dsimp only)
     refine ax.by (fb:=false) (λ_ (i:Nat)=>⟨[(0,.yl n),(2,.ptr g 0),(4,.int .i64 (j:Int)),(6,.sl (.own 4) (((c.positions.take i).map λp=>args.getD p.toNat tm0).map Tm.av)),(12,.sl .no (acc.map Ac.av)),(13,.int .i64 (acc.length:Int)),(14,.int .i64 (j:Int)),(33,.sl .no (c.positions.map aG)),(34,.int .i64 (c.positions.length:Int)),(35,.int .i64 (i:Int))],B3,bs.length⟩) (λi=>i<=c.positions.length) (λi=>c.positions.length-i) 0 (zJ _) ?_ ?_
     .rw [ZK];refine al.atS ?_ rfl rfl
      conv=>whnf
      repeat' (first|(refine gV ?_;first|refine vE ?_|refine vI ?_|((refine gK ?_;refine vD ?_ ?_);(focus (simp[AV.norm,AV.ay,];done))))|exact True.intro)<;>conv=>whnf
     .intro i R
      by_cases l:i<c.positions.length
      .obtain ⟨y,G⟩:∃y,c.positions[i]? =some y:=⟨_,zA l⟩;obtain⟨L,K⟩:=k y (zE G);obtain⟨x,M⟩:∃x,args[y.toNat]? =some x:=⟨_,zA (by omega)⟩
       have v:((c.positions.take (i+1)).map λp=>args.getD p.toNat tm0).map Tm.av=((c.positions.take i).map λp=>args.getD p.toNat tm0).map Tm.av++[.agg [.int .i64 x.kind,.int .i64 x.num,.str x.name,.sl .no (x.args.map Tm.av)]]:=by
        rw[ZC,G];simp[M,Tm.pM,Tm.avw]
       conv=>whnf
       try dsimp only
       repeat' (first|refine gC (gD (cI ?_))|refine gW (wI ?_)|refine gN (nS ?_)|(refine gI ?_;first|refine gT (iB ?_)|refine gM (iE ?_))|refine gB (.of (by assumption) ?_))<;>(conv=>whnf;try dsimp only)
       refine⟨i+1,⟨l,by omega⟩,?_⟩
       rw[v];refine al.atS ?_ rfl rfl
       conv=>whnf
       repeat' (first|(refine gV ?_;first|refine vE ?_|refine vI ?_)|exact True.intro)<;>conv=>whnf
      .obtain rfl:i=c.positions.length:=by omega
       rw[zz];have u:=Gi (H7 B k) (hlen c f e)
       conv=>whnf
       try dsimp only
       repeat' (first|refine gF (ae.fn (u) ?_)|refine gC (gD (cJ ?_)))<;>(conv=>whnf;try dsimp only)
       refine sw.of (hJ.act _ _ _ b o e) ?_;rintro r Q ⟨rfl,D⟩
       conv=>whnf
       try dsimp only
       repeat' (first|(refine gC ?_;first|refine cY ?_|refine .not ?_)|refine gW (wI ?_)|fail)<;>(conv=>whnf;try dsimp only)
       refine⟨(j+1,Q),⟨⟨d,D⟩,by dsimp only;omega⟩,?_⟩
       refine al.atS ?_ rfl rfl
       conv=>whnf
       repeat' (first|(refine gV ?_;first|refine vE ?_|refine vI ?_)|exact True.intro)<;>conv=>whnf
    .have e:c.has s args=false:=by simp[Ac.has,A,I]
     conv=>whnf
     try dsimp only
     repeat' (first|(refine gC ?_;first|refine .not ?_|(refine gD ?_;first|refine cI ?_|refine cJ ?_))|refine gW (wI ?_)|refine gL (.map ?_)|refine gB (.of (by assumption) ?_))<;>(conv=>whnf;try dsimp only)
     refine⟨(j+1,B3),⟨⟨d,hJ.skip _ _ _ b o e⟩,by dsimp only;omega⟩,?_⟩
     refine al.atS ?_ rfl rfl
     conv=>whnf
     repeat' (first|(refine gV ?_;first|refine vE ?_|refine vI ?_)|exact True.intro)<;>conv=>whnf
   .have e:c.has s args=false:=by simp[Ac.has,A]
    conv=>whnf
    try dsimp only
    repeat' (first|(refine gC ?_;first|refine cY ?_|refine .not ?_|refine gD (cJ ?_))|refine gW (wI ?_)|refine gB (.of (by assumption) ?_))<;>(conv=>whnf;try dsimp only)
    refine⟨(j+1,B3),⟨⟨d,hJ.skip _ _ _ b o e⟩,by dsimp only;omega⟩,?_⟩
    refine al.atS ?_ rfl rfl
    conv=>whnf
    repeat' (first|(refine gV ?_;first|refine vE ?_|refine vI ?_)|exact True.intro)<;>conv=>whnf
  .obtain rfl:j=acc.length:=by omega
   conv=>whnf
   try dsimp only
   repeat' refine gC (gD (cJ ?_))<;>(conv=>whnf;try dsimp only)
   exact⟨_,aD.refl _,.inl ⟨rfl,m⟩⟩
end Go.CK
