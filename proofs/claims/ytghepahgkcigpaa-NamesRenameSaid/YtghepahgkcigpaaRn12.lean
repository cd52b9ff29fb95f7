/- Parts of the proof, in short words: Yg Yh Ym Yn Aa Zg Ab Ac Zh Ad Ae Dd Df Af Zi Yi -/
import Derived.Test.YtghepahgkcigpaaRn0
import Derived.Test.YtghepahgkcigpaaRn10
import Derived.Test.YtghepahgkcigpaaRn7
import Derived.Test.YtghepahgkcigpaaRn3
import Derived.Test.YtghepahgkcigpaaRn11
import Derived.Deep.CutBlock
set_option maxRecDepth 100000
set_option maxHeartbeats 64000000
set_option linter.unusedSimpArgs false
namespace Go.Proofs.Ytghepahgkcigpaa
open Go.RowKit
section
variable{w W w2 w3:World}{tx tr:TypeId}{ls row c:LV}{n:Nat}{o:Obj}
theorem Bx.scope{h0 h1 h2 h3:Ai}(h:Bx w tx ls n row W)(hl:ls=[h0.v,h1.v,h2.v,h3.v]):W.cell? ⟨w.heap.size+1,0,none⟩=some (.slice h0.a h0.n h0.c)∧W.cell? ⟨w.heap.size+1,1,none⟩=some (.slice h1.a h1.n h1.c)∧W.cell? ⟨w.heap.size+1,2,none⟩=some (.slice h2.a h2.n h2.c)∧W.cell? ⟨w.heap.size+1,3,none⟩=some (.slice h3.a h3.n h3.c):=by
 have:=h.l
 subst hl
 simp[World.cell?,this,Ai.v]
theorem Bx.part(h:Bx w tx ls n row W){p m q:LV}(b:row=p++(m++q)){off:Nat}(a:p.length=off):W.rangeAt w.heap.size off m:=by
 have h1:=Aw h.x
 rw[b] at h1
 have:=AO h1
 rwa [a,yB] at this
end
theorem AU{tx:TypeId}{n:Nat}(h:(Try.prog.info? tx).map (·.size)=some n){row:LV}(a:row.length=n):(Try.prog.info? tx).map (·.size)=some row.length:=by rw[a];exact h
theorem Qz{B:Nat}{W:World}{t e ty:TypeId}{i:TypeInfo}{z:Value}{size d:Nat}(C:Try.prog.underlying t=some (.slice e))(hi:Try.prog.info? e=some i)(q:i.zero=some z)(o:i.size=size)(p:i.bytes=d)(y:d<=10000)
 {v:Value}{n:Nat}{xs:LV}(f:W.ownsRow B e size v n xs){g c:Nat}{row:LV}(I:W.heap[g]?=some (.cells row.toArray e (0,0)))(hl:row.length=size)(r:∀u∈row,u.oneCell'=true)(s:n+1<=1000000){v':Value}{w':World}
 (a:(Builtin.append_ #[t,t] ty #[v,.slice (some ⟨g,0,none⟩) 1 c]).run Try.prog W=.ok v' w'):v'.ownBlock=v.ownBlock∨v'.ownBlock=some W.heap.size:=by
 have D:(n+1)*d<=1000000*10000:=Nat.mul_le_mul s y
 have b:∀j u,row[j]?=some u->W.cell? (((aV g 0):Addr).add j)=some u:=fun j u J=>by
  rw[zD]
  simp only[World.cell?,I]
  simpa using J
 have m:row.length=1*i.size:=by rw[o,hl,qt]
 rcases f.2 with ⟨rfl,E⟩|⟨k,cap,A,rfl,G,hk,H,F,x,w⟩
 ·subst E
  rw[run_append_nil W t ty e i _ C hi q (aV g 0) 1 c row m b (by omega) (by omega) (by rw[p];omega)] at a
  cases a
  exact .inr rfl
 ·by_cases h:n+1<=cap
  ·rw[run_append_room W t ty e i C hi k n cap A hk (aV g 0) 1 c row m b r h (by
    rw[o,x,hl]
    calc n*size+size=(n+1)*size:=by rw[qq];omega
     _<=cap*size:=qe _ h)] at a
   cases a
   exact .inl rfl
  ·have l:∀j u,xs[j]?=some u->W.cell? (((aV k 0):Addr).add j)=some u:=World.ownsRow.cells f (g:=k) rfl
   rw[run_append_grow W t ty e i _ C hi q (aV k 0) n cap xs (by rw[o];exact f.1) l (aV g 0) 1 c row m b (by omega) (by omega) (growslice_fits (by omega) (by rw[p];omega))] at a
   cases a
   exact .inr rfl
theorem BA{ops:Array Oper}{rest:List Oper}{o:Oper}{a:Act}{Q:QT}{W:World}{t e:TypeId}(C:Try.prog.underlying t=some (.slice e))(w:o.guard=none)(s x:Operand)(E:o.op=.call {callee:=.builtin .append,args:=#[s,x],argTypes:=#[t,t]})
 (size:Nat)(b:((Try.prog.info? e).bind fun i=>i.zero.map fun z=>(i.size,z.cells.size,decide (i.bytes<=10000)))=some (size,size,true))(q:0 < size)
 (B:Nat)(v:Value)(n:Nat)(xs:LV)(hs:a.eval s=v)(k:W.ownsRow B e size v n xs)(g c:Nat)(row:LV)(H:a.eval x=.slice (some ⟨g,0,none⟩) 1 c)(D:W.heap[g]?=some (.cells row.toArray e (0,0)))(hl:row.length=size)(f:∀u∈row,u.oneCell'=true)(l:n+1<=1000000)(p:B<=W.heap.size)
 (h:∀v' w',w'.ownsRow B e size v' (n+1) (xs++row)->W.grownBy w' v.ownBlock->(v'.ownBlock=v.ownBlock∨v'.ownBlock=some W.heap.size)->wpList Try.prog ops Q rest (a.put o.dst v') w'):wpList Try.prog ops Q (o::rest) a W:=by
 cases d:Try.prog.info? e with
 |none=>simp[d] at b
 |some i0=>
  cases r:i0.zero with
  |none=>simp[d,r] at b
  |some z=>
   simp only[d,r,xJ,xT,yY,zw,yW] at b
   obtain ⟨h1,h2,h3⟩:=b
   have y:(n+1)*i0.bytes<=1000000*10000:=Nat.mul_le_mul l h3
   have m:∀j u,row[j]?=some u->W.cell? (((aV g 0):Addr).add j)=some u:=fun j u J=>by
    rw[zD]
    simp only[World.cell?,D]
    simpa using J
   obtain ⟨v',w',A,I,G,_⟩:=run_append_own (P:=Try.prog) W B t o.type e i0 z size i0.bytes C d r h1 rfl h2 q v n xs k (aV g 0) 1 c row (by rw[hl,qt]) m f (by unfold maxLen;omega) (by omega) p
   have hb:=Qz (ty:=o.type) C d r h1 rfl h3 k D hl f l A
   refine yG w fun K F=>?_
   unfold Oper.wp
   simp[execOp,E,resolve,invoke,builtin,hs,H,A,Result.andThen]
   exact F _ _ (h v' w' I G hb)
def ob(v:Value):List Nat:=v.ownBlock.toList
def G5{δ:Type}(V:NP->World->LV->δ->Prop):Prop:=∀(N N':NP) (w w':World) (cs:LV) (d:δ),(∀b,N b->N' b)->(∀b,N b->w'.heap[b]?=w.heap[b]?)->V N w cs d->V N' w' cs d
section
variable{δ:Type}{V:NP->World->LV->δ->Prop}{F F':NP}{l l':List Nat}{W W':World}{cs:LV}{d:δ}{v v':Value}{ds:List δ}{ty sz B C:Nat}
theorem G5.flux(hs:G5 V)(h:V (GF F W) W cs d)(a:BM F W W')(hl:∀b,F' b->F b∨W.heap.size<=b):V (GF F' W') W' cs d:=hs _ _ _ _ _ _ (fun _ hb=>hb.up a.1 hl) (fun b hb=>a.2 b hb.2 hb.1) h
structure DV (V:(Nat->Prop)->World->List Value->δ->Prop) (ty sz B:Nat) (F:Nat->Prop) (l:List Nat) (W:World) (v:Value) (ds:List δ):Prop where
 own:∃rows:List (List Value),W.ownsRow B ty sz v rows.length rows.flatten∧(∀r∈rows,r.length=sz)∧Az (fun cs d=>V (GF (FL F (l++ob v)) W) W cs d) rows ds
theorem EA:DV V ty sz B F l W (.slice none 0 0) []:=⟨[],⟨by simp,.inl ⟨rfl,rfl⟩⟩,by simp,trivial⟩
theorem FB{n:Nat}{xs:LV}(h:W.ownsRow B ty sz v n xs):∀k∈ob v,B<=k∧k < W.heap.size:=by
 intro k hk
 rcases h.2 with ⟨rfl,_⟩|⟨g,cap,a,rfl,h4,h5,_⟩
 ·simp[ob,Value.ownBlock] at hk
 ·simp only[ob,Value.ownBlock,Option.toList_some,zh] at hk
  subst hk
  exact ⟨h4,(ye.1 h5).1⟩
theorem DV.lt(h:DV V ty sz B F l W v ds):∀k∈ob v,B<=k∧k < W.heap.size:=by
 obtain ⟨rows,h1,_⟩:=h.own
 exact FB h1
theorem CY{n:Nat}{xs:LV}(h:W.ownsRow B ty sz v n xs):∃a m c,v=.slice a m c:=by
 rcases h.2 with ⟨rfl,_⟩|⟨g,cap,b,rfl,_⟩
 ·exact ⟨_,_,_,rfl⟩
 ·exact ⟨_,_,_,rfl⟩
theorem DV.slice(h:DV V ty sz B F l W v ds):∃a m c,v=.slice a m c:=by
 obtain ⟨rows,h1,_⟩:=h.own
 exact CY h1
theorem BH{n:Nat}{xs:LV}(h:W.ownsRow B ty sz v n xs)(hb:∀k∈ob v,W'.heap[k]?=W.heap[k]?):W'.ownsRow B ty sz v n xs:=by
 obtain ⟨h1,h2⟩:=h
 refine ⟨h1,h2.imp id ?_⟩
 rintro ⟨g,cap,a,rfl,h4,h5,h6⟩
 exact ⟨g,cap,a,rfl,h4,(hb g (by simp[ob,Value.ownBlock])).trans h5,h6⟩
theorem QA(hl:∀k∈l',k∈l∨W.heap.size<=k):∀b,FL F l' b->FL F l b∨W.heap.size<=b:=JC hl
theorem DV.up(hs:G5 V)(h:DV V ty sz B F l W v ds)(a:BM (FL F (l++ob v)) W W')(hb:∀k∈ob v,W'.heap[k]?=W.heap[k]?)(hl:∀k∈l',k∈l∨W.heap.size<=k):DV V ty sz B F l' W' v ds:=by
 obtain ⟨rows,h1,h2,h3⟩:=h.own
 refine ⟨rows,BH h1 hb,h2,Az.mono (fun _ _ b=>hs.flux b a (QA fun k hk=>?_)) h3⟩
 rcases yi.1 hk with hk|hk
 ·exact (hl k hk).imp (fun h=>yi.2 (.inl h)) id
 ·exact .inl (yi.2 (.inr hk))
structure Ss (F:Nat->Prop) (l:List Nat) (B C:Nat) (wr W:World):Prop where
 below:Below C wr W
 flux:BM (FL F l) wr W
 own:∀k,B<=k->k < wr.heap.size->W.heap[k]?=wr.heap[k]?
theorem Ss.call{wr:World}(h:Ss F l B C wr W)(hb:Below W.heap.size W W')(a:C<=wr.heap.size):Ss F l B C wr W':=by
 have b:=h.flux.1
 exact ⟨h.below.trans (hb.mono (by omega)),h.flux.trans (BM.below hb),fun k h1 h2=>(hb.block k (by omega)).trans (h.own k h1 h2)⟩
theorem Ss.wrote{wr:World}{b:Nat}{c:LV}{t:TypeId}(h:Ss F l B C wr W)(a:Au W W' b c t)(hb:(b∈l∧b < B)∨wr.heap.size<=b)(d:C<=b):Ss F l B C wr W':=by
 refine ⟨a.below h.below d,?_,fun k h1 h2=>(a.block k ?_).trans (h.own k h1 h2)⟩
 ·rcases hb with hb|hb
  ·exact h.flux.trans (a.flux (.inr hb.1))
  ·exact a.fresh h.flux hb
 ·rcases hb with hb|hb<;>omega
theorem Ss.drew{wr:World}(h:Ss F l B C wr W):Ss F l B C wr W.drew:=⟨h.below.drew,h.flux,h.own⟩
theorem BM.more(a:BM (FL F l) W W')(b:List Nat):BM (FL F (l++b)) W W':=a.wide fun _ _ h=>h.elim .inl fun h=>.inr (yi.2 (.inl h))
theorem DV.rnd(hs:G5 V)(h:DV V ty sz B F l W v ds)(a:Ss F l B C W W'):DV V ty sz B F l W' v ds:=
 h.up hs (a.flux.more _) (fun k hk=>a.own k (h.lt k hk).1 (h.lt k hk).2) (fun _ h=>.inl h)
theorem VE.rnd{css:List LV}{es:List Ex}(h:VE F (l++ob v) W css es)(a:Ss F l B C W W'):VE F (l++ob v) W' css es:=h.up (a.flux.more _) (fun _ h=>.inl h)
structure U1 (V:(Nat->Prop)->World->List Value->δ->Prop) (ty sz B:Nat) (F:Nat->Prop) (l:List Nat) (W W':World) (v v':Value) (ds:List δ):Prop where
 grow:DV V ty sz B F l W' v' ds
 flux:BM (FL F (l++ob v)) W W'
 below:Below B W W'
 obs:∀k∈l++ob v',k∈l++ob v∨W.heap.size<=k
theorem D5{rows:List LV}{row:LV}{o:Obj}(hs:G5 V)(t:Az (fun cs d=>V (GF (FL F (l++ob v)) W) W cs d) rows ds)(u:∀r∈rows,r.length=sz)(c:W.ownsRow B ty sz v rows.length rows.flatten)
 (s:V (GF (FL F (l++ob v)) W) W row d)(i:row.length=sz)(j:W'.ownsRow B ty sz v' (rows.length+1) (rows.flatten++row))(a:(W.alloc o).grownBy W' v.ownBlock)(n:v'.ownBlock=v.ownBlock∨v'.ownBlock=some (W.alloc o).heap.size)(x:B<=W.heap.size):U1 V ty sz B F l W W' v v' (ds++[d]):=by
 have p:Below W.heap.size W (W.alloc o):=(yg _ _).alloc (yf _) _
 have w:(W.alloc o).heap.size=W.heap.size+1:=by simp
 have m:∀k∈ob v',k∈ob v∨W.heap.size<=k:=fun k hk=>by
  rcases n with e|e
  ·left;unfold ob at hk ⊢;rwa [e] at hk
  ·right;unfold ob at hk;rw[e,w] at hk;simp at hk;omega
 have f:BM (FL F (l++ob v)) W W':=by
  refine (BM.below p).trans ⟨a.size,fun k hk q=>a.block k hk fun e=>q (.inr (yi.2 (.inr ?_)))⟩
  unfold ob;rw[<-e];simp
 have b:∀k∈l++ob v',k∈l++ob v∨W.heap.size<=k:=fun k hk=>by
  rcases yi.1 hk with hk|hk
  ·exact .inl (yi.2 (.inl hk))
  ·exact (m k hk).imp (fun h=>yi.2 (.inr h)) id
 refine ⟨⟨rows++[row],by simpa using j,?_,?_⟩,f,?_,b⟩
 ·intro r g
  rcases yi.1 g with g|g
  ·exact u r g
  ·rw[zh.1 g];exact i
 ·exact Az.append (Az.mono (fun _ _ h=>hs.flux h f (QA b)) t) ⟨hs.flux s f (QA b),trivial⟩
 ·refine (p.mono (by omega)).trans ⟨a.os,a.tape,a.output,a.size,fun k hk=>a.block k (by omega) fun e=>?_⟩
  have:=(FB c k (by unfold ob;rw[<-e];simp)).1
  omega
theorem DV.row(hs:G5 V)(h:DV V ty sz B F l W v ds)(m:BM (FL F l) W W')(hb:∀k∈ob v,W'.heap[k]?=W.heap[k]?)(s:∀b,F b->b < B)(d:ds.length<=140737488355328):∃h:Ai,v=h.v∧Av (GF F W') W' sz (V (GF F W') W') h ds:=by
 obtain ⟨rows,h1,h2,h3⟩:=h.own
 have hl:rows.length=ds.length:=Az.length h3
 have p:∀i (hi:i < ds.length) (a:i < rows.length),V (GF F W') W' rows[i] ds[i]:=fun i hi a=>hs.flux (Az.get h3 i a hi) (m.more _) (fun b hb=>.inl (.inl hb))
 rcases h1.2 with ⟨rfl,o⟩|⟨g,cap,q,rfl,h4,h5,h6,w,x,t⟩
 ·exact ⟨⟨none,0,0⟩,rfl,by rw[<-hl,o],d,fun i hi=>by omega⟩
 ·refine ⟨⟨some (aV g 0),rows.length,cap⟩,rfl,hl,d,fun i hi=>?_⟩
  have a:i < rows.length:=by omega
  have f:=hb g (by simp[ob,Value.ownBlock])
  have r:=(ye.1 h5).1
  refine ⟨g,0,rows[i],rfl,⟨fun h=>by have:=s g h;omega,by have:=m.1;omega⟩,h2 _ (yz a),?_,p i hi a⟩
  intro j u n
  have e:j < sz:=by rw[<-h2 _ (yz a)];exact (yA.1 n).1
  have c:=(FY rows sz h2).2 i a j e
  rw[n,<-t] at c
  rw[zJ] at c
  split at c
  ·simp only[World.cell?,f,h5,yB]
   simpa using c
  ·cases c
end
structure Tx (F:Nat->Prop) (l:List Nat) (B C:Nat) (wr:World) (ty:TypeId) (row:List Value) (W:World):Prop where
 rnd:Ss F l B C wr W
 x:W.heap[wr.heap.size]?=some (.cells row.toArray ty (0,0))
section
variable{F:NP}{l l':List Nat}{B C A:Nat}{wr W w2 w3 w4:World}{ty tr:TypeId}{row row' c:LV}{o:Obj}{e:Ex}
theorem Tx.lt(h:Tx F l B C wr ty row W):wr.heap.size < W.heap.size:=(ye.1 h.x).1
theorem Tx.first(h:Tx F l B C wr ty row W)(a:C<=wr.heap.size)(h2:Below W.heap.size W w2)(h3:Au (w2.alloc o) w3 w2.heap.size c tr)(h4:Au w3 w4 wr.heap.size row' ty):Tx F l B C wr ty row' w4:=by
 have h1:=h.lt;have e:=h2.size
 have r2:=h.rnd.call h2 a
 have b:=r2.call (W':=w2.alloc o) ((yg _ _).alloc (yf _) _) a
 have d:=b.wrote h3 (.inr (by omega)) (by omega)
 exact ⟨d.wrote h4 (.inr (yf _)) a,h4.row⟩
theorem Tx.next(h:Tx F l B C wr ty row W)(d:C<=wr.heap.size)(e:A∈l)(a:A < B)(b:C<=A)(h2:Below W.heap.size W w2)(h3:Au w2 w3 A c tr)(h4:Au w3 w4 wr.heap.size row' ty):Tx F l B C wr ty row' w4:=by
 have r2:=h.rnd.call h2 d
 have f:=r2.wrote h3 (.inl ⟨e,a⟩) b
 exact ⟨f.wrote h4 (.inr (yf _)) d,h4.row⟩
theorem AA(a:Au (wr.alloc o) W wr.heap.size row ty):Below wr.heap.size wr W:=a.below ((yg _ _).alloc (yf _) _) (yf _)
theorem Tx.part(h:Tx F l B C wr ty row W){p m q:LV}(b:row=p++(m++q)){off:Nat}(a:p.length=off):W.rangeAt wr.heap.size off m:=by
 have h1:=Aw h.x
 rw[b] at h1
 have:=AO h1
 rwa [a,yB] at this
end
structure U2 {δ:Type} (V:(Nat->Prop)->World->List Value->δ->Prop) (ty sz:Nat) (w:World) (tx:TypeId) (ls:List Value) (n:Nat) (row:List Value) (F:Nat->Prop) (l As:List Nat) (B:Nat) (css:List (List Value)) (es:List Ex) (okP:Nat->Bool) (mpP:Nat->List δ) (i:Nat) (b:Bool) (v:Value) (wr:World):Prop where
 bx:Bx w tx ls n row wr
 a:∀A∈As,∃ca:List Value,ca.length=6∧wr.heap[A]?=some (.cells ca.toArray 26 (0,0))
 ve:VE F (l++ob v) wr css es
 grow:∃ds,DV V ty sz B F l wr v ds∧ds.length=i∧(b=true->ds=mpP i)
 b:b=okP i
 size:B<=wr.heap.size
theorem U2.next{δ:Type}{V:NP->World->LV->δ->Prop}{ty sz:Nat}{w:World}{tx:TypeId}{ls:LV}{n:Nat}{row:LV}{F:NP}{l g:List Nat}{B:Nat}{css:List LV}{es:List Ex}{okP:Nat->Bool}{mpP:Nat->List δ}{i:Nat}{b b':Bool}{v v':Value}{wr W w':World}{ds:List δ}{d:δ}
 (j:U2 V ty sz w tx ls n row F l g B css es okP mpP i b v wr)(h:Ss F l B (w.heap.size+3) wr W)(k:w.heap.size+3<=B)(m:∀A∈g,A < B∧∃e:LV,e.length=6∧W.heap[A]?=some (.cells e.toArray 26 (0,0)))(a:U1 V ty sz B F l W w' v v' (ds++[d]))(c:ds.length=i)(hb:b'=okP (i+1))(f:b'=true->ds++[d]=mpP (i+1)):
  U2 V ty sz w tx ls n row F l g B css es okP mpP (i+1) b' v' w':=by
 refine ⟨(j.bx.up h.below).up (a.below.mono k),fun A f=>?_,(j.ve.rnd h).up a.flux a.obs,⟨_,a.grow,by simp[c],f⟩,hb,yl j.size (yl h.flux.1 a.flux.1)⟩
 obtain ⟨h1,e,h2,h3⟩:=m A f
 exact ⟨e,h2,(a.below.block A h1).trans h3⟩
theorem IM:G5 E0:=fun _ _ _ _ _ _ a hb h=>h.same a hb
theorem Dw:G5 GB:=fun _ _ _ _ _ _ a hb h=>h.same a hb
theorem CZ:G5 DZ:=fun _ _ _ _ _ _ a hb h=>h.same a hb
theorem Ct:G5 CT:=fun _ _ _ _ _ _ a hb h=>h.same a hb
theorem D0:G5 E7:=fun _ _ _ _ _ _ a hb h=>h.same a hb
theorem Cu:G5 CU:=fun _ _ _ _ _ _ a hb h=>h.same a hb
theorem D3:G5 E8:=fun _ _ _ _ _ _ a hb h=>h.same a hb
def LW(N:NP)(w:World)(cs:LV)(d:B6):Prop:=∃h,Hc N w h cs d
theorem Dx:G5 LW:=fun _ _ _ _ _ _ a hb ⟨h,k⟩=>⟨h,k.same a hb⟩
section
variable{δ:Type}{V:NP->World->LV->δ->Prop}{ty sz B:Nat}{F:NP}{l:List Nat}{Xt:List Nat->World->Prop}{okP:Nat->Bool}{mpP:Nat->List δ}{i:Nat}{b b':Bool}{v v':Value}{wr W w':World}{ds:List δ}{d:δ}
structure N8 (V:(Nat->Prop)->World->List Value->δ->Prop) (ty sz B:Nat) (F:Nat->Prop) (l:List Nat) (Xt:List Nat->World->Prop) (okP:Nat->Bool) (mpP:Nat->List δ) (i:Nat) (b:Bool) (v:Value) (wr:World):Prop where
 ex:Xt (l++ob v) wr
 grow:∃ds,DV V ty sz B F l wr v ds∧ds.length=i∧(b=true->ds=mpP i)
 b:b=okP i
 size:B<=wr.heap.size
def WW(F:NP)(B:Nat)(Xt:List Nat->World->Prop):Prop:=∀(l l':List Nat) (W W':World),Xt l W->BM (FL F l) W W'->Below B W W'->(∀k∈l',k∈l∨W.heap.size<=k)->Xt l' W'
theorem N8.next(g:N8 V ty sz B F l Xt okP mpP i b v wr)(e:WW F B Xt)(h:Xt (l++ob v) W)(f:wr.heap.size<=W.heap.size)(c:U1 V ty sz B F l W w' v v' (ds++[d]))(a:ds.length=i)(hb:b'=okP (i+1))(j:b'=true->ds++[d]=mpP (i+1)):
  N8 V ty sz B F l Xt okP mpP (i+1) b' v' w':=
 ⟨e _ _ _ _ h c.flux c.below c.obs,⟨_,c.grow,by simp[a],j⟩,hb,yl g.size (yl f c.flux.1)⟩
theorem Av.flux{F F':NP}{W W':World}{h:Ai}{ds:List δ}(hs:G5 V)(d:Av (GF F W) W sz (V (GF F W) W) h ds)(a:BM F W W')(hl:∀b,F' b->F b∨W.heap.size<=b):Av (GF F' W') W' sz (V (GF F' W') W') h ds:=
 d.same (fun _ hb=>hb.up a.1 hl) (fun b hb=>a.2 b hb.2 hb.1) (fun _ _ c=>hs.flux c a hl)
theorem DV.done(hs:G5 V)(h:DV V ty sz B F l W v ds)(r:∀b,F b->b < B)(hl:∀k∈l,k < B)(d:ds.length<=140737488355328):∃h:Ai,v=h.v∧Av (GF (FL F l) W) W sz (V (GF (FL F l) W) W) h ds:=by
 obtain ⟨rows,h1,h2,h3⟩:=h.own
 have e:rows.length=ds.length:=Az.length h3
 have p:∀i (hi:i < ds.length) (a:i < rows.length),V (GF (FL F l) W) W rows[i] ds[i]:=fun i hi a=>hs.flux (Az.get h3 i a hi) (BM.refl _ _) (fun b hb=>.inl (hb.imp id fun hk=>yi.2 (.inl hk)))
 rcases h1.2 with ⟨rfl,o⟩|⟨g,cap,q,rfl,h4,h5,h6,t,w,s⟩
 ·exact ⟨⟨none,0,0⟩,rfl,by rw[<-e,o],d,fun i hi=>by omega⟩
 ·refine ⟨⟨some (aV g 0),rows.length,cap⟩,rfl,e,d,fun i hi=>?_⟩
  have a:i < rows.length:=by omega
  have m:=(ye.1 h5).1
  refine ⟨g,0,rows[i],rfl,⟨fun h=>h.elim (fun h=>by have:=r g h;omega) (fun h=>by have:=hl g h;omega),m⟩,h2 _ (yz a),?_,p i hi a⟩
  intro j u n
  have f:j < sz:=by rw[<-h2 _ (yz a)];exact (yA.1 n).1
  have c:=(FY rows sz h2).2 i a j f
  rw[n,<-s] at c
  rw[zJ] at c
  split at c
  ·simp only[World.cell?,h5,yB]
   simpa using c
  ·cases c
end
section
variable{P:Program}{ops:Array Oper}{Q:QT}{md:Region.Mode}{T:World->Prop}{k:Nat}
theorem DO{i j:Nat}{o c:Oper}{fuel:Nat}{b:Array Bool}{a:Act}{w:World}(p:Region.ready md ops b=[i,j])(q:ops[i]?=some o)(e:ops[j]?=some c)
 (h:∀K:Act->World->Prop,Hid (∀a w,((b.setIfInBounds i true).getD k true=false->T w)->Da P md ops Q T k fuel (b.setIfInBounds i true) a w->K a w)->if Region.wanted o (yielded ops a.tmps)=true then Oper.wp P o a w K Q else K (a.put o.dst undef) w)
 (r:∀K:Act->World->Prop,Hid (∀a w,((b.setIfInBounds j true).getD k true=false->T w)->Da P md ops Q T k fuel (b.setIfInBounds j true) a w->K a w)->if Region.wanted c (yielded ops a.tmps)=true then Oper.wp P c a w K Q else K (a.put c.dst undef) w):Da P md ops Q T k (fuel+1) b a w:=by
 refine ⟨fun h0=>(by rw[p] at h0;cases h0),fun m d=>?_⟩
 rw[p] at d
 rcases yK.1 d with rfl|d
 ·exact wpOp_step q (fun l g=>h l (yb fun a w f n=>g a w ⟨f,n⟩))
 ·obtain rfl:=zh.1 d
  exact wpOp_step e (fun l g=>r l (yb fun a w f n=>g a w ⟨f,n⟩))
end
structure BX (F:Nat->Prop) (C:Nat) (W W':World):Prop where
 os:W'.os=W.os
 tape:W'.tape=W.tape
 output:W'.output=W.output
 size:W.heap.size<=W'.heap.size
 block:∀k,k < C->¬ F k->W'.heap[k]?=W.heap[k]?
section
variable{F G:NP}{C C':Nat}{W V U:World}{c:LV}{t:TypeId}{b:Nat}{o:Obj}
theorem BX.refl(F:NP)(C:Nat)(W:World):BX F C W W:=⟨rfl,rfl,rfl,yf _,fun _ _ _=>rfl⟩
theorem BX.trans(h:BX F C W V)(k:BX F C V U):BX F C W U:=⟨k.os.trans h.os,k.tape.trans h.tape,k.output.trans h.output,yl h.size k.size,fun i hi a=>(k.block i hi a).trans (h.block i hi a)⟩
theorem BX.mono(h:BX F C W V)(a:C'<=C):BX F C' W V:=⟨h.os,h.tape,h.output,h.size,fun i hi=>h.block i (yr hi a)⟩
theorem BX.of(h:Below C W V):BX F C W V:=⟨h.os,h.tape,h.output,h.size,fun i hi _=>h.block i hi⟩
theorem BX.wrote(h:BX F C W V)(a:Au V U b c t)(hb:C<=b):BX F C W U:=⟨a.os.trans h.os,a.tape.trans h.tape,a.output.trans h.output,by rw[a.size];exact h.size,fun i hi d=>(a.block i (by omega)).trans (h.block i hi d)⟩
theorem BX.alloc(h:BX F C W V)(a:C<=V.heap.size)(o:Obj):BX F C W (V.alloc o):=h.trans (.of ((yg _ _).alloc a _))
theorem BX.drew(h:BX F C W V):BX F C W V.drew:=⟨h.os,h.tape,h.output,h.size,h.block⟩
theorem BX.flux(h:BX F C W V)(d:W.heap.size<=C)(c:∀k,F k->G k):BM G W V:=⟨h.size,fun k hk b=>h.block k (by omega) (fun a=>b (c k a))⟩
end
structure WX (F:Nat->Prop) (W W':World) (b:Nat) (c:List Value) (t:TypeId):Prop where
 os:W'.os=W.os
 tape:W'.tape=W.tape
 output:W'.output=W.output
 size:W'.heap.size=W.heap.size
 row:W'.heap[b]?=some (.cells c.toArray t (0,0))
 block:∀k,k≠b->¬ F k->W'.heap[k]?=W.heap[k]?
section
variable{F G:NP}{C:Nat}{W V U:World}{c:LV}{t:TypeId}{b:Nat}
theorem WX.bx(h:WX F V U b c t)(k:BX F C W V)(hb:C<=b):BX F C W U:=⟨h.os.trans k.os,h.tape.trans k.tape,h.output.trans k.output,by rw[h.size];exact k.size,fun i hi a=>(h.block i (by omega) a).trans (k.block i hi a)⟩
theorem WX.flux(h:WX F W V b c t)(f:∀k,F k->G k)(hb:G b):BM G W V:=⟨by rw[h.size];exact yf _,fun k _ a=>h.block k (fun e=>a (e▸hb)) (fun d=>a (f k d))⟩
end
structure KK (id:Nat) (caps:Array Value) (F:Nat->Prop) (g:Int->Rf->Rf) (q:Int->Rf->Bool) (J:Bool->World->Prop):Prop where
 stab:∀b W W',J b W->(∀k,F k->W'.heap[k]?=W.heap[k]?)->W.heap.size<=W'.heap.size->J b W'
 lt:∀b W,J b W->∀k,F k->k < W.heap.size
 enter:∀args w,(callFunc id args).run Try.prog w=.ok (.enter id args) w
 name:∀c r,r.name.size<=maxLen->(g c r).name.size<=maxLen
 call:∀(b:Bool) (W:World) (c:Int) (B o:Nat) (p:List Value) (r:Rf) (s:List Value) (t:TypeId),J b W->W.heap[B]?=some (.cells (p++(An r++s)).toArray t (0,0))->p.length=o->¬ F B->r.name.size<=maxLen->0<=c->c<=3->
  Calls Try.prog id (#[.int .i64 c,.pointer (some ⟨B,o,none⟩)]++caps) W fun e W'=>e=.returned (.tuple #[])∧J (b&&q c r) W'∧WX F W W' B (p++(An (g c r)++s)) t
mutual
def AQ(g:Int->Rf->Rf):Ex->Ex
 |.mk op n u rn ri args=>.mk op n u (if op=2 then (g 0 ⟨rn,ri⟩).name else rn) (if op=2 then (g 0 ⟨rn,ri⟩).n else ri) (Ht g args)
def Ht(g:Int->Rf->Rf):List Ex->List Ex
 |[]=> []
 |e::r=>AQ g e::Ht g r
end
mutual
def Bh(q:Int->Rf->Bool):Ex->Bool
 |.mk op _ _ rn ri args=>(if op=2 then q 0 ⟨rn,ri⟩ else true)&&U3 q args
def U3(q:Int->Rf->Bool):List Ex->Bool
 |[]=>true
 |e::r=>Bh q e&&U3 q r
end
theorem LX(g:Int->Rf->Rf):∀l,Ht g l=l.map (AQ g)
 |[]=>by rw[Ht];rfl
 |e::r=>by rw[Ht,LX g r];rfl
theorem Pa(q:Int->Rf->Bool):∀l,U3 q l=l.all (Bh q)
 |[]=>by rw[U3];rfl
 |e::r=>by rw[U3,Pa q r];rfl
def XG(F G:NP)(J:Bool->World->Prop)(b:Bool)(e1:Ex)(w:World)(x:Ending)(w':World):Prop:=
 ∃a:LV,x=.returned (.agg a.toArray)∧AS (GF G w') w' e1 a∧J b w'∧BX F w.heap.size w w'
def Vj(N:NP)(w:World)(cs:LV)(d:Ex):Prop:=AS N w d cs
theorem LY:G5 Vj:=fun _ _ _ _ _ _ a hb h=>AS.same a hb h
theorem Af{P:Program}{x y:Code}{Q:QT}{a:Act}{w:World}(h:∀K:Act->World->Prop,Hid (∀a w,Code.wp P y Q a w->K a w)->Code.wp P x (Exit.then K Q) a w):Code.wp P (x.seq y) Q a w:=wp_seq (h _ (yb fun _ _ h=>h))
structure EB (F:Nat->Prop) (w:World) (row:List Value) (wr:World):Prop where
 bx:BX F w.heap.size w wr
 box:wr.heap[w.heap.size]?=some (.cells row.toArray 26 (0,0))
 res:wr.heap[w.heap.size+1]?=some (.cells [Value.int .i64 0,.int .i64 0,.int .i64 0,.string {data:=#[]},.int .i64 0,.slice none 0 0].toArray 26 (0,0))
section
variable{F:NP}{w wr W:World}{row:LV}
theorem EB.lt(h:EB F w row wr):w.heap.size+2<=wr.heap.size:=(ye.1 h.res).1
theorem EB.up(h:EB F w row wr)(a:∀k,F k->k < w.heap.size){C:Nat}(b:w.heap.size+2<=C)(hb:BX F C wr W):EB F w row W:=
 ⟨h.bx.trans (hb.mono (by omega)),(hb.block _ (by omega) (fun k=>xE _ (a _ k))).trans h.box,(hb.block _ (by omega) (fun k=>by have:=a _ k;omega)).trans h.res⟩
theorem EB.rng(h:EB F w row wr){b o:Nat}{c:LV}(d:w.rangeAt b o c)(hb:b < w.heap.size)(a:¬ F b):wr.rangeAt b o c:=A2 d (h.bx.block b hb a)
end
theorem Vk{N:NP}{W:World}{h:Ai}{ds:List Ex}(k:Av N W 6 (Vj N W) h ds):DK N W h.a 0 ds:=by
 refine R4 fun i hi=>?_
 obtain ⟨b,o,cs,h1,h2,h3,h4,h5⟩:=k.2.2 i hi
 exact ⟨b,o,cs,h1,h2,by simpa using h4,h5⟩
theorem G6{fn:Func}{t:Tmp}{ty:TypeId}{R:Ending->World->Prop}{tm:Array Value}{W:World}{b:Nat}{c:LV}{d:TypeDesc}{a:TypeId}(h:fn.results=#[.cell t ty])(e:tm.getD t undef=.pointer (some ⟨b,0,none⟩))(i:W.heap[b]?=some (.cells c.toArray a (0,0)))
 (g:Try.prog.underlying ty=some d)(hd:d.isRow=true)(hi:(Try.prog.info? ty).map (·.size)=some c.length)(f:R (.returned (.agg c.toArray)) W):bodyPost Try.prog fn R .ret {tmps:=tm,defers:=[]} W:=by
 refine xu ?_ rfl f
 have h2:(loadVar ty (aV b 0)).run Try.prog W=.ok (.agg c.toArray) W:=qg _ b 0 ty c d (Aw i) g hd hi
 rw[yH] at e
 simp[results,h,e,asAddr,h2]
def WY(F G:NP)(g:Int->Rf->Rf)(q:Int->Rf->Bool)(J:Bool->World->Prop)(b:Bool)(w:World)(row:LV)(args:List Ex)(i:Nat)(v:Value)(wr:World):Prop:=
 ∃a,EB F w row wr∧J a wr∧a=(b&&(args.take i).all (Bh q))∧DV Vj 26 6 (w.heap.size+2) G [w.heap.size,w.heap.size+1] wr v ((args.take i).map (AQ g))
def XH(id:Nat)(caps:Array Value)(F:NP)(g:Int->Rf->Rf)(q:Int->Rf->Bool)(J:Bool->World->Prop)(e:Ex):Prop:=∀(G:NP) (b:Bool) (w:World) (cs:LV),Bg e->J b w->AS (GF G w) w e cs->(∀k,F k->G k)->(∀k,G k->k < w.heap.size)->
 Calls Try.prog 65 #[.agg cs.toArray,.func (.func id) #[] caps] w (XG F G J (b&&Bh q e) (AQ g e) w)
theorem N9{id:Nat}{caps:Array Value}{F:NP}{g:Int->Rf->Rf}{q:Int->Rf->Bool}{J:Bool->World->Prop}(hc:KK id caps F g q J){op nn u ri:Int}{rn:ByteArray}{args:List Ex}{a:Option Addr}{m cap:Nat}{G:NP}{b:Bool}{w V:World}
 {u0 u3 u5 u6 u7 u8 u9 u10 u11 cl c6 u14 u15 u16 bv ch ce bg c7 ck cn bp bn bh c8 c5 bu cg:Value}(hm:m=args.length)(hl:args.length<=100000)(a8:E1 args)(b5:rn.size<=maxLen)(W:DK (GF G w) w a 0 args)(a0:∀k,F k->G k)(hG:∀k,G k->k < w.heap.size)
 (ih:∀e∈args,XH id caps F g q J e)
 (Z:EB F w [.int .i64 op,.int .i64 nn,.int .i64 u,.string rn,.int .i64 ri,.slice a m cap] V)(hJ:J b V):
  Code.wp Try.prog (CJ 2 (Try.f65.body.getD .skip)) (bodyPost Try.prog Try.f65 (XG F G J (b&&args.all (Bh q)) (.mk op nn u rn ri (args.map (AQ g))) w)) {tmps:=#[u0,.func (.func id) #[] caps,.pointer (some ⟨w.heap.size,0,none⟩),u3,.pointer (some ⟨w.heap.size+1,0,none⟩),u5,u6,u7,u8,u9,u10,u11,cl,c6,u14,u15,u16,bv,ch,ce,bg,c7,ck,cn,bp,bn,bh,c8,c5,bu,cg],defers:=[]} V:=by
 obtain ⟨row,N⟩:∃r:LV,r=[iV op,iV nn,iV u,.string rn,iV ri,.slice a m cap]:=⟨_,rfl⟩
 rw[<-N] at Z
 have cd:=yb N
 have HM:=yb hm
 have HL:=yb hl
 have bt:=yb a8
 have b9:=yb b5
 have ar:=yb W
 have H:=yb a0
 have HG:=yb hG
 have IH:=yb ih
 have j:=yb Z
 have HC:=yb hc
 have HJ:=yb hJ
 have s:Hid (∀k,F k->k < w.heap.size):=yb (fun k hk=>hG k (a0 k hk))
 have HN:Hid (m<=140737488355328):=yb (by omega)
 have cb:V.cell? (aV w.heap.size 5)=some (.slice a m cap):=by simp[World.cell?,Z.box,N]
 clear N hm hl a8 b5 W a0 hG ih Z hc hJ
 refine Af fun K hK=>?_
 go_wp2
 refine hK.o _ _ ?_
 clear hK K
 obtain ⟨I,hI⟩:∃I:Nat->Value->World->Prop,I=WY F G g q J b w row args:=⟨_,rfl⟩
 have HI:=yb hI
 have ao:Hid (I 0 (.slice none 0 0) V):=yb (by rw[hI];exact ⟨b,j.o,HJ.o,by simp,by simpa using EA⟩)
 clear hI j HJ
 refine Af fun K hK=>?_
 go_wp2
 go_loopw [5,17] (fun v5 iv wr=>∃i:Nat,iv=iV i∧i<=m∧Hid (I i v5 wr)) (fun _ iv _=>m - (intOf iv).toNat)
 case atStart=>exact ⟨0,rfl,yC _,ao⟩
 case round=>
  clear ao
  obtain ⟨i,rfl,hi,ay⟩:=hrel
  obtain ⟨bb,Z,hJ,ak,a1⟩:WY F G g q J b w row args i u5 wr:=by have h:=ay.o;rw[HI.o] at h;exact h
  obtain ⟨va,R,vc,rfl⟩:=a1.slice
  have j:=yb Z;have HJ:=yb hJ;have HB:=yb ak;have f:=yb a1
  clear ay Z hJ ak a1
  have cp:m<=140737488355328:=HN.o
  by_cases be:i < m
  ·have l:i < args.length:=by rw[<-HM.o];exact be
   have bz:(i:Int) < (m:Int):=by omega
   obtain ⟨bq,oq,Y,he,L,X,O⟩:=Em ar.o i l
   obtain rfl:a=some (aV bq oq):=he
   rw[yB] at X
   have ah:Hid ((b&&(args.take (i+1)).all (Bh q))=(bb&&Bh q args[i])):=yb (by
    rw[yt l,zj,zf,zA,yX,<-zc,<-HB.o])
   have al:Hid ((args.take (i+1)).map (AQ g)=(args.take i).map (AQ g)++[AQ g args[i]]):=yb (by rw[yt l,zb];rfl)
   have bw:Hid (i+1<=1000000):=yb (by have:=HL.o;have:=HM.o;omega)
   have aa:Hid (Bg args[i]):=yb (K9 bt.o i l)
   have au:=yb (IH.o args[i] (yz l))
   have ci:Hid (((args.take i).map (AQ g)).length=i):=yb (by simp;omega)
   generalize hD:args[i]=D at O ah al aa au
   clear hD
   have av:=yb O
   have P:Hid (Y.length=6):=yb O.len
   have c9:Hid (wr.rangeAt bq (oq+i*6) Y):=yb (j.o.rng X L.2 (fun k=>L.1 (H.o _ k)))
   have cr:Hid (bq < wr.heap.size):=yb (yr L.2 j.o.bx.size)
   clear X O L l
   go_upto_region 7 with (first
    |(refine ym rfl 26 _ rfl bq (oq+i*6) rfl Y _ c9.o qD rfl (Ci P.o) ?_)
    |(refine Ae rfl 26 _ _ rfl wr.heap.size rfl Y rfl (World.alloc_heap_new _ _) (by rw[yD,P.o];rfl) (Ci P.o) (Ao av.o) ?_;intro x1 aq;have b4:=yb aq;clear aq))
   have y:Hid (Below wr.heap.size wr x1):=yb (b4.o.below ((yg _ _).alloc (yf _) _) (yf _))
   have bo:Hid (J bb x1):=yb (HC.o.stab _ _ _ HJ.o (fun k hk=>y.o.block k (by have:=s.o k hk;have:=j.o.lt;omega)) y.o.size)
   have cm:Hid (∀(x:World),BX F w.heap.size w x->BM G w x):=yb (fun x h=>h.flux (yf _) H.o)
   have ba:Hid (AS (GF (FL G ([w.heap.size,w.heap.size+1]++ob (.slice va R vc))) x1) x1 D Y):=yb (av.o.flux (cm.o _ (j.o.bx.trans (.of (y.o.mono j.o.bx.size)))) (fun k hk=>hk.imp (fun h=>h) (fun h=>by
    rcases yi.1 h with h|h
    ·simp at h;omega
    ·have:=(f.o.lt k h).1;omega)))
   have aj:=yb (au.o (FL G ([w.heap.size,w.heap.size+1]++ob (.slice va R vc))) bb x1 Y aa.o bo.o ba.o (fun k hk=>.inl (H.o k hk)) (fun k hk=>by
    have h1:=j.o.lt;have h2:=y.o.size
    rcases hk with hk|hk
    ·have:=HG.o k hk;omega
    ·rcases yi.1 hk with h|h
     ·simp at h;omega
     ·have:=(f.o.lt k h).2;omega))
   go_upto_region 8 with (first
    |(refine ym rfl 26 _ rfl wr.heap.size 0 rfl Y _ (Aw b4.o.row) qD rfl (Ci P.o) ?_)
    |(go_at_call 65;refine aj.o.mono ?_;rintro e x2 ⟨res,rfl,ai,an,ax⟩;have A:=yb ai;have c3:=yb an;have T:Hid (BX F wr.heap.size wr x2):=yb ((BX.of y.o).trans (ax.mono y.o.size));clear ai an ax
      have ac:Hid (∀k∈ob (.slice va R vc),¬ F k∧w.heap.size+2<=k∧k < wr.heap.size):=yb (fun k hk=>⟨fun h=>by have:=s.o k h;have:=(f.o.lt k hk).1;omega,f.o.lt k hk⟩)
      obtain ⟨rows,E,ag,B⟩:=(f.o.up LY (T.o.flux (yf _) (fun k hk=>.inl (H.o k hk))) (fun k hk=>T.o.block k (ac.o k hk).2.2 (ac.o k hk).1) (fun _ h=>.inl h)).own
      have cc:=yb E;have ca:=yb ag;have ae:=yb B
      have U:Hid (w.heap.size+2<=x2.heap.size):=yb (by have:=T.o.size;have:=j.o.lt;omega)
      have ad:Hid ((x2.alloc (.cells res.toArray 26)).ownsRow (w.heap.size+2) 26 6 (.slice va R vc) rows.length rows.flatten):=yb (BH E fun k hk=>((yg _ _).alloc (yf _) _).block k (FB E k hk).2)
      have a6:Hid (rows.length+1<=1000000):=yb (by rw[Az.length B,ci.o];exact bw.o)
      have b8:Hid (w.heap.size+2<=(x2.alloc (.cells res.toArray 26)).heap.size):=yb (by have:=U.o;simp;omega)
      clear E ag B)
    |(refine Cc rfl 24 26 _ rfl res rfl 6 qC (by kernel_rfl) A.o.len (by omega) (by omega) ?_)
    |(at_builtin;refine BA qC rfl _ _ rfl 6 (by kernel_rfl) (by omega) (w.heap.size+2) (.slice va R vc) rows.length rows.flatten rfl ad.o x2.heap.size 1 res rfl (World.alloc_heap_new _ _) A.o.len (Ao A.o) a6.o b8.o ?_;intro vx x8 C a2 b3;obtain ⟨xa,xn,xc,rfl⟩:=CY C;have Q:=yb (D5 LY ae.o ca.o cc.o A.o A.o.len C a2 b3 U.o);clear C a2 b3))
   go_wp2
   have az:Hid (BX F (w.heap.size+2) wr x8):=yb ((T.o.mono j.o.lt).trans (.of Q.o.below))
   have cf:Hid (I (i+1) (.slice xa xn xc) x8):=yb (by
    rw[HI.o]
    refine ⟨bb&&Bh q D,j.o.up s.o (yf _) az.o,HC.o.stab _ _ _ c3.o (fun k hk=>Q.o.below.block k (by have:=s.o k hk;omega)) Q.o.flux.1,ah.o.symm,?_⟩
    rw[al.o];exact Q.o.grow)
   exact ⟨⟨i+1,by push_cast;rfl,by omega,cf⟩,by simp[intOf];omega⟩
  ·obtain rfl:i=m:=by omega
   have bz:decide ((i:Int) < (i:Int))=false:=by simp
   have HQ:Hid (bb=(b&&args.all (Bh q))):=yb (by rw[HB.o,HM.o,yx])
   have ap:Hid (DV Vj 26 6 (w.heap.size+2) G [w.heap.size,w.heap.size+1] wr (.slice va R vc) (args.map (AQ g))):=yb (by have h:=f.o;rw[HM.o,yx] at h;exact h)
   clear f HB
   go_wp2
   refine hK.o _ _ ?_
   obtain ⟨c,S⟩:∃r:LV,r=[iV op,iV nn,iV u,.string rn,iV ri,.slice va R vc]:=⟨_,rfl⟩
   have a7:=yb S
   have M:Hid (c.length=6):=yb (by rw[S];rfl)
   have co:Hid (∀v∈c,v.oneCell'=true):=yb (by rw[S];simp[Value.oneCell'])
   have cj:Hid (wr.heap[w.heap.size]?=some (.cells ([iV op,iV nn,iV u,.string rn,iV ri]++(Value.slice a i cap::[])).toArray 26 (0,0))):=yb (by have h:=j.o.box;rw[cd.o] at h;exact h)
   clear S
   go_wp2_with (first
    |(refine Al rfl 24 _ _ rfl w.heap.size 5 rfl (.slice va R vc) rfl rfl (p:=[iV op,iV nn,iV u,.string rn,iV ri]) (m:=.slice a i cap) (q:=[]) (t:=26) cj.o rfl (by kernel_rfl) rfl ?_;intro x5 af;have d:Hid (Au wr x5 w.heap.size c 26):=yb (by rw[a7.o];exact af);clear af)
    |(refine ym rfl 26 _ rfl w.heap.size 0 rfl c _ (Aw d.o.row) qD rfl (Ci M.o) ?_)
    |(refine Ae rfl 26 _ _ rfl (w.heap.size+1) rfl c rfl ((d.o.block _ (by omega)).trans j.o.res) (by rw[M.o];rfl) (Ci M.o) co.o ?_;intro x6 am;have z:=yb am;clear am))
   refine G6 rfl rfl z.o.row qD rfl (by rw[M.o];kernel_rfl) ?_
   have bd:BX F w.heap.size w x6:=(j.o.bx.wrote d.o (yf _)).wrote z.o (Nat.le_succ _)
   have bi:J bb x6:=HC.o.stab _ _ _ HJ.o (fun k hk=>(z.o.block k (by have:=s.o k hk;omega)).trans (d.o.block k (by have:=s.o k hk;omega))) (by rw[z.o.size,d.o.size];exact yf _)
   refine ⟨c,rfl,?_,by rw[<-HQ.o];exact bi,bd⟩
   rw[a7.o,AS]
   have bj:BM (FL G [w.heap.size,w.heap.size+1]) wr x6:=(d.o.flux (.inr (by simp))).trans (z.o.flux (.inr (by simp)))
   have bm:∀k∈ob (.slice va R vc),x6.heap[k]?=wr.heap[k]?:=fun k hk=>by
    have h1:=(ap.o.lt k hk).1
    exact (z.o.block k (by omega)).trans (d.o.block k (by omega))
   obtain ⟨h,he,aw⟩:=ap.o.row LY bj bm (fun k hk=>by have:=HG.o k hk;omega) (by have:=HL.o;simp;omega)
   have hn:h.n=(args.map (AQ g)).length:=aw.1
   obtain ⟨ha,cq,cu⟩:=h
   simp only[Ai.v,xf] at he
   obtain ⟨rfl,rfl,rfl⟩:=he
   simp only at hn
   subst hn
   exact ⟨va,vc,rfl,by have:=HL.o;simp;omega,b9.o,Vk aw⟩
theorem Bn{id:Nat}{caps:Array Value}{F:NP}{g:Int->Rf->Rf}{q:Int->Rf->Bool}{J:Bool->World->Prop}(hc:KK id caps F g q J):∀e:Ex,XH id caps F g q J e:=by
 refine Ib fun op M u rn ri args ih=>?_
 intro G b w cs hs E S j A
 rw[AS] at S
 obtain ⟨a,cap,rfl,hl,r,d⟩:=S
 rw[Bg] at hs
 rw[Bh,AQ,LX,Pa]
 have s:∀k,F k->k < w.heap.size:=fun k hk=>A k (j k hk)
 by_cases h2:op=2
 ·subst h2
  rw[yw rfl,yw rfl,yw rfl,<-zc]
  obtain ⟨m,v⟩:∃m,m=args.length:=⟨_,rfl⟩
  rw[<-v]
  have C:=yb hs
  have R:=yb v
  have i:=yb d
  have N:=yb A
  have z:=yb j
  have Q:=yb ih
  have p:=yb r
  have L:=yb E
  have t:=yb hc
  have n:=yb s
  clear d A j ih hl r E hc hs v s
  go_enter Try.func65,Try.ntmps65
  refine Af fun O l=>?_
  go_wp2
  refine l.o _ _ ?_
  clear l O
  obtain ⟨w1,c⟩:∃w1,w1=((w.alloc (.cells #[iV 2,iV M,iV u,.string rn,iV ri,.slice a m cap] 26)).alloc (.cells jb 26)):=⟨_,rfl⟩
  rw[<-c]
  have f:=yb (WV c)
  clear c
  obtain ⟨c0,c1,c2,U,c4,V⟩:=Sp f.o.box
  have x:Hid (J b w1):=yb (t.o.stab b w w1 L.o (fun k hk=>f.o.below.block k (n.o k hk)) f.o.below.size)
  have P:=yb (t.o.call b w1 0 w.heap.size 3 [iV 2,iV M,iV u] ⟨rn,ri⟩ [.slice a m cap] 26 x.o f.o.box rfl (fun h=>xE _ (n.o _ h)) p.o (by decide) (by decide))
  refine Af fun K I=>?_
  go_wp2
  rw[t.o.enter,zW]
  refine P.o.mono ?_
  rintro e w2 ⟨rfl,D,B⟩
  have H:=yb D;have y:=yb B
  clear D B
  go_wp2
  refine I.o _ _ ?_
  exact N9 t.o R.o C.o.1 C.o.2 (t.o.name 0 ⟨rn,ri⟩ p.o) i.o z.o N.o Q.o ⟨y.o.bx (.of f.o.below) (yf _),y.o.row,(y.o.block _ (by omega) (fun h=>by have:=n.o _ h;omega)).trans f.o.res⟩ H.o
 ·have T:(op==2)=false:=by simpa using h2
  rw[yu h2,yu h2,yu h2,xP]
  obtain ⟨m,v⟩:∃m,m=args.length:=⟨_,rfl⟩
  rw[<-v]
  have C:=yb hs
  have R:=yb v
  have i:=yb d
  have N:=yb A
  have z:=yb j
  have Q:=yb ih
  have p:=yb r
  have L:=yb E
  have t:=yb hc
  have n:=yb s
  clear d A j ih hl r E hc hs v s
  go_enter Try.func65,Try.ntmps65
  refine Af fun O l=>?_
  go_wp2
  refine l.o _ _ ?_
  clear l O
  obtain ⟨w1,c⟩:∃w1,w1=((w.alloc (.cells #[iV op,iV M,iV u,.string rn,iV ri,.slice a m cap] 26)).alloc (.cells jb 26)):=⟨_,rfl⟩
  rw[<-c]
  have f:=yb (WV c)
  clear c
  obtain ⟨c0,c1,c2,U,c4,V⟩:=Sp f.o.box
  have x:Hid (J b w1):=yb (t.o.stab b w w1 L.o (fun k hk=>f.o.below.block k (n.o k hk)) f.o.below.size)
  refine Af fun K I=>?_
  go_wp2
  refine I.o _ _ ?_
  exact N9 t.o R.o C.o.1 C.o.2 p.o i.o z.o N.o Q.o ⟨.of f.o.below,f.o.box,f.o.res⟩ x.o
structure Rs (w:World) (cs ls row:List Value) (S4 X5:Nat) (V0 W:World):Prop where
 below:Below w.heap.size w W
 s:W.heap[w.heap.size]?=some (.cells cs.toArray 35 (0,0))
 z:∃zr:List Value,zr.length=26∧W.heap[w.heap.size+1]?=some (.cells zr.toArray 35 (0,0))
 l:W.heap[S4]?=some (.cells ls.toArray 109 (0,0))
 x:W.heap[X5]?=some (.cells row.toArray 35 (0,0))
 b0:w.heap.size+2<=S4
 b1:S4 < V0.heap.size
 b2:V0.heap.size<=X5
 v0:Below V0.heap.size V0 W
section
variable{w V0 W W':World}{cs ls row row':LV}{S4 X5 B:Nat}
theorem Rs.lt(h:Rs w cs ls row S4 X5 V0 W):X5 < W.heap.size:=(ye.1 h.x).1
theorem Rs.up(h:Rs w cs ls row S4 X5 V0 W)(hb:Below B W W')(b:X5 < B):Rs w cs ls row S4 X5 V0 W':=by
 have h0:=h.b0;have h1:=h.b1;have h2:=h.b2
 obtain ⟨a,c,d⟩:=h.z
 exact ⟨h.below.trans (hb.mono (by omega)),(hb.block _ (by omega)).trans h.s,⟨a,c,(hb.block _ (by omega)).trans d⟩,(hb.block _ (by omega)).trans h.l,(hb.block _ b).trans h.x,h0,h1,h2,h.v0.trans (hb.mono (by omega))⟩
theorem Rs.call(h:Rs w cs ls row S4 X5 V0 W)(hb:Below W.heap.size W W'):Rs w cs ls row S4 X5 V0 W':=h.up hb h.lt
theorem Rs.wrote(h:Rs w cs ls row S4 X5 V0 W)(a:Au W W' X5 row' 35):Rs w cs ls row' S4 X5 V0 W':=by
 have h0:=h.b0;have h1:=h.b1;have h2:=h.b2
 obtain ⟨b,c,d⟩:=h.z
 exact ⟨a.below h.below (by omega),(a.block _ (by omega)).trans h.s,⟨b,c,(a.block _ (by omega)).trans d⟩,(a.block _ (by omega)).trans h.l,a.row,h0,h1,h2,a.below h.v0 h2⟩
theorem Rs.cell{p q:LV}{v:Value}(h:Rs w cs ls row S4 X5 V0 W)(hc:cs=p++(v::q)){o:Nat}(a:p.length=o):W.cell? ⟨w.heap.size,o,none⟩=some v:=by
 have h1:=Aw h.s
 rw[hc] at h1
 have h2:=AO (p:=p) (c:=[v]) (q:=q) h1
 rw[a,yB] at h2
 exact CL h2
theorem Rs.cellx{p q:LV}{v:Value}(h:Rs w cs ls row S4 X5 V0 W)(hc:row=p++(v::q)){o:Nat}(a:p.length=o):W.cell? ⟨X5,o,none⟩=some v:=by
 have h1:=Aw h.x
 rw[hc] at h1
 have h2:=AO (p:=p) (c:=[v]) (q:=q) h1
 rw[a,yB] at h2
 exact CL h2
end
structure Vq (k:Nat) (N:Nat->Prop) (W:World) (c0 c1 c2:List Value) (hl hc h2 h3 h4 h5 h6:Ai) (y:Am):Prop where
 name:y.name.size<=maxLen
 e0:AS N W y.season c0
 e1:AS N W y.cap c1
 e2:AS N W y.start c2
 lets:Av N W 7 (GB N W) hl y.lets
 crops:Av N W 7 (DZ N W) hc y.crops
 reaches:0 < k->Av N W 51 (CT N W) h2 y.reaches
 farms:1 < k->Av N W 12 (E7 N W) h3 y.farms
 rots:2 < k->Av N W 23 (LW N W) h4 y.rots
 rights:3 < k->Av N W 37 (CU N W) h5 y.rights
 duties:4 < k->Av N W 11 (E8 N W) h6 y.duties
section
variable{k:Nat}{F F':NP}{W W':World}{c0 c1 c2:LV}{hl hc h2 h3 h4 h5 h6:Ai}{y:Am}
theorem Vq.flux(h:Vq k (GF F W) W c0 c1 c2 hl hc h2 h3 h4 h5 h6 y)(c:BM F W W')(a:∀b,F' b->F b∨W.heap.size<=b):Vq k (GF F' W') W' c0 c1 c2 hl hc h2 h3 h4 h5 h6 y:=
 ⟨h.name,h.e0.flux c a,h.e1.flux c a,h.e2.flux c a,h.lets.flux Dw c a,h.crops.flux CZ c a,fun k=>(h.reaches k).flux Ct c a,fun k=>(h.farms k).flux D0 c a,fun k=>(h.rots k).flux Dx c a,fun k=>(h.rights k).flux Cu c a,fun k=>(h.duties k).flux D3 c a⟩
end
section
variable{δ:Type}{V:NP->World->LV->δ->Prop}{ty sz B:Nat}{F:NP}{l:List Nat}{Xt:List Nat->World->Prop}{okP:Nat->Bool}{mpP:Nat->List δ}{i:Nat}{b:Bool}{v:Value}{W W':World}{X:Nat}{c:LV}{tx:TypeId}
theorem N8.put(e:N8 V ty sz B F l Xt okP mpP i b v W)(hs:G5 V)(h:Xt (l++ob v) W')(a:Au W W' X c tx)(d:X∈l)(g:X < B):N8 V ty sz B F l Xt okP mpP i b v W':=by
 obtain ⟨ds,f,h1,h2⟩:=e.grow
 exact ⟨h,⟨ds,f.up hs (a.flux (.inr (yi.2 (.inl d)))) (fun k hk=>a.block k (by have:=(f.lt k hk).1;omega)) (fun k hk=>.inl hk),h1,h2⟩,e.b,by rw[a.size];exact e.size⟩
end
theorem Kk{N:NP}{w:World}{cs:LV}{d:At}(h:CT N w cs d):cs.length=51∧∀v∈cs,v.oneCell'=true:=by
 obtain ⟨_,_,c0,c1,c2,l,c4,m,j,k,rfl,b,g1,f,g,a,i,c,e⟩:=h
 exact ⟨by simp[A8,b.len,g1.len,f.len,g.len,a.len,i.len,c.len,e.len],AL rfl (Ax (Dk _) (Ax (Ao b) (Ax (Ao g1) (Ax (Ao f) (Ax (Ao g) (Ax (Ao a) (Ax (Ao i) (Ax (Ao c) (Ao e)))))))))⟩
theorem JI{N:NP}{w:World}{cs:LV}{d:Bd}(h:E7 N w cs d):cs.length=12∧∀v∈cs,v.oneCell'=true:=by
 obtain ⟨_,_,_,c,rfl,g⟩:=h
 exact ⟨by simp[A8,g.len],AL rfl (Ax (Dk _) (AL rfl (Ax (Ao g) (Dk _))))⟩
theorem L3{N:NP}{w:World}{cs:LV}{d:B6}(h:LW N w cs d):cs.length=23∧∀v∈cs,v.oneCell'=true:=by
 obtain ⟨_,_,_,c0,c1,c2,rfl,b,g1,a,_⟩:=h
 exact ⟨by simp[A8,b.len,g1.len,a.len],AL rfl (Ax (Dk _) (AL rfl (Ax (Ao b) (Ax (Ao g1) (Ax (Ao a) (AL rfl (fun _ h=>nomatch h)))))))⟩
theorem IT{N:NP}{w:World}{cs:LV}{d:AG}(h:CU N w cs d):cs.length=37∧∀v∈cs,v.oneCell'=true:=by
 obtain ⟨_,_,_,c0,c1,c2,f,c4,rfl,e,g1,a,b,c⟩:=h
 exact ⟨by simp[A8,e.len,g1.len,a.len,b.len,c.len],AL rfl (AL rfl (Ax (Dk _) (Ax (Dk _) (AL rfl (Ax (Ao e) (Ax (Ao g1) (Ax (Ao a) (Ax (Ao b) (Ao c)))))))))⟩
theorem JJ{N:NP}{w:World}{cs:LV}{d:BR}(h:E8 N w cs d):cs.length=11∧∀v∈cs,v.oneCell'=true:=by
 obtain ⟨_,_,_,c,rfl,g⟩:=h
 exact ⟨by simp[A8,g.len],AL rfl (Ax (Dk _) (Ax (Dk _) (Ao g)))⟩
def IU(t:Tb)(x:Am):Am:={x with season:=E3 t.lets x.season,cap:=E3 t.lets x.cap,start:=E3 t.lets x.start,lets:=x.lets.zipIdx.map fun p=>Ez t p.1 p.2,crops:=x.crops.map (Ec t)}
def FO(t:Tb)(x:Am):Am:={IU t x with reaches:=x.reaches.zipIdx.map fun p=>CX t p.1 p.2,farms:=x.farms.map (Eb t),rots:=x.rots.map (FN t),rights:=x.rights.map (DU t),duties:=x.duties.map (Ew t)}
def Pt:Ex:=.mk 0 0 0 ⟨#[]⟩ 0 []
def Ni:Am:=⟨⟨#[]⟩,Pt,Pt,Pt,[],[],[],[],[],[],[]⟩
def Dy(N:NP)(w:World)(cs:LV)(y:Am):Prop:=∃L,Bb N w L cs y
theorem Ug(N:NP)(w:World):Dy N w A5 Ni:=by
 have a:∀ {α:Type} (sz:Nat) (P:LV->α->Prop),Av N w sz P ⟨none,0,0⟩ []:=fun _ _=>⟨rfl,by simp,fun i hi=>by simp at hi⟩
 have b:AS N w Pt [iV 0,iV 0,iV 0,.string {data:=#[]},iV 0,.slice none 0 0]:=by
  unfold Pt
  rw[AS]
  exact ⟨none,0,rfl,by simp,(by decide:(0:Nat)<=maxLen),by rw[DK];trivial⟩
 refine ⟨⟨0,⟨none,0,0⟩,⟨none,0,0⟩,⟨none,0,0⟩,⟨none,0,0⟩,⟨none,0,0⟩,⟨none,0,0⟩,⟨none,0,0⟩,[]⟩,?_⟩
 exact ⟨(by decide:(0:Nat)<=maxLen),⟨_,_,_,rfl,b,b,b⟩,a _ _,a _ _,a _ _,a _ _,⟨rfl,by simp[Ni],fun i hi=>by simp[Ni] at hi⟩,a _ _,a _ _⟩
theorem IV{N:NP}{W:World}{c0 c1 c2:LV}{hl hc h2 h3 h4 h5 h6:Ai}{y:Am}(h:Vq 5 N W c0 c1 c2 hl hc h2 h3 h4 h5 h6 y):Dy N W (.string y.name::(c0++(c1++(c2++[hl.v,hc.v,h2.v,h3.v,h4.v,h5.v,h6.v])))) y:=by
 obtain ⟨d,l,k⟩:=h.rots (by omega)
 have c:∀i:Nat,∃t:Ai,∀(hi:i < y.rots.length),∃b o cs,h4.a=some (aV b o)∧N b∧cs.length=23∧W.rangeAt b (o+i*23) cs∧Hc N W t cs y.rots[i]:=fun i=>by
  by_cases hi:i < y.rots.length
  ·obtain ⟨b,o,cs,g1,m,n,g,t,p⟩:=k i hi
   exact ⟨t,fun _=>⟨b,o,cs,g1,m,n,g,p⟩⟩
  ·exact ⟨⟨none,0,0⟩,fun h=>absurd h hi⟩
 obtain ⟨f,j⟩:=Classical.axiomOfChoice c
 refine ⟨⟨0,hl,hc,h2,h3,h4,h5,h6,(List.range y.rots.length).map f⟩,h.name,⟨c0,c1,c2,rfl,h.e0,h.e1,h.e2⟩,h.lets,h.crops,h.reaches (by omega),h.farms (by omega),⟨d,l,fun i hi=>?_⟩,h.rights (by omega),h.duties (by omega)⟩
 have e:A4 ⟨0,hl,hc,h2,h3,h4,h5,h6,(List.range y.rots.length).map f⟩ i=f i:=by
  unfold A4
  simp[xj,hi]
 rw[e]
 exact j i hi
theorem Dy.len{N:NP}{w:World}{cs:LV}{y:Am}(h:Dy N w cs y):cs.length=26:=by
 obtain ⟨L,c⟩:=h
 obtain ⟨c0,c1,c2,rfl,b,g1,a⟩:=c.cells
 simp[b.len,g1.len,a.len]
theorem Dy.one{N:NP}{w:World}{cs:LV}{y:Am}(h:Dy N w cs y):∀v∈cs,v.oneCell'=true:=by
 obtain ⟨L,c⟩:=h
 obtain ⟨c0,c1,c2,rfl,b,g1,a⟩:=c.cells
 exact AL rfl (Ax (Ao b) (Ax (Ao g1) (Ax (Ao a) (AL rfl (AL rfl (AL rfl (AL rfl (AL rfl (AL rfl (AL rfl (fun _ h=>nomatch h)))))))))))
theorem Dy.flux{F F':NP}{W W':World}{cs:LV}{y:Am}(h:Dy (GF F W) W cs y)(a:BM F W W')(hl:∀b,F' b->F b∨W.heap.size<=b):Dy (GF F' W') W' cs y:=by
 obtain ⟨L,c⟩:=h
 exact ⟨L,c.same (fun _ hb=>hb.up a.1 hl) (fun b hb=>a.2 b hb.2 hb.1)⟩
def Kl(u:Nat->Value):Array Value:=((List.range 303).map u).toArray
theorem Gt(u:Nat->Value):Kl u=#[u 0,u 1,u 2,u 3,u 4,u 5,u 6,u 7,u 8,u 9,u 10,u 11,u 12,u 13,u 14,u 15,u 16,u 17,u 18,u 19,u 20,u 21,u 22,u 23,u 24,u 25,u 26,u 27,u 28,u 29,u 30,u 31,u 32,u 33,u 34,u 35,u 36,u 37,u 38,u 39,u 40,u 41,u 42,u 43,u 44,u 45,u 46,u 47,u 48,u 49,u 50,u 51,u 52,u 53,u 54,u 55,u 56,u 57,u 58,u 59,u 60,u 61,u 62,u 63,u 64,u 65,u 66,u 67,u 68,u 69,u 70,u 71,u 72,u 73,u 74,u 75,u 76,u 77,u 78,u 79,u 80,u 81,u 82,u 83,u 84,u 85,u 86,u 87,u 88,u 89,u 90,u 91,u 92,u 93,u 94,u 95,u 96,u 97,u 98,u 99,u 100,u 101,u 102,u 103,u 104,u 105,u 106,u 107,u 108,u 109,u 110,u 111,u 112,u 113,u 114,u 115,u 116,u 117,u 118,u 119,u 120,u 121,u 122,u 123,u 124,u 125,u 126,u 127,u 128,u 129,u 130,u 131,u 132,u 133,u 134,u 135,u 136,u 137,u 138,u 139,u 140,u 141,u 142,u 143,u 144,u 145,u 146,u 147,u 148,u 149,u 150,u 151,u 152,u 153,u 154,u 155,u 156,u 157,u 158,u 159,u 160,u 161,u 162,u 163,u 164,u 165,u 166,u 167,u 168,u 169,u 170,u 171,u 172,u 173,u 174,u 175,u 176,u 177,u 178,u 179,u 180,u 181,u 182,u 183,u 184,u 185,u 186,u 187,u 188,u 189,u 190,u 191,u 192,u 193,u 194,u 195,u 196,u 197,u 198,u 199,u 200,u 201,u 202,u 203,u 204,u 205,u 206,u 207,u 208,u 209,u 210,u 211,u 212,u 213,u 214,u 215,u 216,u 217,u 218,u 219,u 220,u 221,u 222,u 223,u 224,u 225,u 226,u 227,u 228,u 229,u 230,u 231,u 232,u 233,u 234,u 235,u 236,u 237,u 238,u 239,u 240,u 241,u 242,u 243,u 244,u 245,u 246,u 247,u 248,u 249,u 250,u 251,u 252,u 253,u 254,u 255,u 256,u 257,u 258,u 259,u 260,u 261,u 262,u 263,u 264,u 265,u 266,u 267,u 268,u 269,u 270,u 271,u 272,u 273,u 274,u 275,u 276,u 277,u 278,u 279,u 280,u 281,u 282,u 283,u 284,u 285,u 286,u 287,u 288,u 289,u 290,u 291,u 292,u 293,u 294,u 295,u 296,u 297,u 298,u 299,u 300,u 301,u 302]:=by kernel_rfl
theorem Gu{P:Array Value->Prop}{l:Array Value}(hs:l.size=303)(h:P (Kl fun i=>l.getD i undef)):P l:=by
 have e:(Kl fun i=>l.getD i undef)=l:=by
  refine Array.ext (by simp[Kl,hs]) fun i h1 h2=>?_
  simp[Kl,yH,h2]
 rwa [e] at h
structure UF (id:Nat) (caps:Array Value) (w:World) (u:Nat->Value):Prop where
 u1:u 1=.func (.func id) #[] caps
 u2:u 2=.pointer (some ⟨w.heap.size,0,none⟩)
 u4:u 4=.pointer (some ⟨w.heap.size+1,0,none⟩)
 u5:u 5=.pointer (some ⟨w.heap.size+2,0,none⟩)
theorem O0{N:NP}{w:World}{cs:LV}{d:CF}(h:GB N w cs d):cs.length=7∧∀v∈cs,v.oneCell'=true:=by
 obtain ⟨_,c,rfl,g⟩:=h
 exact ⟨by simp[g.len],AL rfl (Ao g)⟩
theorem M6{N:NP}{w:World}{cs:LV}{d:Br}(h:DZ N w cs d):cs.length=7∧∀v∈cs,v.oneCell'=true:=by
 obtain ⟨_,c,rfl,g⟩:=h
 exact ⟨by simp[g.len],AL rfl (Ao g)⟩
theorem M7{N:NP}{w:World}{cs:LV}{d:Bv}(h:E0 N w cs d):cs.length=8∧∀v∈cs,v.oneCell'=true:=by
 obtain ⟨_,c,rfl,g⟩:=h
 exact ⟨by simp[A8,g.len],Ax (Dk _) (Ao g)⟩
theorem Ry{α:Type}{l:List α}{i:Nat}(h:i < l.length):l.zipIdx.take (i+1)=l.zipIdx.take i++[(l[i],i)]:=by
 rw[yt (by simpa using h)]
 simp
theorem Uh{α:Type}{l:List α}:l.zipIdx.take l.length=l.zipIdx:=xV (by simp)
section
variable(g:Int->Rf->Rf)(q:Int->Rf->Bool)
def Hu(d:CF):CF:=⟨d.name,AQ g d.value⟩
def M8(d:CF):Bool:=Bh q d.value
def Ek(d:Br):Br:=⟨d.name,AQ g d.need⟩
def I1(d:Br):Bool:=Bh q d.need
def Cj(i:Nat)(d:At):At:=⟨d.name,if i=0 then d.frm else g 2 d.frm,AQ g d.delay,AQ g d.cap,AQ g d.bank,AQ g d.siphon,AQ g d.evap0,AQ g d.evap1,AQ g d.seep0,AQ g d.seep1⟩
def F4(i:Nat)(d:At):Bool:=(((((((((if i=0 then true else q 2 d.frm)&&Bh q d.delay)&&Bh q d.cap)&&Bh q d.bank)&&Bh q d.siphon)&&Bh q d.evap0)&&Bh q d.seep0)&&Bh q d.evap1)&&Bh q d.seep1)
def DJ(d:Bd):Bd:=⟨d.name,g 2 d.on,d.river,AQ g d.area,if d.river then d.crop else g 1 d.crop⟩
def Gv(d:Bd):Bool:=(q 2 d.on&&(if d.river then true else q 1 d.crop))&&Bh q d.area
def FG(d:Bv):Bv:=⟨g 3 d.farm,AQ g d.len⟩
def It(d:Bv):Bool:=q 3 d.farm&&Bh q d.len
def Fm(d:B6):B6:=⟨d.name,g 2 d.on,d.rank,AQ g d.flow,AQ g d.frm,AQ g d.to,d.turns.map (FG g)⟩
def Ji(d:B6):Bool:=(((q 2 d.on&&Bh q d.flow)&&Bh q d.frm)&&Bh q d.to)&&d.turns.all (It q)
def Ck(d:AG):AG:=⟨d.kind,d.name,g 3 d.farm,if d.kind=1 then d.reach else g 2 d.reach,d.rank,AQ g d.flow,AQ g d.frm,AQ g d.to,AQ g d.every,AQ g d.len⟩
def E5(d:AG):Bool:=((((((q 3 d.farm&&(if d.kind=1 then true else q 2 d.reach))&&Bh q d.flow)&&Bh q d.frm)&&Bh q d.to)&&Bh q d.every)&&Bh q d.len)
def Dz(d:BR):BR:=⟨d.name,g 3 d.farm,g 2 d.reach,AQ g d.due⟩
def Fo(d:BR):Bool:=(q 3 d.farm&&q 2 d.reach)&&Bh q d.due
end
structure Rz (x:Am):Prop where
 slim:Ih x
 season:Bg x.season
 cap:Bg x.cap
 start:Bg x.start
 lets:∀d∈x.lets,Bg d.value
 crops:∀d∈x.crops,Bg d.need
 reaches:∀d∈x.reaches,Bg d.delay∧Bg d.cap∧Bg d.bank∧Bg d.siphon∧Bg d.evap0∧Bg d.evap1∧Bg d.seep0∧Bg d.seep1
 farms:∀d∈x.farms,Bg d.area
 rots:∀d∈x.rots,(Bg d.flow∧Bg d.frm∧Bg d.to)∧d.turns.length<=100000∧∀t∈d.turns,Bg t.len
 rights:∀d∈x.rights,Bg d.flow∧Bg d.frm∧Bg d.to∧Bg d.every∧Bg d.len
 duties:∀d∈x.duties,Bg d.due
structure MS (F:Nat->Prop) (w:World) (cs row:List Value) (W:World):Prop where
 bx:BX F w.heap.size w W
 s:W.heap[w.heap.size]?=some (.cells cs.toArray 35 (0,0))
 z:∃zr:List Value,zr.length=26∧W.heap[w.heap.size+1]?=some (.cells zr.toArray 35 (0,0))
 x:W.heap[w.heap.size+2]?=some (.cells row.toArray 35 (0,0))
section
variable{F:NP}{w W W':World}{cs row row':LV}{C:Nat}
theorem MS.lt(h:MS F w cs row W):w.heap.size+3<=W.heap.size:=(ye.1 h.x).1
theorem MS.up(h:MS F w cs row W)(d:∀k,F k->k < w.heap.size)(f:w.heap.size+3<=C)(hb:BX F C W W'):MS F w cs row W':=by
 have a:∀k,w.heap.size<=k->¬ F k:=fun k hk h=>by have:=d k h;omega
 obtain ⟨b,c,e⟩:=h.z
 exact ⟨h.bx.trans (hb.mono (by omega)),(hb.block _ (by omega) (a _ (yf _))).trans h.s,⟨b,c,(hb.block _ (by omega) (a _ (by omega))).trans e⟩,(hb.block _ (by omega) (a _ (by omega))).trans h.x⟩
theorem MS.wrote(h:MS F w cs row W)(a:Au W W' (w.heap.size+2) row' 35):MS F w cs row' W':=by
 obtain ⟨b,c,d⟩:=h.z
 exact ⟨h.bx.wrote a (by omega),(a.block _ (by omega)).trans h.s,⟨b,c,(a.block _ (by omega)).trans d⟩,a.row⟩
theorem MS.cell{p q:LV}{v:Value}(h:MS F w cs row W)(hc:cs=p++(v::q)){o:Nat}(a:p.length=o):W.cell? ⟨w.heap.size,o,none⟩=some v:=by
 have h1:=Aw h.s
 rw[hc] at h1
 have h2:=AO (p:=p) (c:=[v]) (q:=q) h1
 rw[a,yB] at h2
 exact CL h2
theorem MS.cellx{p q:LV}{v:Value}(h:MS F w cs row W)(hc:row=p++(v::q)){o:Nat}(a:p.length=o):W.cell? ⟨w.heap.size+2,o,none⟩=some v:=by
 have h1:=Aw h.x
 rw[hc] at h1
 have h2:=AO (p:=p) (c:=[v]) (q:=q) h1
 rw[a,yB] at h2
 exact CL h2
end
structure Ui (k:Nat) (N:Nat->Prop) (W:World) (c0 c1 c2:List Value) (h0 h1 h2 h3 h4 h5 h6:Ai) (y:Am):Prop where
 name:y.name.size<=maxLen
 e0:AS N W y.season c0
 e1:AS N W y.cap c1
 e2:AS N W y.start c2
 lets:0 < k->Av N W 7 (GB N W) h0 y.lets
 crops:1 < k->Av N W 7 (DZ N W) h1 y.crops
 reaches:2 < k->Av N W 51 (CT N W) h2 y.reaches
 farms:3 < k->Av N W 12 (E7 N W) h3 y.farms
 rots:4 < k->Av N W 23 (LW N W) h4 y.rots
 rights:5 < k->Av N W 37 (CU N W) h5 y.rights
 duties:6 < k->Av N W 11 (E8 N W) h6 y.duties
section
variable{k:Nat}{F F':NP}{W W':World}{c0 c1 c2:LV}{h0 h1 h2 h3 h4 h5 h6:Ai}{y:Am}
theorem Ui.flux(h:Ui k (GF F W) W c0 c1 c2 h0 h1 h2 h3 h4 h5 h6 y)(c:BM F W W')(a:∀b,F' b->F b∨W.heap.size<=b):Ui k (GF F' W') W' c0 c1 c2 h0 h1 h2 h3 h4 h5 h6 y:=
 ⟨h.name,h.e0.flux c a,h.e1.flux c a,h.e2.flux c a,fun k=>(h.lets k).flux Dw c a,fun k=>(h.crops k).flux CZ c a,fun k=>(h.reaches k).flux Ct c a,fun k=>(h.farms k).flux D0 c a,fun k=>(h.rots k).flux Dx c a,fun k=>(h.rights k).flux Cu c a,fun k=>(h.duties k).flux D3 c a⟩
theorem Ui.res{N:NP}(h:Ui 7 N W c0 c1 c2 h0 h1 h2 h3 h4 h5 h6 y):Dy N W (.string y.name::(c0++(c1++(c2++[h0.v,h1.v,h2.v,h3.v,h4.v,h5.v,h6.v])))) y:=
 IV ⟨h.name,h.e0,h.e1,h.e2,h.lets (by omega),h.crops (by omega),fun _=>h.reaches (by omega),fun _=>h.farms (by omega),fun _=>h.rots (by omega),fun _=>h.rights (by omega),fun _=>h.duties (by omega)⟩
end
theorem SD{N:NP}{w:World}{L:Bw}{cs:LV}{x:Am}(h:Bb N w L cs x):Av N w 23 (LW N w) L.rots x.rots:=by
 obtain ⟨h1,h2,h3⟩:=h.rots
 exact ⟨h1,h2,fun i hi=>by obtain ⟨b,o,cs,g1,a,c,d,e⟩:=h3 i hi;exact ⟨b,o,cs,g1,a,c,d,_,e⟩⟩
structure MI {δ:Type} (V:(Nat->Prop)->World->List Value->δ->Prop) (ty sz:Nat) (F G:Nat->Prop) (J:Bool->World->Prop) (b:Bool) (w:World) (cs P Q:List Value) (X:(Nat->Prop)->World->Prop) (qP:Nat->Bool) (mP:Nat->List δ) (i:Nat) (v:Value) (wr:World):Prop where
 ms:MS F w cs (P++(v::Q)) wr
 j:J (b&&qP i) wr
 got:X (GF (FL G ([w.heap.size,w.heap.size+1,w.heap.size+2]++ob v)) wr) wr
 grow:DV V ty sz (w.heap.size+3) G [w.heap.size,w.heap.size+1,w.heap.size+2] wr v (mP i)
structure TB (F:Nat->Prop) (wr:World) (ty:TypeId) (row:List Value) (X:World):Prop where
 bx:BX F wr.heap.size wr X
 row:X.heap[wr.heap.size]?=some (.cells row.toArray ty (0,0))
section
variable{F G:NP}{wr X X2 X3:World}{ty:TypeId}{row row':LV}{l:List Nat}{css:List LV}{es:List Ex}{o:Obj}
theorem TB.lt(h:TB F wr ty row X):wr.heap.size < X.heap.size:=(ye.1 h.row).1
theorem Fp(a:Au (wr.alloc o) X wr.heap.size row ty):TB F wr ty row X:=⟨.of (AA a),a.row⟩
theorem TB.cb(h:TB F wr ty row X)(a:WX F X X2 wr.heap.size row' ty):TB F wr ty row' X2:=⟨a.bx h.bx (yf _),a.row⟩
theorem TB.call(h:TB F wr ty row X)(a:∀k,F k->k < wr.heap.size)(hb:BX F X.heap.size X X2):TB F wr ty row X2:=
 ⟨h.bx.trans (hb.mono h.bx.size),(hb.block _ h.lt (fun k=>xE _ (a _ k))).trans h.row⟩
theorem TB.wrote(h:TB F wr ty row X)(a:Au X X2 wr.heap.size row' ty):TB F wr ty row' X2:=⟨h.bx.wrote a (yf _),a.row⟩
theorem TB.part(h:TB F wr ty row X){p m q:LV}(b:row=p++(m++q)){off:Nat}(a:p.length=off):X.rangeAt wr.heap.size off m:=by
 have h1:=Aw h.row
 rw[b] at h1
 have:=AO h1
 rwa [a,yB] at this
theorem BT{W:World}{b:Nat}{fr:Nat × Nat}(h:W.heap[b]?=some (.cells row.toArray ty fr)){p m q:LV}(c:row=p++(m++q)){off:Nat}(a:p.length=off):W.rangeAt b off m:=by
 have h1:=Aw h
 rw[c] at h1
 have:=AO h1
 rwa [a,yB] at this
theorem TB.drew(h:TB F wr ty row X):TB F wr ty row X.drew:=⟨h.bx.drew,h.row⟩
theorem A9{op:Oper}{a:Act}{w:World}{K:Act->World->Prop}{Q:QT}(t':TypeId)(x y:Operand)(d:op.op=.store t' x y)
 (b o:Nat)(g:a.eval x=.pointer (some ⟨b,o,none⟩))(c:LV)(f:a.eval y=.agg c.toArray){p m q:LV}{t:TypeId}(hb:w.heap[b]?=some (.cells (p++(m++q)).toArray t (0,0)))(i:p.length=o)(e:m.length=c.length)
 (hi:(Try.prog.info? t').map (·.size)=some c.length)(h1:∀v∈c,v.oneCell'=true)
 (h:∀W',Au w W' b (p++(c++q)) t->K (a.put op.dst undef) W'):Oper.wp Try.prog op a w K Q:=by
 refine wp_store_mid t' x y d b o c.toArray g f (Kd hb (by simp;omega)) (by rw[yD];exact hi) (yV h1) ?_
 exact h _ (F5 b t c o w p m q hb i e)
theorem VE.cb(h:VE G l X css es)(a:WX F X X2 wr.heap.size row' ty)(b:∀k,F k->G k)(hl:wr.heap.size∈l):VE G l X2 css es:=h.up (a.flux (fun k hk=>.inl (b k hk)) (.inr hl)) (fun _ h=>.inl h)
theorem VE.bcall(h:VE G l X css es)(hb:BX F X.heap.size X X2)(a:∀k,F k->G k):VE G l X2 css es:=h.up (hb.flux (yf _) (fun k hk=>.inl (a k hk))) (fun _ h=>.inl h)
theorem VE.wrt(h:VE G l X css es)(a:Au X X2 wr.heap.size row' ty)(hl:wr.heap.size∈l):VE G l X2 css es:=h.up (a.flux (.inr hl)) (fun _ h=>.inl h)
end

set_option linter.unusedSimpArgs false
def T7(h:Ai)(b:Nat):Prop:=b∈ob h.v
def Dj(a b:List Nat):Prop:=∀x∈a,x∉b
theorem O1:ob (Ai.v ⟨none,0,0⟩)=[]:=rfl
structure Jj (bl:List Nat) (Bs:Nat) (w W:World):Prop where
 lo:w.heap.size+3<=Bs
 le:Bs<=W.heap.size
 mem:∀k∈bl,w.heap.size<=k∧k < Bs
 b0:w.heap.size∈bl
 b1:w.heap.size+1∈bl
 b2:w.heap.size+2∈bl
def Wm(W:World)(x:Nat):Prop:=∃(cs:Array Value) (t:TypeId),W.heap[x]?=some (.cells cs t (0,0))
structure Bp (k lo:Nat) (bl:List Nat) (N:Nat->Prop) (W:World) (c0 c1 c2:List Value) (h0 h1 h2 h3 h4 h5 h6:Ai) (y:Am):Prop where
 name:y.name.size<=maxLen
 e0:AS N W y.season c0
 e1:AS N W y.cap c1
 e2:AS N W y.start c2
 lets:0 < k->Av (T7 h0) W 7 (GB N W) h0 y.lets
 crops:1 < k->Av (T7 h1) W 7 (DZ N W) h1 y.crops
 reaches:2 < k->Av (T7 h2) W 51 (CT N W) h2 y.reaches
 farms:3 < k->Av (T7 h3) W 12 (E7 N W) h3 y.farms
 rots:4 < k->Av (T7 h4) W 23 (LW N W) h4 y.rots
 rights:5 < k->Av (T7 h5) W 37 (CU N W) h5 y.rights
 duties:6 < k->Av (T7 h6) W 11 (E8 N W) h6 y.duties
 sep:[ob h0.v,ob h1.v,ob h2.v,ob h3.v,ob h4.v,ob h5.v,ob h6.v].Pairwise Dj
 rng:∀d∈[ob h0.v,ob h1.v,ob h2.v,ob h3.v,ob h4.v,ob h5.v,ob h6.v],∀x∈d,lo<=x∧x∈bl
 raw:∀d∈[ob h0.v,ob h1.v,ob h2.v,ob h3.v,ob h4.v,ob h5.v,ob h6.v],∀x∈d,Wm W x
theorem Wn{l:List (List Nat)}{k:Nat}{d:List Nat}(h:l.Pairwise Dj)(hk:∀i (hi:i < l.length),k < i->l[i]=[])(c:∀i (hi:i < l.length),i < k->Dj l[i] d):(l.set k d).Pairwise Dj:=by
 rw[qj] at h ⊢
 intro i j hi b a
 rw[List.length_set] at hi b
 simp only[List.getElem_set]
 by_cases h1:k=i
 ·subst h1
  rw[yw rfl,yu (by omega),hk j b a]
  intro x _ e;cases e
 ·rw[yu h1]
  by_cases h2:k=j
  ·subst h2
   rw[yw rfl]
   exact c i hi a
  ·rw[yu h2]
   exact h i j hi b a
theorem Av.XP{δ:Type}{V:NP->World->LV->δ->Prop}{M F F':NP}{W W':World}{sz:Nat}{h:Ai}{ds:List δ}(hs:G5 V)(d:Av M W sz (V (GF F W) W) h ds)(a:BM F W W')(hl:∀b,F' b->F b∨W.heap.size<=b)(hb:∀b,M b->W'.heap[b]?=W.heap[b]?):Av M W' sz (V (GF F' W') W') h ds:=
 d.same (fun _ hb=>hb) hb (fun _ _ c=>hs.flux c a hl)
section
variable{k lo:Nat}{bl:List Nat}{F F':NP}{W W':World}{c0 c1 c2:LV}{h0 h1 h2 h3 h4 h5 h6:Ai}{y:Am}
theorem Bp.flux(h:Bp k lo bl (GF F W) W c0 c1 c2 h0 h1 h2 h3 h4 h5 h6 y)(c:BM F W W')(a:∀b,F' b->F b∨W.heap.size<=b)(hb:∀x,lo<=x->x∈bl->W'.heap[x]?=W.heap[x]?):Bp k lo bl (GF F' W') W' c0 c1 c2 h0 h1 h2 h3 h4 h5 h6 y:=by
 have q:∀d∈[ob h0.v,ob h1.v,ob h2.v,ob h3.v,ob h4.v,ob h5.v,ob h6.v],∀x∈d,W'.heap[x]?=W.heap[x]?:=fun d hd x f=>hb x (h.rng d hd x f).1 (h.rng d hd x f).2
 exact ⟨h.name,h.e0.flux c a,h.e1.flux c a,h.e2.flux c a,fun k=>(h.lets k).XP Dw c a (q _ (by simp)),fun k=>(h.crops k).XP CZ c a (q _ (by simp)),fun k=>(h.reaches k).XP Ct c a (q _ (by simp)),fun k=>(h.farms k).XP D0 c a (q _ (by simp)),fun k=>(h.rots k).XP Dx c a (q _ (by simp)),fun k=>(h.rights k).XP Cu c a (q _ (by simp)),fun k=>(h.duties k).XP D3 c a (q _ (by simp)),h.sep,h.rng,fun d hd x f=>by
  obtain ⟨cs,t,e⟩:=h.raw d hd x f
  exact ⟨cs,t,(q d hd x f).trans e⟩⟩
theorem Bp.set(h:Bp k lo bl (GF F W) W c0 c1 c2 h0 h1 h2 h3 h4 h5 h6 y){Bs j:Nat}{d:List Nat}(f:∀x∈bl,x < Bs)(l:lo<=Bs)(hd:∀x∈d,Bs<=x)(c:∀x∈d,Wm W x)(hk:∀i (hi:i < 7),j < i-> [ob h0.v,ob h1.v,ob h2.v,ob h3.v,ob h4.v,ob h5.v,ob h6.v][i]=[]):
  ([ob h0.v,ob h1.v,ob h2.v,ob h3.v,ob h4.v,ob h5.v,ob h6.v].set j d).Pairwise Dj∧∀e∈[ob h0.v,ob h1.v,ob h2.v,ob h3.v,ob h4.v,ob h5.v,ob h6.v].set j d,∀x∈e,(lo<=x∧x∈bl++d)∧Wm W x:=by
 constructor
 ·refine Wn h.sep hk fun i hi _ x a g=>?_
  have h1:=f x (h.rng _ (yz hi) x a).2
  have h2:=hd x g
  omega
 ·intro e b x a
  rcases qk b with b|rfl
  ·exact ⟨⟨(h.rng e b x a).1,yi.2 (.inl (h.rng e b x a).2)⟩,h.raw e b x a⟩
  ·exact ⟨⟨yl l (hd x a),yi.2 (.inr a)⟩,c x a⟩
end
theorem DV.XQ{δ:Type}{V:NP->World->LV->δ->Prop}{F:NP}{l:List Nat}{W:World}{v:Value}{ds:List δ}{ty sz B:Nat}(h:DV V ty sz B F l W v ds)(c:ds.length<=140737488355328):∃h:Ai,v=h.v∧Av (T7 h) W sz (V (GF (FL F (l++ob h.v)) W) W) h ds∧∀x∈ob h.v,B<=x∧Wm W x:=by
 have k:=h.lt
 obtain ⟨rows,h1,h2,h3⟩:=h.own
 have d:rows.length=ds.length:=Az.length h3
 rcases h1.2 with ⟨rfl,n⟩|⟨g,cap,o,rfl,h4,h5,h6,q,r,p⟩
 ·exact ⟨⟨none,0,0⟩,rfl,⟨by rw[<-d,n],c,fun i hi=>by omega⟩,fun x e=>by cases e⟩
 ·refine ⟨⟨some (aV g 0),rows.length,cap⟩,rfl,⟨d,c,fun i hi=>?_⟩,fun x e=>⟨(k x e).1,by
   obtain rfl:x=g:=by simpa[ob,Ai.v,Value.ownBlock] using e
   exact ⟨_,_,h5⟩⟩⟩
  have b:i < rows.length:=by omega
  refine ⟨g,0,rows[i],rfl,by simp[T7,ob,Ai.v,Value.ownBlock],h2 _ (yz b),?_,Az.get h3 i b hi⟩
  intro j u m
  have f:j < sz:=by rw[<-h2 _ (yz b)];exact (yA.1 m).1
  have a:=(FY rows sz h2).2 i b j f
  rw[m,<-p] at a
  rw[zJ] at a
  split at a
  ·simp only[World.cell?,h5,yB]
   simpa using a
  ·cases a
structure RC {δ:Type} (bl:List Nat) (Bs:Nat) (V:(Nat->Prop)->World->List Value->δ->Prop) (ty sz:Nat) (F G:Nat->Prop) (J:Bool->World->Prop) (b:Bool) (w:World) (cs P Q:List Value) (X:(Nat->Prop)->World->Prop) (qP:Nat->Bool) (mP:Nat->List δ) (i:Nat) (v:Value) (wr:World):Prop where
 ms:MS F w cs (P++(v::Q)) wr
 j:J (b&&qP i) wr
 got:X (GF (FL G (bl++ob v)) wr) wr
 grow:DV V ty sz Bs G bl wr v (mP i)
 bs:Bs<=wr.heap.size
def US(F G:NP)(J:Bool->World->Prop)(b:Bool)(y:Am)(w:World)(e:Ending)(w':World):Prop:=
 ∃(bl:List Nat) (c0 c1 c2:LV) (h0 h1 h2 h3 h4 h5 h6:Ai),e=.returned (.agg (.string y.name::(c0++(c1++(c2++[h0.v,h1.v,h2.v,h3.v,h4.v,h5.v,h6.v])))).toArray)∧Bp 7 (w.heap.size+3) bl (GF (FL G bl) w') w' c0 c1 c2 h0 h1 h2 h3 h4 h5 h6 y∧J b w'∧BX F w.heap.size w w'
theorem Bp.res{lo:Nat}{bl:List Nat}{N N':NP}{W:World}{c0 c1 c2:LV}{h0 h1 h2 h3 h4 h5 h6:Ai}{y:Am}(h:Bp 7 lo bl N W c0 c1 c2 h0 h1 h2 h3 h4 h5 h6 y)(hN:∀b,N b->N' b)(a:∀b,lo<=b->b∈bl->N' b):Dy N' W (.string y.name::(c0++(c1++(c2++[h0.v,h1.v,h2.v,h3.v,h4.v,h5.v,h6.v])))) y:=by
 have q:∀d∈[ob h0.v,ob h1.v,ob h2.v,ob h3.v,ob h4.v,ob h5.v,ob h6.v],∀x∈d,N' x:=fun d hd x c=>a x (h.rng d hd x c).1 (h.rng d hd x c).2
 have s:∀ {δ:Type} {V:NP->World->LV->δ->Prop} {hd:Ai} {sz:Nat} {ds:List δ},G5 V->ob hd.v∈[ob h0.v,ob h1.v,ob h2.v,ob h3.v,ob h4.v,ob h5.v,ob h6.v]->Av (T7 hd) W sz (V N W) hd ds->Av N' W sz (V N' W) hd ds:=fun hs f g=>g.same (fun b hb=>q _ f b hb) (fun _ _=>rfl) (fun _ _ e=>hs _ _ _ _ _ _ hN (fun _ _=>rfl) e)
 exact IV ⟨h.name,h.e0.same hN (fun _ _=>rfl),h.e1.same hN (fun _ _=>rfl),h.e2.same hN (fun _ _=>rfl),s Dw (by simp) (h.lets (by omega)),s CZ (by simp) (h.crops (by omega)),fun _=>s Ct (by simp) (h.reaches (by omega)),fun _=>s D0 (by simp) (h.farms (by omega)),fun _=>s Dx (by simp) (h.rots (by omega)),fun _=>s Cu (by simp) (h.rights (by omega)),fun _=>s D3 (by simp) (h.duties (by omega))⟩
theorem Xj{id:Nat}{caps:Array Value}{F G:NP}{J:Bool->World->Prop}{g:Int->Rf->Rf}{q:Int->Rf->Bool}{b:Bool}{w W:World}{cs:LV}{u:Nat->Value}{y:Am}{c0 c1 c2:LV}{h0 h1 h2 h3 h4 h5 h6:Ai}{bl:List Nat}{Bs:Nat}(d:Jj bl Bs w W)(hc:KK id caps F g q J)(H:∀k,F k->k < w.heap.size)(i:UF id caps w u)
 (m:MS F w cs (.string y.name::(c0++(c1++(c2++[h0.v,h1.v,h2.v,h3.v,h4.v,h5.v,h6.v])))) W)(C:Bp 7 (w.heap.size+3) bl (GF (FL G bl) W) W c0 c1 c2 h0 h1 h2 h3 h4 h5 h6 y)(I:J b W):
  Code.wp Try.prog (CJ 11 (Try.f17.body.getD .skip)) (bodyPost Try.prog Try.f17 (US F G J b y w)) {tmps:=Kl u,defers:=[]} W:=by
 rw[Gt,i.u1,i.u2,i.u4,i.u5]
 have L:=yb C;have p:=yb d
 have c:Hid (Dy (fun _=>True) W (.string y.name::(c0++(c1++(c2++[h0.v,h1.v,h2.v,h3.v,h4.v,h5.v,h6.v])))) y):=yb (C.res (fun _ _=>trivial) (fun _ _ _=>trivial))
 obtain ⟨row,t⟩:∃r:LV,r=.string y.name::(c0++(c1++(c2++[h0.v,h1.v,h2.v,h3.v,h4.v,h5.v,h6.v]))):=⟨_,rfl⟩
 rw[<-t] at m c
 have D:=yb t
 have l:=yb c.o.len
 have K:=yb c.o.one
 have E:=yb m
 have M:=yb hc
 have B:=yb H
 have N:=yb I
 obtain ⟨O,j,e⟩:=m.z
 have A:=yb j;have s:=yb e
 clear m hc H I C t j e i d
 refine wp_seq ?_
 go_wp2_with (first
  |(refine ym rfl 35 _ rfl (w.heap.size+2) 0 rfl row _ (Aw E.o.x) qM rfl (AU (n:=26) (by kernel_rfl) l.o) ?_)
  |(refine Ae rfl 35 _ _ rfl (w.heap.size+1) rfl row rfl s.o (by rw[yD,A.o,l.o]) (AU (n:=26) (by kernel_rfl) l.o) K.o ?_;intro P f;have a:=yb f;clear f))
 refine G6 rfl rfl a.o.row qM rfl (AU (n:=26) (by kernel_rfl) l.o) ?_
 refine ⟨bl,c0,c1,c2,h0,h1,h2,h3,h4,h5,h6,by rw[D.o],?_,M.o.stab _ _ _ N.o (fun k hk=>a.o.block k (by have:=B.o k hk;omega)) (by rw[a.o.size];exact yf _),E.o.bx.wrote a.o (by omega)⟩
 exact L.o.flux (a.o.flux (.inr p.o.b1)) (fun _ h=>.inl h) (fun x Q _=>a.o.block x (by omega))
set_option linter.unusedSimpArgs false
theorem Wo{bl:List Nat}{Bs:Nat}{id:Nat}{caps:Array Value}{F G:NP}{J:Bool->World->Prop}{g:Int->Rf->Rf}{q:Int->Rf->Bool}{b:Bool}{w W:World}{cs:LV}{u:Nat->Value}{x y:Am}{L:Bw}{c0 c1 c2:LV}{h0 h1 h2 h3 h4 h5:Ai}(S:Jj bl Bs w W)(hc:KK id caps F g q J)(hv:Bb (GF G w) w L cs x)(ap:Rz x)(b3:∀k,F k->G k)(hG:∀k,G k->k < w.heap.size)(hu:UF id caps w u)
 (hS:MS F w cs (.string y.name::(c0++(c1++(c2++[h0.v,h1.v,h2.v,h3.v,h4.v,h5.v,.slice none 0 0])))) W)(hY:Bp 6 (w.heap.size+3) bl (GF (FL G bl) W) W c0 c1 c2 h0 h1 h2 h3 h4 h5 ⟨none,0,0⟩ y)(hJ:J b W):
  Code.wp Try.prog (CJ 10 (Try.f17.body.getD .skip)) (bodyPost Try.prog Try.f17 (US F G J (b&&x.duties.all (Fo q)) (⟨y.name,y.season,y.cap,y.start,y.lets,y.crops,y.reaches,y.farms,y.rots,y.rights,(x.duties.map (Dz g))⟩:Am) w)) {tmps:=Kl u,defers:=[]} W:=by
 have c3:∀k,F k->k < w.heap.size:=fun k hk=>hG k (b3 k hk)
 obtain ⟨⟨a,n,c⟩,hL⟩:∃h:Ai,L.duties=h:=⟨_,rfl⟩
 obtain ⟨s0,s1,s2,c5,g0,g1,g2⟩:=hv.cells
 have av:W.cell? (aV w.heap.size 25)=some (.slice a n c):=by
  refine hS.cell (p:=.string x.name::(s0++(s1++(s2++[L.lets.v,L.crops.v,L.reaches.v,L.farms.v,L.rots.v,L.rights.v])))) (q:=[]) ?_ (by simp[g0.len,g1.len,g2.len])
  rw[c5,hL]
  simp[yp,Ai.v]
 have aw:Av (GF G w) w 11 (E8 (GF G w) w) ⟨a,n,c⟩ x.duties:=hL▸hv.duties
 have d6:=yb aw.2.2
 have ac:Hid (n=x.duties.length):=yb aw.1
 have ar:Hid (x.duties.length<=100000):=yb ap.slim.duties
 have HN:Hid (n<=140737488355328):=yb (by have:=ac.o;have:=ar.o;omega)
 obtain ⟨P,hP⟩:∃P:LV,P=.string y.name::(c0++(c1++(c2++[h0.v,h1.v,h2.v,h3.v,h4.v,h5.v]))):=⟨_,rfl⟩
 have cj:Hid (P.length=25):=yb (by rw[hP];simp[hY.e0.len,hY.e1.len,hY.e2.len])
 have bt:MS F w cs (P++(.slice none 0 0::[])) W:=by rw[hP];simpa[yp] using hS
 obtain ⟨I,hI⟩:∃I:Nat->World->Prop,I=fun i W=>∃v,RC bl Bs E8 70 11 F G J b w cs P [] (fun N W=>Bp 6 (w.heap.size+3) bl N W c0 c1 c2 h0 h1 h2 h3 h4 h5 ⟨none,0,0⟩ y) (fun i=>(x.duties.take i).all (Fo q)) (fun i=>(x.duties.take i).map (Dz g)) i v W:=⟨_,rfl⟩
 have ch:Hid (I 0 W):=yb (by
  rw[hI]
  exact ⟨_,bt,by simpa using hJ,by simpa[ob,Value.ownBlock] using hY,by simpa using EA,S.le⟩)
 have f:=yb S.lo;have a7:=yb S.mem;have cu:=yb S.b0;have d5:=yb S.b1;have V:=yb S.b2
 have HI:=yb hI;have HV:=yb hv;have HC:=yb hc;have cy:=yb ap;have Y:=yb b3;have HG:=yb hG;have z:=yb c3;have cr:=yb hP;have HU:=yb hu;have dc:=yb hY.name
 rw[Gt,hu.u1,hu.u2,hu.u4,hu.u5]
 clear S hv ap hc b3 hG c3 hS hY hJ hP hL c5 g0 g1 g2 aw bt hI hu
 refine Af fun K hK=>?_
 go_wp2
 go_loopw [280] (fun iv wr=>∃i:Nat,iv=iV i∧i<=n∧Hid (I i wr)) (fun iv _=>n - (intOf iv).toNat)
 case atStart=>exact ⟨0,rfl,yC _,ch⟩
 case round=>
  clear ch av
  obtain ⟨i,rfl,hi,cl⟩:=hrel
  obtain ⟨v,hM⟩:∃v,RC bl Bs E8 70 11 F G J b w cs P [] (fun N W=>Bp 6 (w.heap.size+3) bl N W c0 c1 c2 h0 h1 h2 h3 h4 h5 ⟨none,0,0⟩ y) (fun i=>(x.duties.take i).all (Fo q)) (fun i=>(x.duties.take i).map (Dz g)) i v wr:=by have h:=cl.o;rw[HI.o] at h;exact h
  obtain ⟨va,Z,vc,rfl⟩:=hM.grow.slice
  have A:=yb hM
  clear cl hM
  have db:n<=140737488355328:=HN.o
  by_cases cw:i < n
  ·have ae:i < x.duties.length:=by rw[<-ac.o];exact cw
   have d1:(i:Int) < (n:Int):=by omega
   obtain ⟨bq,oq,ct,he,aj,ce,ag,ay⟩:=d6.o i ae
   obtain rfl:a=some (aV bq oq):=he
   have ai:Hid ((b&&(x.duties.take (i+1)).all (Fo q))=((b&&(x.duties.take i).all (Fo q))&&Fo q x.duties[i])):=yb (by
    rw[yt ae,zj,zf,zA,yX,<-zc])
   have az:Hid ((x.duties.take (i+1)).map (Dz g)=(x.duties.take i).map (Dz g)++[Dz g x.duties[i]]):=yb (by rw[yt ae,zb];rfl)
   have cz:Hid (i+1<=1000000):=yb (by have:=ac.o;have:=ar.o;omega)
   have aq:=yb (cy.o.duties _ (yz ae))
   have d9:Hid (((x.duties.take i).map (Dz g)).length=i):=yb (by simp;omega)
   generalize hD:x.duties[i]=D at ay ai az aq
   clear hD
   generalize cc:(b&&(x.duties.take i).all (Fo q))=bb at ai
   have HJ:Hid (J bb wr):=yb (by rw[<-cc];exact A.o.j)
   clear cc
   have b8:=yb (JJ ay).2
   have Q:=yb ce
   obtain ⟨nm,T,X,e0⟩:=D
   obtain ⟨ba,au,hdr,c0,rfl,x0⟩:=ay
   simp only at ag Q b8 ai az aq ba au hdr x0
   obtain ⟨ct,a2⟩:∃ct:LV,ct=(.string nm::(An T++(An X++c0))):=⟨_,rfl⟩
   rw[<-a2] at ag Q b8
   have d0:=yb a2
   have d3:=yb ba
   have cm:=yb au
   have bu:=yb hdr
   have c9:Hid (wr.rangeAt bq (oq+i*11) ct):=yb (A2 ag (A.o.ms.bx.block bq aj.2 (fun k=>aj.1 (Y.o _ k))))
   have de:Hid (bq < wr.heap.size):=yb (yr aj.2 A.o.ms.bx.size)
   have co:Hid (Az (fun c e=>AS (GF G w) w e c) [c0] [e0]):=yb ⟨x0,trivial⟩
   have c7:Hid (∀k∈((bl++ob (.slice va Z vc))++[wr.heap.size]),w.heap.size<=k∧k<=wr.heap.size):=yb (by
    have h1:=A.o.ms.lt
    intro k hk
    rcases yi.1 hk with hk|hk
    ·rcases yi.1 hk with hk|hk
     ·have:=a7.o k hk;have:=A.o.bs;omega
     ·have:=A.o.grow.lt k hk;have:=f.o;omega
    ·simp at hk;omega)
   have E:=yb A.o.ms.lt;have bv:=yb A.o.bs
   have bz:Hid (¬ F wr.heap.size):=yb (fun h=>by have:=z.o _ h;have:=E.o;omega)
   clear a2 ag aj ce ba au hdr x0
   go_upto_region 66 with (first
    |(with_reducible refine ym rfl 70 _ rfl bq (oq+i*11) (by kernel_rfl) ct _ c9.o j0 (by kernel_rfl) (AU (n:=11) (by kernel_rfl) Q.o) ?_)
    |(with_reducible refine Ae rfl 70 _ _ rfl wr.heap.size (by kernel_rfl) ct (by kernel_rfl) (World.alloc_heap_new _ _) (by rw[yD,Q.o];kernel_rfl) (AU (n:=11) (by kernel_rfl) Q.o) b8.o ?_;intro X1 ci;have al:=yb ci;clear ci))
   have B:Hid (TB F wr 70 (.string nm::(An T++(An X++c0))) X1):=yb (by rw[<-d0.o];exact Fp al.o)
   have C:Hid (J bb X1):=yb (HC.o.stab _ _ _ HJ.o (fun k hk=>(AA al.o).block k (by have:=z.o k hk;have:=E.o;omega)) (AA al.o).size)
   have O:Hid (VE G ((bl++ob (.slice va Z vc))++[wr.heap.size]) X1 [c0] [e0]):=yb (Az.mono (fun _ _ h=>h.flux ((A.o.ms.bx.trans (B.o.bx.mono A.o.ms.bx.size)).flux (yf _) Y.o) (fun k hk=>hk.imp (fun h=>h) (fun h=>(c7.o k h).1))) co.o)
   clear al c9 co
   have a6:=yb (HC.o.call (bb) X1 3 wr.heap.size 1 (.string nm::([]:LV)) T (An X++c0) 70 C.o (by have h:=B.o.row;simpa[yp] using h) (by simp) bz.o cm.o (by decide) (by decide))
   go_upto_region 67 with fail
   rw[HC.o.enter,zW]
   refine a6.o.mono ?_
   rintro e X2 ⟨rfl,hj,s⟩
   have R:WX F X1 X2 wr.heap.size (.string nm::(An (g 3 T)++(An X++c0))) 70:=by simpa[yp] using s
   have hT:=B.o.cb R;have hE:=O.o.cb R Y.o (by simp)
   clear B C O a6 s
   have B:=yb hT;have O:=yb hE;have C:=yb hj
   clear hT hE hj R
   have a6:=yb (HC.o.call ((bb&&q 3 T)) X2 2 wr.heap.size 3 (.string nm::(An (g 3 T)++([]:LV))) X c0 70 C.o (by have h:=B.o.row;simpa[yp] using h) (by simp[A8]) bz.o bu.o (by decide) (by decide))
   go_upto_region 68 with fail
   rw[HC.o.enter,zW]
   refine a6.o.mono ?_
   rintro e X3 ⟨rfl,hj,s⟩
   have R:WX F X2 X3 wr.heap.size (.string nm::(An (g 3 T)++(An (g 2 X)++c0))) 70:=by simpa[yp] using s
   have hT:=B.o.cb R;have hE:=O.o.cb R Y.o (by simp)
   clear B C O a6 s
   have B:=yb hT;have O:=yb hE;have C:=yb hj
   clear hT hE hj R
   have bn:=yb (B.o.part (p:=(.string nm::(An (g 3 T)++(An (g 2 X)++([]:LV))))) (m:=c0) (q:=([]:LV)) (off:=5) (by simp) (by simp[A8]))
   have b4:=O.o.1
   have bd:=yb b4.len
   have am:=yb (Bn HC.o e0 (FL G ((bl++ob (.slice va Z vc))++[wr.heap.size])) (((bb&&q 3 T)&&q 2 X)) X3 c0 aq C.o b4 (fun k hk=>.inl (Y.o k hk)) (fun k hk=>by
    have h1:=B.o.lt;have h2:=E.o
    rcases hk with hk|hk
    ·have:=HG.o k hk;omega
    ·have:=(c7.o k hk).2;omega))
   clear b4
   go_upto_region 69 with (first
    |(with_reducible refine ym rfl 26 _ rfl wr.heap.size 5 (by kernel_rfl) c0 _ bn.o qD (by kernel_rfl) (Ci bd.o) ?_)
    |(go_at_call 65;refine am.o.mono ?_;rintro e X4 ⟨res,rfl,c8,cd,b9⟩;have a0:=yb c8;have c6:=yb cd;have V:=yb b9;have b5:=yb (B.o.call (fun k hk=>by have:=z.o k hk;have:=E.o;omega) b9);clear c8 cd b9)
    |(with_reducible refine CW rfl 26 _ _ rfl wr.heap.size 5 (by kernel_rfl) res (by kernel_rfl) (p:=(.string nm::(An (g 3 T)++(An (g 2 X)++([]:LV))))) (m:=c0) (q:=([]:LV)) (t:=70) (by have h:=b5.o.row;simpa[yp] using h) (by simp[A8]) (by rw[bd.o,a0.o.len]) (Ci a0.o.len) (Ao a0.o) ?_;intro X5 bh;have ad:Hid (Au X4 X5 wr.heap.size (.string nm::(An (g 3 T)++(An (g 2 X)++res))) 70):=yb (by simpa[yp] using bh);clear bh))
   have hT:=b5.o.wrote ad.o
   have HR:Hid (AS (GF (FL G ((bl++ob (.slice va Z vc))++[wr.heap.size])) X5) X5 (AQ g e0) res):=yb (a0.o.fl (ad.o.flux (.inr (by simp[V.o]))) (fun _ h=>.inl h))
   have hj:=HC.o.stab _ _ _ c6.o (fun k hk=>ad.o.block k (by have:=z.o k hk;have:=E.o;omega)) (by rw[ad.o.size];exact yf _)
   clear B b5 C c6 O a0 V ad bn bd am
   have B:=yb hT;have C:=yb hj
   clear hT hj
   obtain ⟨U,ax⟩:∃r:LV,r=(.string nm::(An (g 3 T)++(An (g 2 X)++res))):=⟨_,rfl⟩
   rw[<-ax] at B
   have ao:Hid (E8 (GF (FL G (bl++ob (.slice va Z vc))) X5) X5 U (Dz g ⟨nm,T,X,e0⟩)):=yb (by
    rw[ax]
    have x0:AS (GF (FL G (bl++ob (.slice va Z vc))) X5) X5 (AQ g e0) res:=HR.o.fl (BM.refl _ _) (fun k hk=>.inl (yi.2 (.inl hk)))
    exact ⟨d3.o,HC.o.name _ _ cm.o,HC.o.name _ _ bu.o,_,rfl,x0⟩)
   clear ax HR
   have ak:=yb (JJ ao.o).1;have da:=yb (JJ ao.o).2
   have cf:Hid (MS F w cs (P++(.slice va Z vc::[])) X5):=yb (A.o.ms.up z.o E.o B.o.bx)
   have dg:X5.cell? (aV (w.heap.size+2) 25)=some (.slice va Z vc):=cf.o.cellx rfl cj.o
   have bj:Hid (BM (FL G (bl++ob (.slice va Z vc))) wr X5):=yb (B.o.bx.flux (yf _) (fun k hk=>.inl (Y.o k hk)))
   have bi:=A.o.grow.up (l':=bl) D3 bj.o (fun k hk=>B.o.bx.block k (A.o.grow.lt k hk).2 (fun h=>by have:=z.o k h;have:=(A.o.grow.lt k hk).1;have:=f.o;omega)) (fun _ h=>.inl h)
   obtain ⟨rows,af,bw,a1⟩:=bi.own
   have d7:=yb af;have d4:=yb bw;have bp:=yb a1
   have aa:Hid (Bs<=X5.heap.size):=yb (yl bv.o B.o.bx.size)
   have bo:Hid ((X5.alloc (.cells U.toArray 70)).ownsRow Bs 70 11 (.slice va Z vc) rows.length rows.flatten):=yb (BH af fun k hk=>((yg _ _).alloc (yf _) _).block k (FB af k hk).2)
   have bg:Hid (rows.length+1<=1000000):=yb (by rw[Az.length a1,d9.o];exact cz.o)
   have cq:Hid (Bs<=(X5.alloc (.cells U.toArray 70)).heap.size):=yb (by have:=aa.o;simp;omega)
   clear af bw a1 bi
   go_upto_region 70 with (first
    |(with_reducible refine ym rfl 70 _ rfl wr.heap.size 0 (by kernel_rfl) U _ (Aw B.o.row) j0 (by kernel_rfl) (AU (n:=11) (by kernel_rfl) ak.o) ?_)
    |(with_reducible refine Cc rfl 33 70 _ rfl U (by kernel_rfl) 11 qL (by kernel_rfl) ak.o (by omega) (by omega) ?_)
    |(at_builtin;refine BA qL rfl _ _ rfl 11 (by kernel_rfl) (by omega) Bs (.slice va Z vc) rows.length rows.flatten (by kernel_rfl) bo.o X5.heap.size 1 U (by kernel_rfl) (World.alloc_heap_new _ _) ak.o da.o bg.o cq.o ?_;intro vx x8 a8 be cn;obtain ⟨xa,xn,xc,rfl⟩:=CY a8;have H:=yb (D5 D3 bp.o d4.o d7.o ao.o ak.o a8 be cn aa.o);have an:=yb (cf.o.up z.o f.o (.of H.o.below));clear a8 be cn)
    |(with_reducible refine Al rfl 33 _ _ rfl (w.heap.size+2) 25 (by kernel_rfl) (.slice xa xn xc) (by kernel_rfl) (by kernel_rfl) (p:=P) (m:=.slice va Z vc) (q:=[]) (t:=35) an.o.x cj.o (by kernel_rfl) (by kernel_rfl) ?_;intro x9 bm;have M:=yb bm;clear bm))
   go_wp2
   have d8:Hid (I (i+1) x9):=yb (by
    rw[HI.o]
    refine ⟨.slice xa xn xc,an.o.wrote M.o,?_,?_,?_,?_⟩
    ·rw[show (b&&(x.duties.take (i+1)).all (Fo q))=(((bb&&q 3 T)&&q 2 X)&&Bh q e0) by rw[ai.o];simp[Fo,zc]]
     exact HC.o.stab _ _ _ C.o (fun k hk=>(M.o.block k (by have:=z.o k hk;omega)).trans (H.o.below.block k (by have:=z.o k hk;have:=f.o;omega))) (by rw[M.o.size];exact H.o.flux.1)
    ·exact ((A.o.got.flux bj.o (fun _ h=>.inl h) (fun x s hm=>B.o.bx.block x (by have:=(a7.o x hm).2;have:=bv.o;omega) (fun h=>by have:=z.o x h;omega))).flux H.o.flux (JC H.o.obs) (fun x _ hm=>H.o.below.block x (a7.o x hm).2)).flux (M.o.flux (.inr (by simp[V.o]))) (fun _ h=>.inl h) (fun x s _=>M.o.block x (by omega))
    ·have h:=H.o.grow.up (l':=bl) D3 (M.o.flux (.inr (by simp[V.o]))) (fun k hk=>M.o.block k (by have:=(H.o.grow.lt k hk).1;have:=f.o;omega)) (fun _ h=>.inl h)
     rw[<-az.o] at h
     exact h
    ·exact yl aa.o (by rw[M.o.size];exact H.o.flux.1))
   exact ⟨⟨i+1,by push_cast;rfl,by omega,d8⟩,by simp[intOf];omega⟩
  ·obtain rfl:i=n:=by omega
   have d1:decide ((i:Int) < (i:Int))=false:=by simp
   have HQ:Hid (J (b&&x.duties.all (Fo q)) wr):=yb (by have h:=A.o.j;simp only[ac.o,yx] at h;exact h)
   have ca:DV E8 70 11 Bs G bl wr (.slice va Z vc) (x.duties.map (Dz g)):=by have h:=A.o.grow;simp only[ac.o,yx] at h;exact h
   obtain ⟨hd,cg,ck,ah⟩:=ca.XQ (by have:=ar.o;simp;omega)
   rw[cg] at A
   have cp:=yb A.o.bs
   have cv:Hid (Bp 7 (w.heap.size+3) (bl++ob hd.v) (GF (FL G (bl++ob hd.v)) wr) wr c0 c1 c2 h0 h1 h2 h3 h4 h5 hd (⟨y.name,y.season,y.cap,y.start,y.lets,y.crops,y.reaches,y.farms,y.rots,y.rights,(x.duties.map (Dz g))⟩:Am)):=yb (by
    have h:=A.o.got
    have hz:=h.set (j:=6) (d:=ob hd.v) (fun x s=>(a7.o x s).2) f.o (fun x s=>(ah x s).1) (fun x s=>(ah x s).2) (by
     intro i hi dd
     omega)
    exact ⟨h.name,h.e0,h.e1,h.e2,fun hk=>h.lets (by omega),fun hk=>h.crops (by omega),fun hk=>h.reaches (by omega),fun hk=>h.farms (by omega),fun hk=>h.rots (by omega),fun hk=>h.rights (by omega),fun _=>ck,hz.1,fun d hd x s=>(hz.2 d hd x s).1,fun d hd x s=>(hz.2 d hd x s).2⟩)
   have d2:=yb A.o.ms
   have cx:Hid (Jj (bl++ob hd.v) wr.heap.size w wr):=yb ⟨yl f.o cp.o,yf _,fun x s=>by
    rcases yi.1 s with s|s
    ·have:=a7.o x s;have:=cp.o;omega
    ·have h1:=(ah x s).1;have h2:=(A.o.grow.lt x s).2;have:=f.o;omega,yi.2 (.inl cu.o),yi.2 (.inl d5.o),yi.2 (.inl V.o)⟩
   clear ca cg ck A ah
   go_wp2
   refine hK.o _ _ ?_
   refine Gu (P:=fun l=>Code.wp Try.prog _ _ ⟨l,[]⟩ wr) rfl ?_
   refine Xj (bl:=bl++ob hd.v) (Bs:=wr.heap.size) (y:=(⟨y.name,y.season,y.cap,y.start,y.lets,y.crops,y.reaches,y.farms,y.rots,y.rights,(x.duties.map (Dz g))⟩:Am)) cx.o HC.o z.o ?_ (by have h:=d2.o;rw[cr.o] at h;simpa[yp] using h) cv.o HQ.o
   exact ⟨rfl,rfl,rfl,rfl⟩
set_option linter.unusedSimpArgs false

end Go.Proofs.Ytghepahgkcigpaa
