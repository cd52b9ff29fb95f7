/- Parts of the proof, in short words: Yg Yh Ym Yn Zg Zh Zi Yi Vc Za Zb Zc Zd -/
import Derived.Test.YtghepahgkcigpaaRg0
import Derived.Test.YtghepahgkcigpaaRg10
import Derived.Test.YtghepahgkcigpaaRg7
import Derived.Test.YtghepahgkcigpaaRg3
import Derived.Test.YtghepahgkcigpaaRg11
set_option maxRecDepth 100000
set_option maxHeartbeats 32000000
set_option linter.unusedSimpArgs false
namespace Go.Proofs.Ytghepahgkcigpaa
open Go.RowKit
section
variable{w W w2 w3:World}{tx tr:TypeId}{ls row c:LV}{n:Nat}{o:Obj}
theorem Bx.scope{h0 h1 h2 h3:Av}(h:Bx w tx ls n row W)(hl:ls=[h0.v,h1.v,h2.v,h3.v]):W.cell? ⟨w.heap.size+1,0,none⟩=some (.slice h0.a h0.n h0.c)∧W.cell? ⟨w.heap.size+1,1,none⟩=some (.slice h1.a h1.n h1.c)∧W.cell? ⟨w.heap.size+1,2,none⟩=some (.slice h2.a h2.n h2.c)∧W.cell? ⟨w.heap.size+1,3,none⟩=some (.slice h3.a h3.n h3.c):=by
 have:=h.l
 subst hl
 simp[World.cell?,this,Av.v]
theorem Bx.part(h:Bx w tx ls n row W){p m q:LV}(b:row=p++(m++q)){off:Nat}(a:p.length=off):W.rangeAt w.heap.size off m:=by
 have h1:=Ay h.x
 rw[b] at h1
 have:=AK h1
 rwa [a,yA] at this
end
theorem BW{tx:TypeId}{n:Nat}(h:(Try.prog.info? tx).map (·.size)=some n){row:LV}(a:row.length=n):(Try.prog.info? tx).map (·.size)=some row.length:=by rw[a];exact h
theorem OM{B:Nat}{W:World}{t e ty:TypeId}{i:TypeInfo}{z:Value}{size b:Nat}(C:Try.prog.underlying t=some (.slice e))(hi:Try.prog.info? e=some i)(p:i.zero=some z)(o:i.size=size)(s:i.bytes=b)(A:b<=10000)
 {v:Value}{n:Nat}{xs:LV}(h:W.ownsRow B e size v n xs){g c:Nat}{row:LV}(K:W.heap[g]?=some (.cells row.toArray e (0,0)))(hl:row.length=size)(q:∀u∈row,u.oneCell'=true)(r:n+1<=1000000){v':Value}{w':World}
 (a:(Builtin.append_ #[t,t] ty #[v,.slice (some ⟨g,0,none⟩) 1 c]).run Try.prog W=.ok v' w'):v'.ownBlock=v.ownBlock∨v'.ownBlock=some W.heap.size:=by
 have D:(n+1)*b<=1000000*10000:=Nat.mul_le_mul r A
 have d:∀j u,row[j]?=some u->W.cell? (((aV g 0):Addr).add j)=some u:=fun j u H=>by
  rw[zy]
  simp only[World.cell?,K]
  simpa using H
 have m:row.length=1*i.size:=by rw[o,hl,Nat.one_mul]
 rcases h.2 with ⟨rfl,G⟩|⟨k,cap,w,rfl,E,F,J,I,y,x⟩
 ·subst G
  rw[run_append_nil W t ty e i _ C hi p (aV g 0) 1 c row m d (by omega) (by omega) (by rw[s];omega)] at a
  cases a
  exact .inr rfl
 ·by_cases f:n+1<=cap
  ·rw[run_append_room W t ty e i C hi k n cap w F (aV g 0) 1 c row m d q f (by
    rw[o,y,hl]
    calc n*size+size=(n+1)*size:=by rw[Nat.add_mul];omega
     _<=cap*size:=Nat.mul_le_mul_right _ f)] at a
   cases a
   exact .inl rfl
  ·have l:∀j u,xs[j]?=some u->W.cell? (((aV k 0):Addr).add j)=some u:=World.ownsRow.cells h (g:=k) rfl
   rw[run_append_grow W t ty e i _ C hi p (aV k 0) n cap xs (by rw[o];exact h.1) l (aV g 0) 1 c row m d (by omega) (by omega) (growslice_fits (by omega) (by rw[s];omega))] at a
   cases a
   exact .inr rfl
theorem Bd{ops:Array Oper}{rest:List Oper}{o:Oper}{a:Act}{Q:QT}{W:World}{t e:TypeId}(C:Try.prog.underlying t=some (.slice e))(w:o.guard=none)(s x:Operand)(J:o.op=.call {callee:=.builtin .append,args:=#[s,x],argTypes:=#[t,t]})
 (size:Nat)(b:((Try.prog.info? e).bind fun i=>i.zero.map fun z=>(i.size,z.cells.size,decide (i.bytes<=10000)))=some (size,size,true))(q:0 < size)
 (B:Nat)(v:Value)(n:Nat)(xs:LV)(hs:a.eval s=v)(l:W.ownsRow B e size v n xs)(g c:Nat)(row:LV)(G:a.eval x=.slice (some ⟨g,0,none⟩) 1 c)(D:W.heap[g]?=some (.cells row.toArray e (0,0)))(hl:row.length=size)(f:∀u∈row,u.oneCell'=true)(k:n+1<=1000000)(p:B<=W.heap.size)
 (h:∀v' w',w'.ownsRow B e size v' (n+1) (xs++row)->W.grownBy w' v.ownBlock->(v'.ownBlock=v.ownBlock∨v'.ownBlock=some W.heap.size)->wpList Try.prog ops Q rest (a.put o.dst v') w'):wpList Try.prog ops Q (o::rest) a W:=by
 cases d:Try.prog.info? e with
 |none=>simp[d] at b
 |some i0=>
  cases r:i0.zero with
  |none=>simp[d,r] at b
  |some z=>
   simp only[d,r,xE,xL,yV,zq,yW] at b
   obtain ⟨h1,h2,h3⟩:=b
   have A:(n+1)*i0.bytes<=1000000*10000:=Nat.mul_le_mul k h3
   have m:∀j u,row[j]?=some u->W.cell? (((aV g 0):Addr).add j)=some u:=fun j u H=>by
    rw[zy]
    simp only[World.cell?,D]
    simpa using H
   obtain ⟨v',w',y,E,I,_⟩:=run_append_own (P:=Try.prog) W B t o.type e i0 z size i0.bytes C d r h1 rfl h2 q v n xs l (aV g 0) 1 c row (by rw[hl,Nat.one_mul]) m f (by unfold maxLen;omega) (by omega) p
   have hb:=OM (ty:=o.type) C d r h1 rfl h3 l D hl f k y
   refine yF w fun K F=>?_
   unfold Oper.wp
   simp[execOp,J,resolve,invoke,builtin,hs,G,y,Result.andThen]
   exact F _ _ (h v' w' E I hb)
def ob(v:Value):List Nat:=v.ownBlock.toList
def GC{δ:Type}(V:NP->World->LV->δ->Prop):Prop:=∀(N N':NP) (w w':World) (cs:LV) (d:δ),(∀b,N b->N' b)->(∀b,N b->w'.heap[b]?=w.heap[b]?)->V N w cs d->V N' w' cs d
section
variable{δ:Type}{V:NP->World->LV->δ->Prop}{F F':NP}{l l':List Nat}{W W':World}{cs:LV}{d:δ}{v v':Value}{ds:List δ}{ty sz B C:Nat}
theorem GC.flux(hs:GC V)(h:V (GF F W) W cs d)(a:Bj F W W')(hl:∀b,F' b->F b∨W.heap.size<=b):V (GF F' W') W' cs d:=hs _ _ _ _ _ _ (fun _ hb=>hb.up a.1 hl) (fun b hb=>a.2 b hb.2 hb.1) h
structure DA (V:(Nat->Prop)->World->List Value->δ->Prop) (ty sz B:Nat) (F:Nat->Prop) (l:List Nat) (W:World) (v:Value) (ds:List δ):Prop where
 own:∃rows:List (List Value),W.ownsRow B ty sz v rows.length rows.flatten∧(∀r∈rows,r.length=sz)∧At (fun cs d=>V (GF (FL F (l++ob v)) W) W cs d) rows ds
theorem DQ:DA V ty sz B F l W (.slice none 0 0) []:=⟨[],⟨by simp,.inl ⟨rfl,rfl⟩⟩,by simp,trivial⟩
theorem F9{n:Nat}{xs:LV}(h:W.ownsRow B ty sz v n xs):∀k∈ob v,B<=k∧k < W.heap.size:=by
 intro k a
 rcases h.2 with ⟨rfl,_⟩|⟨g,cap,b,rfl,h4,h5,_⟩
 ·simp[ob,Value.ownBlock] at a
 ·simp only[ob,Value.ownBlock,Option.toList_some,zt] at a
  subst a
  exact ⟨h4,(yf.1 h5).1⟩
theorem DA.lt(h:DA V ty sz B F l W v ds):∀k∈ob v,B<=k∧k < W.heap.size:=by
 obtain ⟨rows,h1,_⟩:=h.own
 exact F9 h1
theorem Cz{n:Nat}{xs:LV}(h:W.ownsRow B ty sz v n xs):∃a m c,v=.slice a m c:=by
 rcases h.2 with ⟨rfl,_⟩|⟨g,cap,b,rfl,_⟩
 ·exact ⟨_,_,_,rfl⟩
 ·exact ⟨_,_,_,rfl⟩
theorem DA.slice(h:DA V ty sz B F l W v ds):∃a m c,v=.slice a m c:=by
 obtain ⟨rows,h1,_⟩:=h.own
 exact Cz h1
theorem BA{n:Nat}{xs:LV}(h:W.ownsRow B ty sz v n xs)(hb:∀k∈ob v,W'.heap[k]?=W.heap[k]?):W'.ownsRow B ty sz v n xs:=by
 obtain ⟨h1,h2⟩:=h
 refine ⟨h1,h2.imp id ?_⟩
 rintro ⟨g,cap,a,rfl,h4,h5,h6⟩
 exact ⟨g,cap,a,rfl,h4,(hb g (by simp[ob,Value.ownBlock])).trans h5,h6⟩
theorem ON(hl:∀k∈l',k∈l∨W.heap.size<=k):∀b,FL F l' b->FL F l b∨W.heap.size<=b:=Im hl
theorem DA.up(hs:GC V)(h:DA V ty sz B F l W v ds)(b:Bj (FL F (l++ob v)) W W')(hb:∀k∈ob v,W'.heap[k]?=W.heap[k]?)(hl:∀k∈l',k∈l∨W.heap.size<=k):DA V ty sz B F l' W' v ds:=by
 obtain ⟨rows,h1,h2,h3⟩:=h.own
 refine ⟨rows,BA h1 hb,h2,At.mono (fun _ _ c=>hs.flux c b (ON fun k a=>?_)) h3⟩
 rcases yo.1 a with a|a
 ·exact (hl k a).imp (fun h=>yo.2 (.inl h)) id
 ·exact .inl (yo.2 (.inr a))
structure Qg (F:Nat->Prop) (l:List Nat) (B C:Nat) (wr W:World):Prop where
 below:Below C wr W
 flux:Bj (FL F l) wr W
 own:∀k,B<=k->k < wr.heap.size->W.heap[k]?=wr.heap[k]?
theorem Qg.call{wr:World}(h:Qg F l B C wr W)(hb:Below W.heap.size W W')(b:C<=wr.heap.size):Qg F l B C wr W':=by
 have a:=h.flux.1
 exact ⟨h.below.trans (hb.mono (by omega)),h.flux.trans (Bj.below hb),fun k h1 h2=>(hb.block k (by omega)).trans (h.own k h1 h2)⟩
theorem Qg.wrote{wr:World}{b:Nat}{c:LV}{t:TypeId}(h:Qg F l B C wr W)(a:AF W W' b c t)(hb:(b∈l∧b < B)∨wr.heap.size<=b)(d:C<=b):Qg F l B C wr W':=by
 refine ⟨a.below h.below d,?_,fun k h1 h2=>(a.block k ?_).trans (h.own k h1 h2)⟩
 ·rcases hb with hb|hb
  ·exact h.flux.trans (a.flux (.inr hb.1))
  ·exact a.fresh h.flux hb
 ·rcases hb with hb|hb<;>omega
theorem Qg.drew{wr:World}(h:Qg F l B C wr W):Qg F l B C wr W.drew:=⟨h.below.drew,h.flux,h.own⟩
theorem Bj.more(b:Bj (FL F l) W W')(a:List Nat):Bj (FL F (l++a)) W W':=b.wide fun _ _ h=>h.elim .inl fun h=>.inr (yo.2 (.inl h))
theorem DA.rnd(hs:GC V)(h:DA V ty sz B F l W v ds)(b:Qg F l B C W W'):DA V ty sz B F l W' v ds:=
 h.up hs (b.flux.more _) (fun k a=>b.own k (h.lt k a).1 (h.lt k a).2) (fun _ h=>.inl h)
theorem VE.rnd{css:List LV}{es:List Ex}(h:VE F (l++ob v) W css es)(a:Qg F l B C W W'):VE F (l++ob v) W' css es:=h.up (a.flux.more _) (fun _ h=>.inl h)
structure Rt (V:(Nat->Prop)->World->List Value->δ->Prop) (ty sz B:Nat) (F:Nat->Prop) (l:List Nat) (W W':World) (v v':Value) (ds:List δ):Prop where
 grow:DA V ty sz B F l W' v' ds
 flux:Bj (FL F (l++ob v)) W W'
 below:Below B W W'
 obs:∀k∈l++ob v',k∈l++ob v∨W.heap.size<=k
theorem CD{rows:List LV}{row:LV}{o:Obj}(hs:GC V)(x:At (fun cs d=>V (GF (FL F (l++ob v)) W) W cs d) rows ds)(s:∀r∈rows,r.length=sz)(g:W.ownsRow B ty sz v rows.length rows.flatten)
 (w:V (GF (FL F (l++ob v)) W) W row d)(m:row.length=sz)(j:W'.ownsRow B ty sz v' (rows.length+1) (rows.flatten++row))(a:(W.alloc o).grownBy W' v.ownBlock)(n:v'.ownBlock=v.ownBlock∨v'.ownBlock=some (W.alloc o).heap.size)(y:B<=W.heap.size):Rt V ty sz B F l W W' v v' (ds++[d]):=by
 have q:Below W.heap.size W (W.alloc o):=(yg _ _).alloc (ye _) _
 have u:(W.alloc o).heap.size=W.heap.size+1:=by simp
 have p:∀k∈ob v',k∈ob v∨W.heap.size<=k:=fun k b=>by
  rcases n with e|e
  ·left;unfold ob at b ⊢;rwa [e] at b
  ·right;unfold ob at b;rw[e,u] at b;simp at b;omega
 have f:Bj (FL F (l++ob v)) W W':=by
  refine (Bj.below q).trans ⟨a.size,fun k b t=>a.block k b fun e=>t (.inr (yo.2 (.inr ?_)))⟩
  unfold ob;rw[<-e];simp
 have c:∀k∈l++ob v',k∈l++ob v∨W.heap.size<=k:=fun k b=>by
  rcases yo.1 b with b|b
  ·exact .inl (yo.2 (.inl b))
  ·exact (p k b).imp (fun h=>yo.2 (.inr h)) id
 refine ⟨⟨rows++[row],by simpa using j,?_,?_⟩,f,?_,c⟩
 ·intro r i
  rcases yo.1 i with i|i
  ·exact s r i
  ·rw[zt.1 i];exact m
 ·exact At.append (At.mono (fun _ _ h=>hs.flux h f (ON c)) x) ⟨hs.flux w f (ON c),trivial⟩
 ·refine (q.mono (by omega)).trans ⟨a.os,a.tape,a.output,a.size,fun k b=>a.block k (by omega) fun e=>?_⟩
  have:=(F9 g k (by unfold ob;rw[<-e];simp)).1
  omega
theorem DA.row(hs:GC V)(h:DA V ty sz B F l W v ds)(n:Bj (FL F l) W W')(hb:∀k∈ob v,W'.heap[k]?=W.heap[k]?)(s:∀b,F b->b < B)(d:ds.length<=140737488355328):∃h:Av,v=h.v∧Az (GF F W') W' sz (V (GF F W') W') h ds:=by
 obtain ⟨rows,h1,h2,h3⟩:=h.own
 have hl:rows.length=ds.length:=At.length h3
 have q:∀i (hi:i < ds.length) (a:i < rows.length),V (GF F W') W' rows[i] ds[i]:=fun i hi a=>hs.flux (At.get h3 i a hi) (n.more _) (fun b hb=>.inl (.inl hb))
 rcases h1.2 with ⟨rfl,o⟩|⟨g,cap,p,rfl,h4,h5,h6,x,w,t⟩
 ·exact ⟨⟨none,0,0⟩,rfl,by rw[<-hl,o],d,fun i hi=>by omega⟩
 ·refine ⟨⟨some (aV g 0),rows.length,cap⟩,rfl,hl,d,fun i hi=>?_⟩
  have a:i < rows.length:=by omega
  have e:=hb g (by simp[ob,Value.ownBlock])
  have r:=(yf.1 h5).1
  refine ⟨g,0,rows[i],rfl,⟨fun h=>by have:=s g h;omega,by have:=n.1;omega⟩,h2 _ (yy a),?_,q i hi a⟩
  intro j u m
  have f:j < sz:=by rw[<-h2 _ (yy a)];exact (yD.1 m).1
  have c:=(FT rows sz h2).2 i a j f
  rw[m,<-t] at c
  rw[zH] at c
  split at c
  ·simp only[World.cell?,e,h5,yA]
   simpa using c
  ·cases c
end
structure Tx (F:Nat->Prop) (l:List Nat) (B C:Nat) (wr:World) (ty:TypeId) (row:List Value) (W:World):Prop where
 rnd:Qg F l B C wr W
 x:W.heap[wr.heap.size]?=some (.cells row.toArray ty (0,0))
section
variable{F:NP}{l l':List Nat}{B C A:Nat}{wr W w2 w3 w4:World}{ty tr:TypeId}{row row' c:LV}{o:Obj}{e:Ex}
theorem Tx.lt(h:Tx F l B C wr ty row W):wr.heap.size < W.heap.size:=(yf.1 h.x).1
theorem Tx.first(h:Tx F l B C wr ty row W)(a:C<=wr.heap.size)(h2:Below W.heap.size W w2)(h3:AF (w2.alloc o) w3 w2.heap.size c tr)(h4:AF w3 w4 wr.heap.size row' ty):Tx F l B C wr ty row' w4:=by
 have h1:=h.lt;have e:=h2.size
 have r2:=h.rnd.call h2 a
 have b:=r2.call (W':=w2.alloc o) ((yg _ _).alloc (ye _) _) a
 have d:=b.wrote h3 (.inr (by omega)) (by omega)
 exact ⟨d.wrote h4 (.inr (ye _)) a,h4.row⟩
theorem Tx.next(h:Tx F l B C wr ty row W)(d:C<=wr.heap.size)(e:A∈l)(b:A < B)(a:C<=A)(h2:Below W.heap.size W w2)(h3:AF w2 w3 A c tr)(h4:AF w3 w4 wr.heap.size row' ty):Tx F l B C wr ty row' w4:=by
 have r2:=h.rnd.call h2 d
 have f:=r2.wrote h3 (.inl ⟨e,b⟩) a
 exact ⟨f.wrote h4 (.inr (ye _)) d,h4.row⟩
theorem AB(a:AF (wr.alloc o) W wr.heap.size row ty):Below wr.heap.size wr W:=a.below ((yg _ _).alloc (ye _) _) (ye _)
theorem Tx.part(h:Tx F l B C wr ty row W){p m q:LV}(b:row=p++(m++q)){off:Nat}(a:p.length=off):W.rangeAt wr.heap.size off m:=by
 have h1:=Ay h.x
 rw[b] at h1
 have:=AK h1
 rwa [a,yA] at this
end
structure Ru {δ:Type} (V:(Nat->Prop)->World->List Value->δ->Prop) (ty sz:Nat) (w:World) (tx:TypeId) (ls:List Value) (n:Nat) (row:List Value) (F:Nat->Prop) (l As:List Nat) (B:Nat) (css:List (List Value)) (es:List Ex) (okP:Nat->Bool) (mpP:Nat->List δ) (i:Nat) (b:Bool) (v:Value) (wr:World):Prop where
 bx:Bx w tx ls n row wr
 a:∀A∈As,∃ca:List Value,ca.length=6∧wr.heap[A]?=some (.cells ca.toArray 26 (0,0))
 ve:VE F (l++ob v) wr css es
 grow:∃ds,DA V ty sz B F l wr v ds∧ds.length=i∧(b=true->ds=mpP i)
 b:b=okP i
 size:B<=wr.heap.size
theorem Ru.next{δ:Type}{V:NP->World->LV->δ->Prop}{ty sz:Nat}{w:World}{tx:TypeId}{ls:LV}{n:Nat}{row:LV}{F:NP}{l j:List Nat}{B:Nat}{css:List LV}{es:List Ex}{okP:Nat->Bool}{mpP:Nat->List δ}{i:Nat}{b b':Bool}{v v':Value}{wr W w':World}{ds:List δ}{d:δ}
 (h:Ru V ty sz w tx ls n row F l j B css es okP mpP i b v wr)(f:Qg F l B (w.heap.size+3) wr W)(m:w.heap.size+3<=B)(k:∀A∈j,A < B∧∃e:LV,e.length=6∧W.heap[A]?=some (.cells e.toArray 26 (0,0)))(a:Rt V ty sz B F l W w' v v' (ds++[d]))(c:ds.length=i)(hb:b'=okP (i+1))(g:b'=true->ds++[d]=mpP (i+1)):
  Ru V ty sz w tx ls n row F l j B css es okP mpP (i+1) b' v' w':=by
 refine ⟨(h.bx.up f.below).up (a.below.mono m),fun A g=>?_,(h.ve.rnd f).up a.flux a.obs,⟨_,a.grow,by simp[c],g⟩,hb,yr h.size (yr f.flux.1 a.flux.1)⟩
 obtain ⟨h1,e,h2,h3⟩:=k A g
 exact ⟨e,h2,(a.below.block A h1).trans h3⟩
theorem Hi:GC Dm:=fun _ _ _ _ _ _ a hb h=>h.same a hb
theorem G5:GC FP:=fun _ _ _ _ _ _ a hb h=>h.same a hb
theorem EW:GC Dq:=fun _ _ _ _ _ _ a hb h=>h.same a hb
theorem Eb:GC CG:=fun _ _ _ _ _ _ a hb h=>h.same a hb
theorem EX:GC DE:=fun _ _ _ _ _ _ a hb h=>h.same a hb
theorem Ec:GC CH:=fun _ _ _ _ _ _ a hb h=>h.same a hb
theorem EY:GC DF:=fun _ _ _ _ _ _ a hb h=>h.same a hb
def KW(N:NP)(w:World)(cs:LV)(d:B7):Prop:=∃h,Gg N w h cs d
theorem G6:GC KW:=fun _ _ _ _ _ _ a hb ⟨h,k⟩=>⟨h,k.same a hb⟩
section
variable{δ:Type}{V:NP->World->LV->δ->Prop}{ty sz B:Nat}{F:NP}{l:List Nat}{Xt:List Nat->World->Prop}{okP:Nat->Bool}{mpP:Nat->List δ}{i:Nat}{b b':Bool}{v v':Value}{wr W w':World}{ds:List δ}{d:δ}
structure Lx (V:(Nat->Prop)->World->List Value->δ->Prop) (ty sz B:Nat) (F:Nat->Prop) (l:List Nat) (Xt:List Nat->World->Prop) (okP:Nat->Bool) (mpP:Nat->List δ) (i:Nat) (b:Bool) (v:Value) (wr:World):Prop where
 ex:Xt (l++ob v) wr
 grow:∃ds,DA V ty sz B F l wr v ds∧ds.length=i∧(b=true->ds=mpP i)
 b:b=okP i
 size:B<=wr.heap.size
def TT(F:NP)(B:Nat)(Xt:List Nat->World->Prop):Prop:=∀(l l':List Nat) (W W':World),Xt l W->Bj (FL F l) W W'->Below B W W'->(∀k∈l',k∈l∨W.heap.size<=k)->Xt l' W'
theorem Lx.next(j:Lx V ty sz B F l Xt okP mpP i b v wr)(e:TT F B Xt)(g:Xt (l++ob v) W)(h:wr.heap.size<=W.heap.size)(a:Rt V ty sz B F l W w' v v' (ds++[d]))(c:ds.length=i)(hb:b'=okP (i+1))(f:b'=true->ds++[d]=mpP (i+1)):
  Lx V ty sz B F l Xt okP mpP (i+1) b' v' w':=
 ⟨e _ _ _ _ g a.flux a.below a.obs,⟨_,a.grow,by simp[c],f⟩,hb,yr j.size (yr h a.flux.1)⟩
theorem Az.flux{F F':NP}{W W':World}{h:Av}{ds:List δ}(hs:GC V)(c:Az (GF F W) W sz (V (GF F W) W) h ds)(a:Bj F W W')(hl:∀b,F' b->F b∨W.heap.size<=b):Az (GF F' W') W' sz (V (GF F' W') W') h ds:=
 c.same (fun _ hb=>hb.up a.1 hl) (fun b hb=>a.2 b hb.2 hb.1) (fun _ _ d=>hs.flux d a hl)
theorem DA.done(hs:GC V)(h:DA V ty sz B F l W v ds)(s:∀b,F b->b < B)(hl:∀k∈l,k < B)(d:ds.length<=140737488355328):∃h:Av,v=h.v∧Az (GF (FL F l) W) W sz (V (GF (FL F l) W) W) h ds:=by
 obtain ⟨rows,h1,h2,h3⟩:=h.own
 have e:rows.length=ds.length:=At.length h3
 have r:∀i (hi:i < ds.length) (a:i < rows.length),V (GF (FL F l) W) W rows[i] ds[i]:=fun i hi a=>hs.flux (At.get h3 i a hi) (Bj.refl _ _) (fun b hb=>.inl (hb.imp id fun o=>yo.2 (.inl o)))
 rcases h1.2 with ⟨rfl,p⟩|⟨g,cap,q,rfl,h4,h5,h6,x,w,t⟩
 ·exact ⟨⟨none,0,0⟩,rfl,by rw[<-e,p],d,fun i hi=>by omega⟩
 ·refine ⟨⟨some (aV g 0),rows.length,cap⟩,rfl,e,d,fun i hi=>?_⟩
  have a:i < rows.length:=by omega
  have f:=(yf.1 h5).1
  refine ⟨g,0,rows[i],rfl,⟨fun h=>h.elim (fun h=>by have:=s g h;omega) (fun h=>by have:=hl g h;omega),f⟩,h2 _ (yy a),?_,r i hi a⟩
  intro j u n
  have m:j < sz:=by rw[<-h2 _ (yy a)];exact (yD.1 n).1
  have c:=(FT rows sz h2).2 i a j m
  rw[n,<-t] at c
  rw[zH] at c
  split at c
  ·simp only[World.cell?,h5,yA]
   simpa using c
  ·cases c
end
section
variable{P:Program}{ops:Array Oper}{Q:QT}{md:Region.Mode}{T:World->Prop}{k:Nat}
end
theorem Ag{P:Program}{x y:Code}{Q:QT}{a:Act}{w:World}(h:∀K:Act->World->Prop,Hid (∀a w,Code.wp P y Q a w->K a w)->Code.wp P x (Exit.then K Q) a w):Code.wp P (x.seq y) Q a w:=wp_seq (h _ (yb fun _ _ h=>h))
structure Rs (w:World) (cs ls row:List Value) (S4 X5:Nat) (V0 W:World):Prop where
 below:Below w.heap.size w W
 s:W.heap[w.heap.size]?=some (.cells cs.toArray 35 (0,0))
 z:∃zr:List Value,zr.length=26∧W.heap[w.heap.size+1]?=some (.cells zr.toArray 35 (0,0))
 l:W.heap[S4]?=some (.cells ls.toArray 109 (0,0))
 x:W.heap[X5]?=some (.cells row.toArray 35 (0,0))
 b0:w.heap.size+2<=S4
 b1:S4 < V0.heap.size
 b2:V0.heap.size<=X5
 v0:Below V0.heap.size V0 W
section
variable{w V0 W W':World}{cs ls row row':LV}{S4 X5 B:Nat}
theorem Rs.lt(h:Rs w cs ls row S4 X5 V0 W):X5 < W.heap.size:=(yf.1 h.x).1
theorem Rs.up(h:Rs w cs ls row S4 X5 V0 W)(hb:Below B W W')(d:X5 < B):Rs w cs ls row S4 X5 V0 W':=by
 have h0:=h.b0;have h1:=h.b1;have h2:=h.b2
 obtain ⟨b,a,c⟩:=h.z
 exact ⟨h.below.trans (hb.mono (by omega)),(hb.block _ (by omega)).trans h.s,⟨b,a,(hb.block _ (by omega)).trans c⟩,(hb.block _ (by omega)).trans h.l,(hb.block _ d).trans h.x,h0,h1,h2,h.v0.trans (hb.mono (by omega))⟩
theorem Rs.call(h:Rs w cs ls row S4 X5 V0 W)(hb:Below W.heap.size W W'):Rs w cs ls row S4 X5 V0 W':=h.up hb h.lt
theorem Rs.wrote(h:Rs w cs ls row S4 X5 V0 W)(a:AF W W' X5 row' 35):Rs w cs ls row' S4 X5 V0 W':=by
 have h0:=h.b0;have h1:=h.b1;have h2:=h.b2
 obtain ⟨c,b,d⟩:=h.z
 exact ⟨a.below h.below (by omega),(a.block _ (by omega)).trans h.s,⟨c,b,(a.block _ (by omega)).trans d⟩,(a.block _ (by omega)).trans h.l,a.row,h0,h1,h2,a.below h.v0 h2⟩
theorem Rs.cell{p q:LV}{v:Value}(h:Rs w cs ls row S4 X5 V0 W)(hc:cs=p++(v::q)){o:Nat}(a:p.length=o):W.cell? ⟨w.heap.size,o,none⟩=some v:=by
 have h1:=Ay h.s
 rw[hc] at h1
 have h2:=AK (p:=p) (c:=[v]) (q:=q) h1
 rw[a,yA] at h2
 exact Cp h2
theorem Rs.cellx{p q:LV}{v:Value}(h:Rs w cs ls row S4 X5 V0 W)(hc:row=p++(v::q)){o:Nat}(a:p.length=o):W.cell? ⟨X5,o,none⟩=some v:=by
 have h1:=Ay h.x
 rw[hc] at h1
 have h2:=AK (p:=p) (c:=[v]) (q:=q) h1
 rw[a,yA] at h2
 exact Cp h2
end
structure SB (k:Nat) (N:Nat->Prop) (W:World) (c0 c1 c2:List Value) (hl hc h2 h3 h4 h5 h6:Av) (y:An):Prop where
 name:y.name.size<=maxLen
 e0:AP N W y.season c0
 e1:AP N W y.cap c1
 e2:AP N W y.start c2
 lets:Az N W 7 (FP N W) hl y.lets
 crops:Az N W 7 (Dq N W) hc y.crops
 reaches:0 < k->Az N W 51 (CG N W) h2 y.reaches
 farms:1 < k->Az N W 12 (DE N W) h3 y.farms
 rots:2 < k->Az N W 23 (KW N W) h4 y.rots
 rights:3 < k->Az N W 37 (CH N W) h5 y.rights
 duties:4 < k->Az N W 11 (DF N W) h6 y.duties
section
variable{k:Nat}{F F':NP}{W W':World}{c0 c1 c2:LV}{hl hc h2 h3 h4 h5 h6:Av}{y:An}
theorem SB.flux(h:SB k (GF F W) W c0 c1 c2 hl hc h2 h3 h4 h5 h6 y)(c:Bj F W W')(a:∀b,F' b->F b∨W.heap.size<=b):SB k (GF F' W') W' c0 c1 c2 hl hc h2 h3 h4 h5 h6 y:=
 ⟨h.name,h.e0.flux c a,h.e1.flux c a,h.e2.flux c a,h.lets.flux G5 c a,h.crops.flux EW c a,fun k=>(h.reaches k).flux Eb c a,fun k=>(h.farms k).flux EX c a,fun k=>(h.rots k).flux G6 c a,fun k=>(h.rights k).flux Ec c a,fun k=>(h.duties k).flux EY c a⟩
end
section
variable{δ:Type}{V:NP->World->LV->δ->Prop}{ty sz B:Nat}{F:NP}{l:List Nat}{Xt:List Nat->World->Prop}{okP:Nat->Bool}{mpP:Nat->List δ}{i:Nat}{b:Bool}{v:Value}{W W':World}{X:Nat}{c:LV}{tx:TypeId}
theorem Lx.put(f:Lx V ty sz B F l Xt okP mpP i b v W)(hs:GC V)(h:Xt (l++ob v) W')(d:AF W W' X c tx)(a:X∈l)(j:X < B):Lx V ty sz B F l Xt okP mpP i b v W':=by
 obtain ⟨ds,g,h1,h2⟩:=f.grow
 exact ⟨h,⟨ds,g.up hs (d.flux (.inr (yo.2 (.inl a)))) (fun k e=>d.block k (by have:=(g.lt k e).1;omega)) (fun k e=>.inl e),h1,h2⟩,f.b,by rw[d.size];exact f.size⟩
end
theorem IZ{N:NP}{w:World}{cs:LV}{d:Ax}(h:CG N w cs d):cs.length=51∧∀v∈cs,v.oneCell'=true:=by
 obtain ⟨_,_,c0,c1,c2,l,n,j,m,k,rfl,e,g1,i,b,g,c,f,a⟩:=h
 exact ⟨by simp[A7,e.len,g1.len,i.len,b.len,g.len,c.len,f.len,a.len],AI rfl (Ap (CV _) (Ap (Ai e) (Ap (Ai g1) (Ap (Ai i) (Ap (Ai b) (Ap (Ai g) (Ap (Ai c) (Ap (Ai f) (Ai a)))))))))⟩
theorem Ir{N:NP}{w:World}{cs:LV}{d:BL}(h:DE N w cs d):cs.length=12∧∀v∈cs,v.oneCell'=true:=by
 obtain ⟨_,_,_,c,rfl,g⟩:=h
 exact ⟨by simp[A7,g.len],AI rfl (Ap (CV _) (AI rfl (Ap (Ai g) (CV _))))⟩
theorem JI{N:NP}{w:World}{cs:LV}{d:B7}(h:KW N w cs d):cs.length=23∧∀v∈cs,v.oneCell'=true:=by
 obtain ⟨_,_,_,c0,c1,c2,rfl,b,g1,a,_⟩:=h
 exact ⟨by simp[A7,b.len,g1.len,a.len],AI rfl (Ap (CV _) (AI rfl (Ap (Ai b) (Ap (Ai g1) (Ap (Ai a) (AI rfl (fun _ h=>nomatch h)))))))⟩
theorem Hl{N:NP}{w:World}{cs:LV}{d:AG}(h:CH N w cs d):cs.length=37∧∀v∈cs,v.oneCell'=true:=by
 obtain ⟨_,_,_,c0,c1,c2,g,f,rfl,c,g1,b,e,a⟩:=h
 exact ⟨by simp[A7,c.len,g1.len,b.len,e.len,a.len],AI rfl (AI rfl (Ap (CV _) (Ap (CV _) (AI rfl (Ap (Ai c) (Ap (Ai g1) (Ap (Ai b) (Ap (Ai e) (Ai a)))))))))⟩
theorem Is{N:NP}{w:World}{cs:LV}{d:Ce}(h:DF N w cs d):cs.length=11∧∀v∈cs,v.oneCell'=true:=by
 obtain ⟨_,_,_,c,rfl,g⟩:=h
 exact ⟨by simp[A7,g.len],AI rfl (Ap (CV _) (Ap (CV _) (Ai g)))⟩
def NL:Ex:=.mk 0 0 0 ⟨#[]⟩ 0 []
def LH:An:=⟨⟨#[]⟩,NL,NL,NL,[],[],[],[],[],[],[]⟩
def DT(N:NP)(w:World)(cs:LV)(y:An):Prop:=∃L,B8 N w L cs y
theorem RI(N:NP)(w:World):DT N w Bo LH:=by
 have a:∀ {α:Type} (sz:Nat) (P:LV->α->Prop),Az N w sz P ⟨none,0,0⟩ []:=fun _ _=>⟨rfl,by simp,fun i hi=>by simp at hi⟩
 have b:AP N w NL [iV 0,iV 0,iV 0,.string {data:=#[]},iV 0,.slice none 0 0]:=by
  unfold NL
  rw[AP]
  exact ⟨none,0,rfl,by simp,(by decide:(0:Nat)<=maxLen),by rw[Db];trivial⟩
 refine ⟨⟨0,⟨none,0,0⟩,⟨none,0,0⟩,⟨none,0,0⟩,⟨none,0,0⟩,⟨none,0,0⟩,⟨none,0,0⟩,⟨none,0,0⟩,[]⟩,?_⟩
 exact ⟨(by decide:(0:Nat)<=maxLen),⟨_,_,_,rfl,b,b,b⟩,a _ _,a _ _,a _ _,a _ _,⟨rfl,by simp[LH],fun i hi=>by simp[LH] at hi⟩,a _ _,a _ _⟩
theorem SD{N:NP}{W:World}{c0 c1 c2:LV}{hl hc h2 h3 h4 h5 h6:Av}{y:An}(h:SB 5 N W c0 c1 c2 hl hc h2 h3 h4 h5 h6 y):DT N W (.string y.name::(c0++(c1++(c2++[hl.v,hc.v,h2.v,h3.v,h4.v,h5.v,h6.v])))) y:=by
 obtain ⟨d,k,m⟩:=h.rots (by omega)
 have c:∀i:Nat,∃t:Av,∀(hi:i < y.rots.length),∃b o cs,h4.a=some (aV b o)∧N b∧cs.length=23∧W.rangeAt b (o+i*23) cs∧Gg N W t cs y.rots[i]:=fun i=>by
  by_cases hi:i < y.rots.length
  ·obtain ⟨b,o,cs,g1,p,g,l,t,j⟩:=m i hi
   exact ⟨t,fun _=>⟨b,o,cs,g1,p,g,l,j⟩⟩
  ·exact ⟨⟨none,0,0⟩,fun h=>absurd h hi⟩
 obtain ⟨f,n⟩:=Classical.axiomOfChoice c
 refine ⟨⟨0,hl,hc,h2,h3,h4,h5,h6,(List.range y.rots.length).map f⟩,h.name,⟨c0,c1,c2,rfl,h.e0,h.e1,h.e2⟩,h.lets,h.crops,h.reaches (by omega),h.farms (by omega),⟨d,k,fun i hi=>?_⟩,h.rights (by omega),h.duties (by omega)⟩
 have e:A4 ⟨0,hl,hc,h2,h3,h4,h5,h6,(List.range y.rots.length).map f⟩ i=f i:=by
  unfold A4
  simp[xe,hi]
 rw[e]
 exact n i hi
theorem DT.len{N:NP}{w:World}{cs:LV}{y:An}(h:DT N w cs y):cs.length=26:=by
 obtain ⟨L,a⟩:=h
 obtain ⟨c0,c1,c2,rfl,c,g1,b⟩:=a.cells
 simp[c.len,g1.len,b.len]
theorem DT.one{N:NP}{w:World}{cs:LV}{y:An}(h:DT N w cs y):∀v∈cs,v.oneCell'=true:=by
 obtain ⟨L,a⟩:=h
 obtain ⟨c0,c1,c2,rfl,c,g1,b⟩:=a.cells
 exact AI rfl (Ap (Ai c) (Ap (Ai g1) (Ap (Ai b) (AI rfl (AI rfl (AI rfl (AI rfl (AI rfl (AI rfl (AI rfl (fun _ h=>nomatch h)))))))))))
theorem DT.flux{F F':NP}{W W':World}{cs:LV}{y:An}(h:DT (GF F W) W cs y)(a:Bj F W W')(hl:∀b,F' b->F b∨W.heap.size<=b):DT (GF F' W') W' cs y:=by
 obtain ⟨L,c⟩:=h
 exact ⟨L,c.same (fun _ hb=>hb.up a.1 hl) (fun b hb=>a.2 b hb.2 hb.1)⟩


def I6:List Ex->Int->Int
 |[],n=>n
 |e::r,n=>if n<=5000 then I6 r (n+JB e 5001) else n
def Gx(x:An):Bool:=decide (x.lets.length<=100)&&(decide (x.crops.length<=100)&&(decide (x.reaches.length<=100)&&(decide (x.farms.length<=100)&&(decide (x.rots.length<=70)&&(decide (x.rights.length<=300)&&decide (x.duties.length<=300))))))
def Fe(l:List B7):Bool:=l.all fun d=>decide (d.turns.length<=70)
def ES(x:An):Bool:=Gx x&&(Fe x.rots&&decide (I6 (Cv x) 0<=5000))
theorem PE:∀(l:List Ex) (n:Int),n<=I6 l n
 |[],n=>by rw[I6];omega
 |e::r,n=>by
  rw[I6]
  split
  ·have h1:=(I0 e 5001).1
   have h2:=PE r (n+JB e 5001)
   omega
  ·omega
theorem NM:∀(l:List Ex) (n:Int),0<=n->I6 l n<=5000->∀e∈l,JB e 5001 < 5001
 |[],n,_,_=>by simp
 |e::r,n,hn,h=>by
  rw[I6] at h
  split at h
  ·have h1:=(I0 e 5001).1
   have h2:=PE r (n+JB e 5001)
   intro d hd
   rcases yJ.1 hd with rfl|hd
   ·omega
   ·exact NM r _ (by omega) h d hd
  ·omega
theorem PF(x:An):∀p∈AL x,p.1∈Cv x:=by
 intro p e
 unfold Cv IY IX GG IW IV Iq OT
 unfold AL J7 GM Eo GN Ia DL Fm Fo at e
 have c:∀ {α:Type} {l:List α} {a:α} {i:Nat},(a,i)∈l.zipIdx->a∈l:=fun h=>by
  obtain ⟨_,h2,h3⟩:=List.mem_zipIdx h
  exact h3▸yy _
 simp only[yo,yN,yJ,zl,xp,Prod.exists] at e ⊢
 rcases e with (rfl|rfl|rfl)|⟨d,i,b,rfl⟩|⟨d,i,b,rfl⟩|⟨d,i,b,h⟩|⟨d,i,b,rfl⟩|⟨d,i,b,h⟩|⟨d,i,b,h⟩|⟨d,i,b,rfl⟩
 ·simp
 ·simp
 ·simp
 ·exact .inl (.inl (.inl (.inl (.inl (.inl (.inl ⟨d,c b,rfl⟩))))))
 ·exact .inl (.inl (.inl (.inl (.inl (.inr ⟨d,c b,rfl⟩)))))
 ·refine .inl (.inl (.inl (.inl (.inr ⟨d,c b,?_⟩))))
  unfold Ee
  rcases h with rfl|rfl|rfl|rfl|rfl|rfl|rfl|rfl<;>simp
 ·exact .inl (.inl (.inl (.inr ⟨d,c b,rfl⟩)))
 ·refine .inl (.inl (.inr ⟨d,c b,?_⟩))
  unfold GD
  simp only[yo,yN,yJ,zl,xp]
  rcases h with (rfl|rfl|rfl)|⟨k,j,f,rfl⟩
  ·simp
  ·simp
  ·simp
  ·exact .inr ⟨k,c f,rfl⟩
 ·refine .inl (.inr ⟨d,c b,?_⟩)
  unfold Ef
  rcases h with rfl|rfl|rfl|rfl|rfl<;>simp
 ·exact .inr ⟨d,c b,rfl⟩
theorem Ms{x:An}(h:Gx x=true)(a:Fe x.rots=true):Fw x:=by
 unfold Gx at h
 simp only[yt,yW] at h
 unfold Fe at a
 rw[yL] at a
 obtain ⟨h1,h2,h3,h4,h5,h6,b⟩:=h
 exact ⟨h1,h2,h3,h4,h5,h6,b,fun d hd=>by simpa using a d hd⟩
theorem RM{x:An}(h:ES x=true):I1 x∧∀e∈AL x,AR e.1<=1000000:=by
 unfold ES at h
 simp only[yt,yW] at h
 obtain ⟨h1,h2,h3⟩:=h
 have a:=Ms h1 h2
 have c:=NM (Cv x) 0 (by omega) h3
 refine ⟨⟨by have:=a.lets;omega,by have:=a.crops;omega,by have:=a.reaches;omega,by have:=a.farms;omega,by have:=a.rots;omega,by have:=a.rights;omega,by have:=a.duties;omega,fun d hd=>by have:=a.turns d hd;omega,fun e b=>?_⟩,fun e b=>?_⟩
 ·exact N8 e.1 5001 (by omega) (c _ (PF x e b))
 ·have h1:=c _ (PF x e b)
  have h2:=N7 e.1 5001 h1
  omega
theorem PG{N:NP}{w:World}{L:Bh}{cs:LV}{x:An}(h:B8 N w L cs x)(hN:∀b,N b->b < w.heap.size):
  Calls Try.prog 10 #[.agg cs.toArray] w fun e w'=>e=.returned (.bool (ES x))∧Below w.heap.size w w':=by
 have f:Hid (U8 L x):=yb ⟨h.lets.1,h.crops.1,h.reaches.1,h.farms.1,h.rots.1,h.rights.1,h.duties.1⟩
 have A:=h.ok
 have D:=h.at
 obtain ⟨z,M⟩:∃z,z=w.alloc (.cells cs.toArray 35):=⟨_,rfl⟩
 have ag:Below w.heap.size w z:=by rw[M];exact (yg _ _).alloc (ye _) _
 have bh:z.heap.size=w.heap.size+1:=by rw[M];simp
 have ai:z.heap[w.heap.size]?=some (.cells cs.toArray 35 (0,0)):=by rw[M];exact World.alloc_heap_new _ _
 have h0:B8 N z L cs x:=h.same (fun _ h=>h) (fun b hb=>ag.block b (hN b hb))
 have aa:=yb h0
 have y:=yb ag;have P:=yb bh;have ae:=yb hN;have cm:=yb A
 have ao:Hid (z.rangeAt w.heap.size 0 cs):=yb (by
  have:=yR ai 0 cs.length
  simpa using this)
 have d:∀q v,cs[q]?=some v->z.cell? (aV w.heap.size q)=some v:=fun q v hq=>by
  simp only[World.cell?,ai];simpa using hq
 have am:Hid ((Try.prog.info? 35).map (·.size)=some cs.length):=yb (by
  obtain ⟨c0,c1,c2,rfl,g0,g1,g2⟩:=h.cells
  obtain ⟨a0,p0,rfl,e0⟩:=g0.cells
  obtain ⟨a1,p1,rfl,e1⟩:=g1.cells
  obtain ⟨a2,p2,rfl,e2⟩:=g2.cells
  kernel_rfl)
 have c4:z.cell? (aV w.heap.size 19)=some (.slice L.lets.a L.lets.n L.lets.c):=d _ _ D.lets
 have c5:z.cell? (aV w.heap.size 20)=some (.slice L.crops.a L.crops.n L.crops.c):=d _ _ D.crops
 have c6:z.cell? (aV w.heap.size 21)=some (.slice L.reaches.a L.reaches.n L.reaches.c):=d _ _ D.reaches
 have c7:z.cell? (aV w.heap.size 22)=some (.slice L.farms.a L.farms.n L.farms.c):=d _ _ D.farms
 have c8:z.cell? (aV w.heap.size 23)=some (.slice L.rots.a L.rots.n L.rots.c):=d _ _ D.rots
 have c9:z.cell? (aV w.heap.size 24)=some (.slice L.rights.a L.rights.n L.rights.c):=d _ _ D.rights
 have ck:z.cell? (aV w.heap.size 25)=some (.slice L.duties.a L.duties.n L.duties.c):=d _ _ D.duties
 have cj:=yb c8
 have l4:L.lets.n<=140737488355328:=A.lets.1
 have l5:L.crops.n<=140737488355328:=A.crops.1
 have l6:L.reaches.n<=140737488355328:=A.reaches.1
 have l7:L.farms.n<=140737488355328:=A.farms.1
 have l8:L.rots.n<=140737488355328:=A.rots.1
 have l9:L.rights.n<=140737488355328:=A.rights.1
 have cr:L.duties.n<=140737488355328:=A.duties.1
 have ar:=yb M
 clear ag bh ai h0 hN M D A d
 obtain ⟨ks,af⟩:∃ks,ks=cs:=⟨_,rfl⟩
 rw[<-af] at aa ao am
 have HK:=yb af
 obtain ⟨q0,q1,q2,rfl,g0,g1,g2⟩:=h.cells
 obtain ⟨a0,p0,rfl,e0⟩:=g0.cells
 obtain ⟨a1,p1,rfl,e1⟩:=g1.cells
 obtain ⟨a2,p2,rfl,e2⟩:=g2.cells
 clear h g0 g1 g2 e0 e1 e2 af
 unfold Av.v at*
 simp only[z7,zj] at ar HK ⊢
 go_enter Try.func10,Try.ntmps10
 go_upto_region 1 with fail
 rw[<-ar.o]
 by_cases ap:L.lets.n<=100
 ·have aq:decide ((L.lets.n:Int)>100)=false:=by simp;omega
  by_cases ak:L.crops.n<=100
  ·have au:decide ((L.crops.n:Int)>100)=false:=by simp;omega
   by_cases ba:L.reaches.n<=100
   ·have an:decide ((L.reaches.n:Int)>100)=false:=by simp;omega
    by_cases b3:L.farms.n<=100
    ·have b8:decide ((L.farms.n:Int)>100)=false:=by simp;omega
     by_cases b4:L.rots.n<=70
     ·have bi:decide ((L.rots.n:Int)>70)=false:=by simp;omega
      by_cases bm:L.rights.n<=300
      ·have al:decide ((L.rights.n:Int)>300)=false:=by simp;omega
       by_cases ax:L.duties.n<=300
       ·have bo:decide ((L.duties.n:Int)>300)=false:=by simp;omega
        have a7:Hid (Gx x=true):=yb (by
         have h1:=f.o.lets;have h2:=f.o.crops;have h3:=f.o.reaches;have h4:=f.o.farms;have h5:=f.o.rots;have h6:=f.o.rights;have h7:=f.o.duties
         unfold Gx
         simp only[yt,yW]
         omega)
        clear ap ak ba b3 b4 bm ax
        go_upto_region 3 with fail
        clear aq au an b8 bi al bo c4 c5 c6 c7 c8 c9 ck
        go_wp2
        have bk:Hid (Fe (x.rots.take 0)=true):=yb (by simp[Fe])
        have Z:=yb (yg z.heap.size z)
        go_loopw [3] (fun iv wr=>∃i:Nat,i<=L.rots.n∧iv=iV i∧Hid (Fe (x.rots.take i)=true)∧Hid (Below z.heap.size z wr)) (fun iv _=>L.rots.n - (intOf iv).toNat)
        case atStart=>exact ⟨0,yz _,rfl,bk,Z⟩
        case round=>
         clear bk Z
         obtain ⟨i,hi,rfl,HT,B⟩:=hrel
         have hf:wr.cell? (aV w.heap.size 23)=some (.slice L.rots.a L.rots.n L.rots.c):=(B.o.cell (p:=(aV w.heap.size 23)) (by rw[P.o];exact xF _)).trans cj.o
         by_cases O:i < L.rots.n
         ·have G:i < x.rots.length:=by rw[<-f.o.rots];exact O
          have T:(i:Int) < (L.rots.n:Int):=by omega
          obtain ⟨b,o,R,he,ab,bp,I,hv⟩:=aa.o.rots.2.2 i G
          have J:=A2 I (B.o.block b (by have:=ae.o b ab;have:=P.o;omega))
          have hz:R[22]?=some (A4 L i).v∧(A4 L i).n=x.rots[i].turns.length∧x.rots[i].turns.length<=140737488355328:=by
           obtain ⟨_,_,d0,d1,d2,rfl,k0,k1,k2,ht⟩:=hv
           have l0:=k0.len;have l1:=k1.len;have l2:=k2.len
           refine ⟨?_,ht.1,ht.2.1⟩
           have e:(Value.string x.rots[i].name::(Ah x.rots[i].on++(iV x.rots[i].rank::(d0++(d1++(d2++[(A4 L i).v]))))))=(Value.string x.rots[i].name::(Ah x.rots[i].on++(iV x.rots[i].rank::(d0++(d1++d2)))))++[(A4 L i).v]:=by simp
           rw[e,yS (by simp[A7,l0,l1,l2])]
           simp[A7,l0,l1,l2]
          have ct:wr.cell? (aV b (o+i*23+22))=some (.slice (A4 L i).a (A4 L i).n (A4 L i).c):=J 22 _ hz.1
          have lt:(A4 L i).n<=140737488355328:=by rw[hz.2.1];exact hz.2.2
          rw[he] at hf
          by_cases K:(A4 L i).n<=70
          ·have c3:decide (((A4 L i).n:Int)>70)=false:=by simp;omega
           have ci:Hid (Fe (x.rots.take (i+1))=true):=yb (by
            have h:=HT.o
            unfold Fe at h ⊢
            rw[yq G,zh,h]
            have:x.rots[i].turns.length<=70:=by rw[<-hz.2.1];exact K
            simp[this])
           clear K I J hz he hv bp ab
           go_wp2
           exact ⟨⟨i+1,by omega,by push_cast;rfl,ci,B⟩,by simp[intOf];omega⟩
          ·have c3:decide (((A4 L i).n:Int)>70)=true:=by simp;omega
           have C:Hid (ES x=false):=yb (by
            have e:Fe x.rots=false:=by
             unfold Fe
             rw[xr]
             exact ⟨x.rots[i],yy G,by rw[<-hz.2.1];simpa using K⟩
            unfold ES
            rw[e];simp)
           clear K I J hz he hv bp ab
           go_wp2
           go_ret
           exact ⟨Bn C.o.symm,y.o.trans (B.o.mono y.o.size)⟩
         ·obtain rfl:i=L.rots.n:=by omega
          have T:decide ((L.rots.n:Int) < (L.rots.n:Int))=false:=by simp
          have a8:Hid (Fe x.rots=true):=yb (by
           have h:=HT.o
           rw[f.o.rots,yw] at h
           exact h)
          have ce:=yb (A2 ao.o (B.o.block w.heap.size (by rw[P.o];exact xF _)))
          have bs:Hid (B8 N wr L ks x):=yb (aa.o.same (fun _ h=>h) (fun b hb=>B.o.block b (by have:=ae.o b hb;have:=P.o;omega)))
          have bn:Hid (∀b,N b->b < wr.heap.size):=yb (fun b hb=>by have:=ae.o b hb;have:=P.o;have:=B.o.size;omega)
          go_wp2_with (first|(refine yj rfl 35 _ rfl w.heap.size 0 rfl ks _ ce.o qB rfl am.o ?_)|(go_at_call 22;refine (Mr bs.o bn.o (Ms a7.o a8.o)).mono ?_;rintro e w2 ⟨v2,rfl,av⟩;have V:=yb av;clear av))
          obtain ⟨rows,bb,H⟩:=V.o.own
          have bq:rows.length=(Cv x).length:=H.length
          have cd:=(Ms a7.o a8.o).top.tE
          have be:3<=(Cv x).length:=by
           unfold Cv IY IX GG IW IV Iq
           simp only[ym,yE,yI]
           omega
          rcases bb with ⟨ch,⟨_,h3⟩|⟨g,cap,cq,rfl,cg,a6,bt,bz,ca,bd⟩⟩
          ·omega
          have d:∀j u,rows.flatten[j]?=some u->w2.cell? (aV g j)=some u:=fun j u hj=>by
           rw[<-bd] at hj
           have O:=(yD.1 hj).1
           rw[yM] at O
           rw[zH,yx (by omega)] at hj
           simp only[World.cell?,a6]
           simpa using hj
          have b9:Hid (∀i (hi:i < (Cv x).length),∃c,w2.rangeAt g (i*6) c∧AP N wr (Cv x)[i] c):=yb (fun i hi=>by
           have az:i < rows.length:=by omega
           refine ⟨rows[i],fun j u hj=>d _ _ ?_,H.get i az hi⟩
           have aj:∀(l:List LV) (k:Nat) (K:k < l.length),(∀r∈l,r.length=6)->∀j u,(l[k])[j]?=some u->l.flatten[k*6+j]?=some u:=by
            intro l
            induction l with
            |nil=>intro k K;simp at K
            |cons r t ih=>
             intro k K h6 j u hu
             have cf:=h6 r (by simp)
             cases k with
             |zero=>
              have bj:r[j]?=some u:=hu
              have cc:=(yD.1 bj).1
              simp only[xP,Nat.zero_mul,yA]
              rw[zx cc]
              exact bj
             |succ k=>
              simp only[xP]
              rw[yS (by omega),cf,show (k+1)*6+j - 6=k*6+j by omega]
              exact ih k (by simpa using K) (fun r hr=>h6 r (by simp[hr])) j u (by simpa using hu)
           refine aj rows i az (fun r hr=>?_) j u hj
           obtain ⟨k,K,rfl⟩:=zg.1 hr
           exact (H.get k K (by omega)).len)
          have ah:Hid (rows.length=(Cv x).length):=yb bq
          have b5:rows.length<=140737488355328:=by omega
          have Q:Hid (Below w.heap.size w w2):=yb ((y.o.trans (B.o.mono y.o.size)).trans (V.o.below.mono (yr y.o.size B.o.size)))
          have bw:Hid (g < w2.heap.size):=yb (yf.1 a6).1
          have aw:Hid (∀W,Below w2.heap.size w2 W->∀b,N b->W.heap[b]?=wr.heap[b]?∧b < W.heap.size):=yb (fun W hW b hb=>by
           have h1:=bn.o b hb
           have h2:=V.o.below.size
           have h3:=hW.size
           exact ⟨(hW.block b (by omega)).trans (V.o.below.block b h1),by omega⟩)
          have C:Hid (ES x=decide (I6 (Cv x) 0<=5000)):=yb (by unfold ES;rw[a7.o,a8.o];rfl)
          generalize hS:I6 (Cv x) 0=S at C
          have b7:Hid (I6 ((Cv x).drop 0) 0=S):=yb hS
          have Y:=yb (yg w2.heap.size w2)
          generalize cb:rows.length=m at ah b5
          clear hS ch a6 bt bz ca bd d H bq be cd hf T cg cb HT
          go_wp2
          go_loopw [4,6] (fun nv iv wr=>∃(i:Nat) (n:Int),nv=iV n∧iv=iV i∧i<=m∧0<=n∧n<=10001∧Hid (I6 ((Cv x).drop i) n=S)∧Hid (Below w2.heap.size w2 wr)) (fun _ iv _=>m - (intOf iv).toNat)
          case atStart=>exact ⟨0,0,rfl,rfl,yz _,by omega,by omega,b7,Y⟩
          case round=>
           clear b7 Y
           obtain ⟨i,n,rfl,rfl,hi,co,cl,HS,F⟩:=hrel
           by_cases O:i < m
           ·have G:i < (Cv x).length:=by rw[<-ah.o];exact O
            have T:(i:Int) < (m:Int):=by omega
            by_cases ay:n<=5000
            ·obtain ⟨c,I,X⟩:=b9.o i G
             have bu:=yb (A2 I (F.o.block g bw.o))
             have HC:=yb (QZ (Cv x)[i] (w:=wr) (most:=5001) (AP.same (fun b h=>h) (fun b hb=>(aw.o wr F.o b hb).1) X) (fun b hb=>(aw.o wr F.o b hb).2) (by omega) (by omega))
             have ac:Hid (I6 ((Cv x).drop (i+1)) (n+JB (Cv x)[i] 5001)=S):=yb (by
              have h:=HS.o
              rw[D5 G,I6,yx ay] at h
              exact h)
             have U:=I0 (Cv x)[i] 5001
             generalize (Cv x)[i]=E at X HC ac U
             generalize JB E 5001=s at HC ac U
             have cp:1<=s:=U.1
             have cn:s<=5001:=by omega
             obtain ⟨a',p',rfl,_⟩:=X.cells
             clear I X U
             go_wp2_with (first|(refine yj rfl 26 _ rfl g (i*6) (by simp[Act.eval]) [iV E.op,iV E.n,iV E.u,.string E.rn,iV E.ri,.slice a' E.args.length p'] _ bu.o qq rfl (by kernel_rfl) ?_)|(go_at_call 23;refine HC.o.mono ?_;rintro e w3 ⟨rfl,bg⟩;have bv:=yb (F.o.trans (bg.mono F.o.size));clear bg))
             exact ⟨⟨i+1,n+s,rfl,by go_num,by omega,by omega,by omega,ac,bv⟩,by simp[intOf];omega⟩
            ·have ad:Hid (n=S):=yb (by
              have h:=HS.o
              rw[D5 G,I6,yu ay] at h
              exact h)
             go_wp2
             go_ret
             exact ⟨Bn (by rw[C.o,<-ad.o];exact (xK (by omega)).symm),Q.o.trans (F.o.mono Q.o.size)⟩
           ·obtain rfl:i=m:=by omega
            have ad:Hid (n=S):=yb (by
             have h:=HS.o
             rw[ah.o,zk,I6] at h
             exact h)
            have T:decide ((i:Int) < (i:Int))=false:=by simp
            go_wp2
            go_ret
            exact ⟨Bn (by rw[C.o,<-ad.o]),Q.o.trans (F.o.mono Q.o.size)⟩
       ·have bo:decide ((L.duties.n:Int)>300)=true:=by simp;omega
        have C:Hid (ES x=false):=yb (by
         have h:=f.o.duties
         have e:decide (x.duties.length<=300)=false:=by simp;omega
         unfold ES Gx
         rw[e];simp)
        clear ax
        go_wp2
        go_ret
        exact ⟨Bn C.o.symm,y.o⟩
      ·have al:decide ((L.rights.n:Int)>300)=true:=by simp;omega
       have C:Hid (ES x=false):=yb (by
        have h:=f.o.rights
        have e:decide (x.rights.length<=300)=false:=by simp;omega
        unfold ES Gx
        rw[e];simp)
       clear bm
       go_wp2
       go_ret
       exact ⟨Bn C.o.symm,y.o⟩
     ·have bi:decide ((L.rots.n:Int)>70)=true:=by simp;omega
      have C:Hid (ES x=false):=yb (by
       have h:=f.o.rots
       have e:decide (x.rots.length<=70)=false:=by simp;omega
       unfold ES Gx
       rw[e];simp)
      clear b4
      go_wp2
      go_ret
      exact ⟨Bn C.o.symm,y.o⟩
    ·have b8:decide ((L.farms.n:Int)>100)=true:=by simp;omega
     have C:Hid (ES x=false):=yb (by
      have h:=f.o.farms
      have e:decide (x.farms.length<=100)=false:=by simp;omega
      unfold ES Gx
      rw[e];simp)
     clear b3
     go_wp2
     go_ret
     exact ⟨Bn C.o.symm,y.o⟩
   ·have an:decide ((L.reaches.n:Int)>100)=true:=by simp;omega
    have C:Hid (ES x=false):=yb (by
     have h:=f.o.reaches
     have e:decide (x.reaches.length<=100)=false:=by simp;omega
     unfold ES Gx
     rw[e];simp)
    clear ba
    go_wp2
    go_ret
    exact ⟨Bn C.o.symm,y.o⟩
  ·have au:decide ((L.crops.n:Int)>100)=true:=by simp;omega
   have C:Hid (ES x=false):=yb (by
    have h:=f.o.crops
    have e:decide (x.crops.length<=100)=false:=by simp;omega
    unfold ES Gx
    rw[e];simp)
   clear ak
   go_wp2
   go_ret
   exact ⟨Bn C.o.symm,y.o⟩
 ·have aq:decide ((L.lets.n:Int)>100)=true:=by simp;omega
  have C:Hid (ES x=false):=yb (by
   have h:=f.o.lets
   have e:decide (x.lets.length<=100)=false:=by simp;omega
   unfold ES Gx
   rw[e];simp)
  clear ap
  go_wp2
  go_ret
  exact ⟨Bn C.o.symm,y.o⟩

theorem B8.len{N:NP}{w:World}{L:Bh}{cs:LV}{x:An}(h:B8 N w L cs x):cs.length=26:=by
 obtain ⟨c0,c1,c2,rfl,b,g1,a⟩:=h.cells
 simp[b.len,g1.len,a.len]

theorem SE{x:An}(h:ES x=true):Fw x:=by
 unfold ES at h
 simp only[yt] at h
 exact Ms h.1 h.2.1
end Go.Proofs.Ytghepahgkcigpaa
