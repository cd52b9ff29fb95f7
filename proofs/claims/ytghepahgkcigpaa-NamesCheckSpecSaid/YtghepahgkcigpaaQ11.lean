/- Parts of the proof, in short words: Yg Yh Ym Yn Zg Rj Rl Rn Ro Rp Rr Sa Sb Sc Sd Se Sf -/
import Derived.Test.YtghepahgkcigpaaQ0
import Derived.Test.YtghepahgkcigpaaQ9
import Derived.Test.YtghepahgkcigpaaQ8
import Derived.Test.YtghepahgkcigpaaQ3
import Derived.Test.YtghepahgkcigpaaQ10
import Derived.BigFrameIn
set_option maxRecDepth 100000
set_option maxHeartbeats 16000000
set_option linter.unusedSimpArgs false
namespace Go.Proofs.Ytghepahgkcigpaa
open Go.RowKit
theorem Mj{N:NP}{w W:World}{e:Ex}{cs:LV}(h:Bh N w e cs):
  Calls Try.prog 95 #[.agg cs.toArray] W fun x w'=>x=.returned (.bool (Da e))∧Below W.heap.size W w':=by
 obtain ⟨a,cap,rfl,_⟩:=h.cells
 exact Pc e.op e.n e.u e.rn e.ri a e.args.length cap W
theorem BD{e:Ex}{F:NP}{w:World}{cs:LV}{h:AF}{r:LB}(I:AZ w h 1 0 r)(J:Bh (GF F w) w e cs)(L:∀b,F b->b < w.heap.size):
  Calls Try.prog 87 #[.agg cs.toArray,h.v] w (Ot F w (Dp r e) (BR r e)):=by
 have N:=ya I
 have j:=ya J
 have M:=ya L
 clear I J L
 generalize K:Da e=z
 have q:=ya K
 clear K
 go_enter Try.func87,Try.ntmps87
 go_upto_region 1 with (refine AR rfl 26 _ rfl cs.toArray rfl ?_)
 obtain ⟨w1,i⟩:∃w1,w1=(w.alloc (.cells cs.toArray 26)).alloc (.cells j9 26):=⟨_,rfl⟩
 rw[<-i]
 have b1:Below w.heap.size w (w.alloc (.cells cs.toArray 26)):=(yc _ _).alloc (ye _) _
 have p:Hid (Below w.heap.size w w1):=ya (by rw[i];exact b1.alloc (by simp) _)
 have n:Hid (w1.heap.size=w.heap.size+2):=ya (by rw[i];simp)
 have E:Hid (w1.heap[w.heap.size]?=some (.cells cs.toArray 26 (0,0))):=ya (by rw[i,yT _ _ _ (by simp)];exact World.alloc_heap_new _ _)
 have D:Hid (w1.heap[w.heap.size+1]?=some (.cells j9 26 (0,0))):=ya (by
  have:=World.alloc_heap_new (w.alloc (.cells cs.toArray 26)) (.cells j9 26)
  rw[i];simpa using this)
 clear i b1
 have d:=ya (A6 E.o)
 have C:Hid (∀w2,Below w1.heap.size w1 w2->w2.rangeAt w.heap.size 0 cs):=ya (fun w2 hb=>A1 d.o (hb.block _ (by rw[n.o];omega)))
 cases z
 ·go_wp2_with (first
   |(refine yf rfl 26 _ rfl w.heap.size 0 rfl cs _ d.o qF rfl (AE j.o.len) ?_)
   |(go_at_call 95;refine (Mj j.o).mono ?_;rintro x w2 ⟨rfl,f⟩;have c:=ya f;have a:Hid (Below w.heap.size w w2):=ya (p.o.trans (f.mono p.o.size));clear f;rw[q.o])
   |(refine yf rfl 26 _ rfl w.heap.size 0 rfl cs _ (C.o _ c.o) qF rfl (AE j.o.len) ?_)
   |(go_at_call 96;refine (PN e (F:=FL F [w.heap.size+1]) (N.o.up a.o) (j.o.flux (AP.below a.o) (fun b hb=>hb.imp id fun k=>by simp at k;omega)) (FG (fun b hb=>yk (M.o b hb) a.o.size) (by have h1:=c.o.size;have h2:=n.o;simp;omega))).mono ?_;rintro x w3 ⟨A,e',rfl,s,B,y⟩;have l:=ya s;have G:=ya B;have u:=ya y;clear s B y)
   |(refine A2 rfl 26 _ _ rfl (w.heap.size+1) rfl A rfl (((u.o.block _ (by have:=c.o.size;have:=n.o;omega)).trans (c.o.block _ (by rw[n.o];omega))).trans D.o) (by rw[l.o.len];rfl) (AE l.o.len) (A8 l.o) ?_;intro w4 m;have g:=ya m;clear m))
  refine At rfl rfl g.o.row qF rfl (AE l.o.len) ?_
  refine ⟨A,e',BH rfl (yz Value.bool (by unfold Dp;rw[q.o];rfl)),?_,?_,g.o.below (a.o.trans (u.o.mono a.o.size)) (zE _)⟩
  ·exact l.o.XF (g.o.flux (.inr (by simp)))
  ·intro H
   unfold Dp at H
   rw[q.o] at H
   unfold BR
   rw[q.o,yq (by simp),G.o (by simpa using H)]
 ·go_wp2_with (first
   |(refine yf rfl 26 _ rfl w.heap.size 0 rfl cs _ d.o qF rfl (AE j.o.len) ?_)
   |(go_at_call 95;refine (Mj j.o).mono ?_;rintro x w2 ⟨rfl,f⟩;have c:=ya f;have a:Hid (Below w.heap.size w w2):=ya (p.o.trans (f.mono p.o.size));clear f;rw[q.o])
   |(refine yf rfl 26 _ rfl w.heap.size 0 rfl cs _ (C.o _ c.o) qF rfl (AE j.o.len) ?_)
   |(refine A2 rfl 26 _ _ rfl (w.heap.size+1) rfl cs rfl ((c.o.block _ (by rw[n.o];omega)).trans D.o) (by rw[j.o.len];rfl) (AE j.o.len) (A8 j.o) ?_;intro w4 m;have g:=ya m;clear m))
  refine At rfl rfl g.o.row qF rfl (AE j.o.len) ?_
  have t:Below w.heap.size w w4:=g.o.below a.o (zE _)
  refine ⟨cs,e,BH rfl (yz Value.bool (by unfold Dp;rw[q.o];rfl)),j.o.Xm (AP.below t),?_,t⟩
  intro _
  unfold BR
  rw[q.o,yu rfl]
section
variable{w W w2 w3:World}{tx tr:TypeId}{ls row c:LV}{n:Nat}{o:Obj}
theorem Bx.scope{h0 h1 h2 h3:AF}(h:Bx w tx ls n row W)(hl:ls=[h0.v,h1.v,h2.v,h3.v]):W.cell? ⟨w.heap.size+1,0,none⟩=some (.slice h0.a h0.n h0.c)∧W.cell? ⟨w.heap.size+1,1,none⟩=some (.slice h1.a h1.n h1.c)∧W.cell? ⟨w.heap.size+1,2,none⟩=some (.slice h2.a h2.n h2.c)∧W.cell? ⟨w.heap.size+1,3,none⟩=some (.slice h3.a h3.n h3.c):=by
 have:=h.l
 subst hl
 simp[World.cell?,this,AF.v]
theorem Bx.part(h:Bx w tx ls n row W){p m q:LV}(a:row=p++(m++q)){off:Nat}(b:p.length=off):W.rangeAt w.heap.size off m:=by
 have h1:=A6 h.x
 rw[a] at h1
 have:=Bn h1
 rwa [b,yD] at this
theorem CN(h:Bx w tx ls n row W)(h2:Below W.heap.size W w2)(h3:AB (w2.alloc o) w3 w2.heap.size c tr){p m q:LV}(d:row=p++(m++q)):w3.heap[w.heap.size]?=some (.cells (p++(m++q)).toArray tx (0,0)):=by
 have a:Below w2.heap.size w2 w3:=h3.below ((yc _ _).alloc (ye _) _) (ye _)
 have hs:=h.size;have b:=h2.size
 rw[<-d]
 exact ((a.block _ (by omega)).trans ((h2.block _ (by omega)))).trans h.x
theorem Di(h:Bx w tx ls n row W)(h2:Below W.heap.size W w2){A:Nat}(b:w.heap.size+3<=A)(h3:AB w2 w3 A c tr){p m q:LV}(a:row=p++(m++q)):w3.heap[w.heap.size]?=some (.cells (p++(m++q)).toArray tx (0,0)):=by
 have hs:=h.size
 rw[<-a]
 exact ((h3.block _ (by omega)).trans ((h2.block _ (by omega)))).trans h.x
theorem Bl{A:Nat}{c0:Array Value}{t:TypeId}(h2:Below W.heap.size W w2)(a:W.heap[A]?=some (.cells c0 t (0,0))):w2.heap[A]?=some (.cells c0 t (0,0)):=(h2.block _ (yd.1 a).1).trans a
theorem FH{F:NP}{l:List Nat}{css:List LV}{es:List Ex}(h:AW (fun c e=>Bh (GF F w) w e c) css es)(hb:Below w.heap.size w W)(hl:∀k∈l,w.heap.size<=k):VE F l W css es:=
 AW.mono (fun _ _ a=>a.flux (AP.below hb) (fun b hb=>hb.imp id (hl b))) h
theorem Br{F:NP}{l:List Nat}(a:∀b,F b->b < w.heap.size)(h:Bx w tx ls n row W)(hl:∀k∈l,k < W.heap.size):∀b,FL F l b->b < W.heap.size:=FG (fun b hb=>yk (a b hb) h.below.size) hl
theorem FI{F:NP}{l:List Nat}{css:List LV}{es:List Ex}{c2:LV}(h:VE F l W css es)(b:w.heap.size+2∈l)(a:AB W w2 (w.heap.size+2) c2 tr):AW (fun c e=>Bh (GF F w2) w2 e c) css es:=
 AW.mono (fun _ _ d=>d.XF (a.flux (.inr b))) h
end
theorem Av(g:Bool):(some g=some true)↔g=true:=by simp
theorem AX{tx:TypeId}{n:Nat}(h:(Try.prog.info? tx).map (·.size)=some n){row:LV}(a:row.length=n):(Try.prog.info? tx).map (·.size)=some row.length:=by rw[a];exact h
theorem Re{B:Nat}{W:World}{t e ty:TypeId}{i:TypeInfo}{z:Value}{size b:Nat}(x:Try.prog.underlying t=some (.slice e))(hi:Try.prog.info? e=some i)(r:i.zero=some z)(m:i.size=size)(p:i.bytes=b)(C:b<=10000)
 {v:Value}{n:Nat}{xs:LV}(f:W.ownsRow B e size v n xs){g c:Nat}{row:LV}(I:W.heap[g]?=some (.cells row.toArray e (0,0)))(hl:row.length=size)(q:∀u∈row,u.oneCell'=true)(s:n+1<=1000000){v':Value}{w':World}
 (a:(Builtin.append_ #[t,t] ty #[v,.slice (some ⟨g,0,none⟩) 1 c]).run Try.prog W=.ok v' w'):v'.ownBlock=v.ownBlock∨v'.ownBlock=some W.heap.size:=by
 have D:(n+1)*b<=1000000*10000:=Nat.mul_le_mul s C
 have d:∀j u,row[j]?=some u->W.cell? (((aV g 0):Addr).add j)=some u:=fun j u K=>by
  rw[zx]
  simp only[World.cell?,I]
  simpa using K
 have l:row.length=1*i.size:=by rw[m,hl,Nat.one_mul]
 rcases f.2 with ⟨rfl,H⟩|⟨k,cap,A,rfl,F,E,J,G,y,w⟩
 ·subst H
  rw[run_append_nil W t ty e i _ x hi r (aV g 0) 1 c row l d (by omega) (by omega) (by rw[p];omega)] at a
  cases a
  exact .inr rfl
 ·by_cases h:n+1<=cap
  ·rw[run_append_room W t ty e i x hi k n cap A E (aV g 0) 1 c row l d q h (by
    rw[m,y,hl]
    calc n*size+size=(n+1)*size:=by rw[Nat.add_mul];omega
     _<=cap*size:=Nat.mul_le_mul_right _ h)] at a
   cases a
   exact .inl rfl
  ·have o:∀j u,xs[j]?=some u->W.cell? (((aV k 0):Addr).add j)=some u:=World.ownsRow.cells f (g:=k) rfl
   rw[run_append_grow W t ty e i _ x hi r (aV k 0) n cap xs (by rw[m];exact f.1) o (aV g 0) 1 c row l d (by omega) (by omega) (growslice_fits (by omega) (by rw[p];omega))] at a
   cases a
   exact .inr rfl
theorem BT{ops:Array Oper}{rest:List Oper}{o:Oper}{a:Act}{Q:QT}{W:World}{t e:TypeId}(C:Try.prog.underlying t=some (.slice e))(w:o.guard=none)(s x:Operand)(E:o.op=.call {callee:=.builtin .append,args:=#[s,x],argTypes:=#[t,t]})
 (size:Nat)(b:((Try.prog.info? e).bind fun i=>i.zero.map fun z=>(i.size,z.cells.size,decide (i.bytes<=10000)))=some (size,size,true))(q:0 < size)
 (B:Nat)(v:Value)(n:Nat)(xs:LV)(hs:a.eval s=v)(k:W.ownsRow B e size v n xs)(g c:Nat)(row:LV)(H:a.eval x=.slice (some ⟨g,0,none⟩) 1 c)(D:W.heap[g]?=some (.cells row.toArray e (0,0)))(hl:row.length=size)(f:∀u∈row,u.oneCell'=true)(l:n+1<=1000000)(m:B<=W.heap.size)
 (h:∀v' w',w'.ownsRow B e size v' (n+1) (xs++row)->W.grownBy w' v.ownBlock->(v'.ownBlock=v.ownBlock∨v'.ownBlock=some W.heap.size)->wpList Try.prog ops Q rest (a.put o.dst v') w'):wpList Try.prog ops Q (o::rest) a W:=by
 cases d:Try.prog.info? e with
 |none=>simp[d] at b
 |some i0=>
  cases r:i0.zero with
  |none=>simp[d,r] at b
  |some z=>
   simp only[d,r,xC,xK,yZ,zo,yR] at b
   obtain ⟨h1,h2,h3⟩:=b
   have y:(n+1)*i0.bytes<=1000000*10000:=Nat.mul_le_mul l h3
   have p:∀j u,row[j]?=some u->W.cell? (((aV g 0):Addr).add j)=some u:=fun j u J=>by
    rw[zx]
    simp only[World.cell?,D]
    simpa using J
   obtain ⟨v',w',A,G,I,_⟩:=run_append_own (P:=Try.prog) W B t o.type e i0 z size i0.bytes C d r h1 rfl h2 q v n xs k (aV g 0) 1 c row (by rw[hl,Nat.one_mul]) p f (by unfold maxLen;omega) (by omega) m
   have hb:=Re (ty:=o.type) C d r h1 rfl h3 k D hl f l A
   refine yF w fun K F=>?_
   unfold Oper.wp
   simp[execOp,E,resolve,invoke,builtin,hs,H,A,Result.andThen]
   exact F _ _ (h v' w' G I hb)
def ob(v:Value):List Nat:=v.ownBlock.toList
def ID{δ:Type}(V:NP->World->LV->δ->Prop):Prop:=∀(N N':NP) (w w':World) (cs:LV) (d:δ),(∀b,N b->N' b)->(∀b,N b->w'.heap[b]?=w.heap[b]?)->V N w cs d->V N' w' cs d
section
variable{δ:Type}{V:NP->World->LV->δ->Prop}{F F':NP}{l l':List Nat}{W W':World}{cs:LV}{d:δ}{v v':Value}{ds:List δ}{ty sz B C:Nat}
theorem ID.flux(hs:ID V)(h:V (GF F W) W cs d)(a:AP F W W')(hl:∀b,F' b->F b∨W.heap.size<=b):V (GF F' W') W' cs d:=hs _ _ _ _ _ _ (fun _ hb=>hb.up a.1 hl) (fun b hb=>a.2 b hb.2 hb.1) h
structure IE (V:(Nat->Prop)->World->List Value->δ->Prop) (ty sz B:Nat) (F:Nat->Prop) (l:List Nat) (W:World) (v:Value) (ds:List δ):Prop where
 own:∃rows:List (List Value),W.ownsRow B ty sz v rows.length rows.flatten∧(∀r∈rows,r.length=sz)∧AW (fun cs d=>V (GF (FL F (l++ob v)) W) W cs d) rows ds
theorem FM:IE V ty sz B F l W (.slice none 0 0) []:=⟨[],⟨by simp,.inl ⟨rfl,rfl⟩⟩,by simp,trivial⟩
theorem Gl{n:Nat}{xs:LV}(h:W.ownsRow B ty sz v n xs):∀k∈ob v,B<=k∧k < W.heap.size:=by
 intro k a
 rcases h.2 with ⟨rfl,_⟩|⟨g,cap,b,rfl,h4,h5,_⟩
 ·simp[ob,Value.ownBlock] at a
 ·simp only[ob,Value.ownBlock,Option.toList_some,zg] at a
  subst a
  exact ⟨h4,(yd.1 h5).1⟩
theorem IE.lt(h:IE V ty sz B F l W v ds):∀k∈ob v,B<=k∧k < W.heap.size:=by
 obtain ⟨rows,h1,_⟩:=h.own
 exact Gl h1
theorem EH{n:Nat}{xs:LV}(h:W.ownsRow B ty sz v n xs):∃a m c,v=.slice a m c:=by
 rcases h.2 with ⟨rfl,_⟩|⟨g,cap,b,rfl,_⟩
 ·exact ⟨_,_,_,rfl⟩
 ·exact ⟨_,_,_,rfl⟩
theorem IE.slice(h:IE V ty sz B F l W v ds):∃a m c,v=.slice a m c:=by
 obtain ⟨rows,h1,_⟩:=h.own
 exact EH h1
theorem Cg{n:Nat}{xs:LV}(h:W.ownsRow B ty sz v n xs)(hb:∀k∈ob v,W'.heap[k]?=W.heap[k]?):W'.ownsRow B ty sz v n xs:=by
 obtain ⟨h1,h2⟩:=h
 refine ⟨h1,h2.imp id ?_⟩
 rintro ⟨g,cap,a,rfl,h4,h5,h6⟩
 exact ⟨g,cap,a,rfl,h4,(hb g (by simp[ob,Value.ownBlock])).trans h5,h6⟩
theorem Rg(hl:∀k∈l',k∈l∨W.heap.size<=k):∀b,FL F l' b->FL F l b∨W.heap.size<=b:=Sg hl
theorem IE.up(hs:ID V)(h:IE V ty sz B F l W v ds)(b:AP (FL F (l++ob v)) W W')(hb:∀k∈ob v,W'.heap[k]?=W.heap[k]?)(hl:∀k∈l',k∈l∨W.heap.size<=k):IE V ty sz B F l' W' v ds:=by
 obtain ⟨rows,h1,h2,h3⟩:=h.own
 refine ⟨rows,Cg h1 hb,h2,AW.mono (fun _ _ c=>hs.flux c b (Rg fun k a=>?_)) h3⟩
 rcases yn.1 a with a|a
 ·exact (hl k a).imp (fun h=>yn.2 (.inl h)) id
 ·exact .inl (yn.2 (.inr a))
structure Rh (F:Nat->Prop) (l:List Nat) (B C:Nat) (wr W:World):Prop where
 below:Below C wr W
 flux:AP (FL F l) wr W
 own:∀k,B<=k->k < wr.heap.size->W.heap[k]?=wr.heap[k]?
theorem Ht(wr:World):Rh F l B C wr wr:=⟨yc _ _,AP.refl _ _,fun _ _ _=>rfl⟩
theorem Rh.call{wr:World}(h:Rh F l B C wr W)(hb:Below W.heap.size W W')(b:C<=wr.heap.size):Rh F l B C wr W':=by
 have a:=h.flux.1
 exact ⟨h.below.trans (hb.mono (by omega)),h.flux.trans (AP.below hb),fun k h1 h2=>(hb.block k (by omega)).trans (h.own k h1 h2)⟩
theorem Rh.wrote{wr:World}{b:Nat}{c:LV}{t:TypeId}(h:Rh F l B C wr W)(a:AB W W' b c t)(hb:(b∈l∧b < B)∨wr.heap.size<=b)(d:C<=b):Rh F l B C wr W':=by
 refine ⟨a.below h.below d,?_,fun k h1 h2=>(a.block k ?_).trans (h.own k h1 h2)⟩
 ·rcases hb with hb|hb
  ·exact h.flux.trans (a.flux (.inr hb.1))
  ·exact a.fresh h.flux hb
 ·rcases hb with hb|hb<;>omega
theorem Rh.drew{wr:World}(h:Rh F l B C wr W):Rh F l B C wr W.drew:=⟨h.below.drew,h.flux,h.own⟩
theorem AP.more(a:AP (FL F l) W W')(b:List Nat):AP (FL F (l++b)) W W':=a.wide fun _ _ h=>h.elim .inl fun h=>.inr (yn.2 (.inl h))
theorem IE.rnd(hs:ID V)(h:IE V ty sz B F l W v ds)(b:Rh F l B C W W'):IE V ty sz B F l W' v ds:=
 h.up hs (b.flux.more _) (fun k a=>b.own k (h.lt k a).1 (h.lt k a).2) (fun _ h=>.inl h)
theorem VE.rnd{css:List LV}{es:List Ex}(h:VE F (l++ob v) W css es)(a:Rh F l B C W W'):VE F (l++ob v) W' css es:=h.up (a.flux.more _) (fun _ h=>.inl h)
structure Uo (V:(Nat->Prop)->World->List Value->δ->Prop) (ty sz B:Nat) (F:Nat->Prop) (l:List Nat) (W W':World) (v v':Value) (ds:List δ):Prop where
 grow:IE V ty sz B F l W' v' ds
 flux:AP (FL F (l++ob v)) W W'
 below:Below B W W'
 obs:∀k∈l++ob v',k∈l++ob v∨W.heap.size<=k
theorem Dj{rows:List LV}{row:LV}{o:Obj}(hs:ID V)(w:AW (fun cs d=>V (GF (FL F (l++ob v)) W) W cs d) rows ds)(s:∀r∈rows,r.length=sz)(f:W.ownsRow B ty sz v rows.length rows.flatten)
 (u:V (GF (FL F (l++ob v)) W) W row d)(j:row.length=sz)(m:W'.ownsRow B ty sz v' (rows.length+1) (rows.flatten++row))(a:(W.alloc o).grownBy W' v.ownBlock)(p:v'.ownBlock=v.ownBlock∨v'.ownBlock=some (W.alloc o).heap.size)(y:B<=W.heap.size):Uo V ty sz B F l W W' v v' (ds++[d]):=by
 have q:Below W.heap.size W (W.alloc o):=(yc _ _).alloc (ye _) _
 have x:(W.alloc o).heap.size=W.heap.size+1:=by simp
 have n:∀k∈ob v',k∈ob v∨W.heap.size<=k:=fun k b=>by
  rcases p with e|e
  ·left;unfold ob at b ⊢;rwa [e] at b
  ·right;unfold ob at b;rw[e,x] at b;simp at b;omega
 have g:AP (FL F (l++ob v)) W W':=by
  refine (AP.below q).trans ⟨a.size,fun k b t=>a.block k b fun e=>t (.inr (yn.2 (.inr ?_)))⟩
  unfold ob;rw[<-e];simp
 have c:∀k∈l++ob v',k∈l++ob v∨W.heap.size<=k:=fun k b=>by
  rcases yn.1 b with b|b
  ·exact .inl (yn.2 (.inl b))
  ·exact (n k b).imp (fun h=>yn.2 (.inr h)) id
 refine ⟨⟨rows++[row],by simpa using m,?_,?_⟩,g,?_,c⟩
 ·intro r i
  rcases yn.1 i with i|i
  ·exact s r i
  ·rw[zg.1 i];exact j
 ·exact AW.append (AW.mono (fun _ _ h=>hs.flux h g (Rg c)) w) ⟨hs.flux u g (Rg c),trivial⟩
 ·refine (q.mono (by omega)).trans ⟨a.os,a.tape,a.output,a.size,fun k b=>a.block k (by omega) fun e=>?_⟩
  have:=(Gl f k (by unfold ob;rw[<-e];simp)).1
  omega
theorem IE.row(hs:ID V)(h:IE V ty sz B F l W v ds)(m:AP (FL F l) W W')(hb:∀k∈ob v,W'.heap[k]?=W.heap[k]?)(s:∀b,F b->b < B)(d:ds.length<=140737488355328):∃h:AF,v=h.v∧B7 (GF F W') W' sz (V (GF F W') W') h ds:=by
 obtain ⟨rows,h1,h2,h3⟩:=h.own
 have hl:rows.length=ds.length:=AW.length h3
 have q:∀i (hi:i < ds.length) (a:i < rows.length),V (GF F W') W' rows[i] ds[i]:=fun i hi a=>hs.flux (AW.get h3 i a hi) (m.more _) (fun b hb=>.inl (.inl hb))
 rcases h1.2 with ⟨rfl,p⟩|⟨g,cap,r,rfl,h4,h5,h6,w,x,t⟩
 ·exact ⟨⟨none,0,0⟩,rfl,by rw[<-hl,p],d,fun i hi=>by omega⟩
 ·refine ⟨⟨some (aV g 0),rows.length,cap⟩,rfl,hl,d,fun i hi=>?_⟩
  have a:i < rows.length:=by omega
  have e:=hb g (by simp[ob,Value.ownBlock])
  have o:=(yd.1 h5).1
  refine ⟨g,0,rows[i],rfl,⟨fun h=>by have:=s g h;omega,by have:=m.1;omega⟩,h2 _ (yw a),?_,q i hi a⟩
  intro j u n
  have f:j < sz:=by rw[<-h2 _ (yw a)];exact (yA.1 n).1
  have c:=(Hh rows sz h2).2 i a j f
  rw[n,<-t] at c
  rw[zJ] at c
  split at c
  ·simp only[World.cell?,e,h5,yD]
   simpa using c
  ·cases c
end
structure Tx (F:Nat->Prop) (l:List Nat) (B C:Nat) (wr:World) (ty:TypeId) (row:List Value) (W:World):Prop where
 rnd:Rh F l B C wr W
 x:W.heap[wr.heap.size]?=some (.cells row.toArray ty (0,0))
section
variable{F:NP}{l l':List Nat}{B C A:Nat}{wr W w2 w3 w4:World}{ty tr:TypeId}{row row' c:LV}{o:Obj}{e:Ex}
theorem Mn(a:C<=wr.heap.size)(b:AB (wr.alloc o) W wr.heap.size row ty):Tx F l B C wr ty row W:=by
 refine ⟨Rh.wrote ((Ht wr).call ?_ a) b (.inr (ye _)) a,b.row⟩
 exact (yc _ _).alloc (ye _) _
theorem Tx.lt(h:Tx F l B C wr ty row W):wr.heap.size < W.heap.size:=(yd.1 h.x).1
theorem Tx.first(h:Tx F l B C wr ty row W)(a:C<=wr.heap.size)(h2:Below W.heap.size W w2)(h3:AB (w2.alloc o) w3 w2.heap.size c tr)(h4:AB w3 w4 wr.heap.size row' ty):Tx F l B C wr ty row' w4:=by
 have h1:=h.lt;have e:=h2.size
 have r2:=h.rnd.call h2 a
 have b:=r2.call (W':=w2.alloc o) ((yc _ _).alloc (ye _) _) a
 have d:=b.wrote h3 (.inr (by omega)) (by omega)
 exact ⟨d.wrote h4 (.inr (ye _)) a,h4.row⟩
theorem Tx.next(h:Tx F l B C wr ty row W)(d:C<=wr.heap.size)(e:A∈l)(a:A < B)(b:C<=A)(h2:Below W.heap.size W w2)(h3:AB w2 w3 A c tr)(h4:AB w3 w4 wr.heap.size row' ty):Tx F l B C wr ty row' w4:=by
 have r2:=h.rnd.call h2 d
 have f:=r2.wrote h3 (.inl ⟨e,a⟩) b
 exact ⟨f.wrote h4 (.inr (ye _)) d,h4.row⟩
theorem FN(a:AB (wr.alloc o) W wr.heap.size row ty):Below wr.heap.size wr W:=a.below ((yc _ _).alloc (ye _) _) (ye _)
theorem PV(h:Below wr.heap.size wr W)(h2:Below W.heap.size W w2)(h3:AB (w2.alloc o) w3 w2.heap.size c tr)(h4:AB w3 w4 wr.heap.size row' ty):Below wr.heap.size wr w4:=by
 have h1:=h.size;have a:=h2.size
 have b2:=h.trans (h2.mono h1)
 exact h4.below (h3.below (b2.alloc b2.size _) (by omega)) (ye _)
theorem Wb(h:Tx F l B C wr ty row W)(h2:Below W.heap.size W w2)(h3:AB (w2.alloc o) w3 w2.heap.size c tr){p m q:LV}(d:row=p++(m++q)):w3.heap[wr.heap.size]?=some (.cells (p++(m++q)).toArray ty (0,0)):=by
 have a:Below w2.heap.size w2 w3:=h3.below ((yc _ _).alloc (ye _) _) (ye _)
 have hs:=h.lt;have b:=h2.size
 rw[<-d]
 exact ((a.block _ (by omega)).trans ((h2.block _ (by omega)))).trans h.x
theorem Wc(h:Tx F l B C wr ty row W)(h2:Below W.heap.size W w2)(b:A < wr.heap.size)(h3:AB w2 w3 A c tr){p m q:LV}(a:row=p++(m++q)):w3.heap[wr.heap.size]?=some (.cells (p++(m++q)).toArray ty (0,0)):=by
 have hs:=h.lt
 rw[<-a]
 exact ((h3.block _ (by omega)).trans ((h2.block _ (by omega)))).trans h.x
theorem Tx.part(h:Tx F l B C wr ty row W){p m q:LV}(a:row=p++(m++q)){off:Nat}(b:p.length=off):W.rangeAt wr.heap.size off m:=by
 have h1:=A6 h.x
 rw[a] at h1
 have:=Bn h1
 rwa [b,yD] at this
theorem Vp(d:Bh (GF (FL F (l'++[wr.heap.size])) w2) w2 e c)(a:A∈l')(h3:AB w2 w3 A row tr)(h4:AB w3 w4 wr.heap.size row' ty):Bh (GF (FL F l') w4) w4 e c:=by
 exact d.fl ((h3.flux (.inr (yn.2 (.inl a)))).trans (h4.flux (.inr (by simp)))) (fun k b=>.inl (yn.2 (.inl b)))
theorem Oy{w:World}(a:Bh (GF F w) w e c)(hb:Below w.heap.size w W)(hl:∀k∈l,w.heap.size<=k):Bh (GF (FL F l) W) W e c:=a.flux (AP.below hb) fun b hb=>hb.imp id (hl b)
end
structure PW {δ:Type} (V:(Nat->Prop)->World->List Value->δ->Prop) (ty sz:Nat) (w:World) (tx:TypeId) (ls:List Value) (n:Nat) (row:List Value) (F:Nat->Prop) (l As:List Nat) (B:Nat) (css:List (List Value)) (es:List Ex) (okP:Nat->Bool) (mpP:Nat->List δ) (i:Nat) (b:Bool) (v:Value) (wr:World):Prop where
 bx:Bx w tx ls n row wr
 a:∀A∈As,∃ca:List Value,ca.length=6∧wr.heap[A]?=some (.cells ca.toArray 26 (0,0))
 ve:VE F (l++ob v) wr css es
 grow:∃ds,IE V ty sz B F l wr v ds∧ds.length=i∧(b=true->ds=mpP i)
 b:b=okP i
 size:B<=wr.heap.size
theorem PW.next{δ:Type}{V:NP->World->LV->δ->Prop}{ty sz:Nat}{w:World}{tx:TypeId}{ls:LV}{n:Nat}{row:LV}{F:NP}{l h:List Nat}{B:Nat}{css:List LV}{es:List Ex}{okP:Nat->Bool}{mpP:Nat->List δ}{i:Nat}{b b':Bool}{v v':Value}{wr W w':World}{ds:List δ}{d:δ}
 (j:PW V ty sz w tx ls n row F l h B css es okP mpP i b v wr)(g:Rh F l B (w.heap.size+3) wr W)(k:w.heap.size+3<=B)(m:∀A∈h,A < B∧∃e:LV,e.length=6∧W.heap[A]?=some (.cells e.toArray 26 (0,0)))(a:Uo V ty sz B F l W w' v v' (ds++[d]))(c:ds.length=i)(hb:b'=okP (i+1))(f:b'=true->ds++[d]=mpP (i+1)):
  PW V ty sz w tx ls n row F l h B css es okP mpP (i+1) b' v' w':=by
 refine ⟨(j.bx.up g.below).up (a.below.mono k),fun A f=>?_,(j.ve.rnd g).up a.flux a.obs,⟨_,a.grow,by simp[c],f⟩,hb,yo j.size (yo g.flux.1 a.flux.1)⟩
 obtain ⟨h1,e,h2,h3⟩:=m A f
 exact ⟨e,h2,(a.below.block A h1).trans h3⟩
theorem Jl:ID Fv:=fun _ _ _ _ _ _ a hb h=>h.same a hb
theorem DP:ID Hf:=fun _ _ _ _ _ _ a hb h=>h.same a hb
theorem Fj:ID F6:=fun _ _ _ _ _ _ a hb h=>h.same a hb
theorem DI:ID CY:=fun _ _ _ _ _ _ a hb h=>h.same a hb
theorem Ej:ID E9:=fun _ _ _ _ _ _ a hb h=>h.same a hb
theorem DJ:ID CQ:=fun _ _ _ _ _ _ a hb h=>h.same a hb
theorem Ek:ID Er:=fun _ _ _ _ _ _ a hb h=>h.same a hb
def N4(N:NP)(w:World)(cs:LV)(d:AS):Prop:=∃h,I6 N w h cs d
theorem EW:ID N4:=fun _ _ _ _ _ _ a hb ⟨h,k⟩=>⟨h,k.same a hb⟩
section
variable{δ:Type}{V:NP->World->LV->δ->Prop}{ty sz B:Nat}{F:NP}{l:List Nat}{Xt:List Nat->World->Prop}{okP:Nat->Bool}{mpP:Nat->List δ}{i:Nat}{b b':Bool}{v v':Value}{wr W w':World}{ds:List δ}{d:δ}
structure DQ (V:(Nat->Prop)->World->List Value->δ->Prop) (ty sz B:Nat) (F:Nat->Prop) (l:List Nat) (Xt:List Nat->World->Prop) (okP:Nat->Bool) (mpP:Nat->List δ) (i:Nat) (b:Bool) (v:Value) (wr:World):Prop where
 ex:Xt (l++ob v) wr
 grow:∃ds,IE V ty sz B F l wr v ds∧ds.length=i∧(b=true->ds=mpP i)
 b:b=okP i
 size:B<=wr.heap.size
def KW(F:NP)(B:Nat)(Xt:List Nat->World->Prop):Prop:=∀(l l':List Nat) (W W':World),Xt l W->AP (FL F l) W W'->Below B W W'->(∀k∈l',k∈l∨W.heap.size<=k)->Xt l' W'
theorem DQ.next(j:DQ V ty sz B F l Xt okP mpP i b v wr)(e:KW F B Xt)(h:Xt (l++ob v) W)(f:wr.heap.size<=W.heap.size)(c:Uo V ty sz B F l W w' v v' (ds++[d]))(a:ds.length=i)(hb:b'=okP (i+1))(g:b'=true->ds++[d]=mpP (i+1)):
  DQ V ty sz B F l Xt okP mpP (i+1) b' v' w':=
 ⟨e _ _ _ _ h c.flux c.below c.obs,⟨_,c.grow,by simp[a],g⟩,hb,yo j.size (yo f c.flux.1)⟩
theorem Jm{X Y:List Nat->World->Prop}(h:KW F B X)(k:KW F B Y):KW F B (fun l W=>X l W∧Y l W):=fun l l' W W' b a hb hl=>⟨h l l' W W' b.1 a hb hl,k l l' W W' b.2 a hb hl⟩
theorem Mo(css:List LV)(es:List Ex):KW F B (fun l W=>VE F l W css es):=fun _ _ _ _ h a _ hl=>h.up a hl
theorem Mp{w:World}{tx:TypeId}{ls row:LV}{n:Nat}(a:w.heap.size+3<=B):KW F B (fun _ W=>Bx w tx ls n row W):=fun _ _ _ _ h _ hb _=>h.up (hb.mono a)
theorem B7.flux{F F':NP}{W W':World}{h:AF}{ds:List δ}(hs:ID V)(d:B7 (GF F W) W sz (V (GF F W) W) h ds)(a:AP F W W')(hl:∀b,F' b->F b∨W.heap.size<=b):B7 (GF F' W') W' sz (V (GF F' W') W') h ds:=
 d.same (fun _ hb=>hb.up a.1 hl) (fun b hb=>a.2 b hb.2 hb.1) (fun _ _ c=>hs.flux c a hl)
theorem T5{h:AF}{ds:List δ}(hs:ID V):KW F B (fun l W=>B7 (GF (FL F l) W) W sz (V (GF (FL F l) W) W) h ds):=fun _ _ _ _ b a _ hl=>b.flux hs a (Sg hl)
theorem IE.done(hs:ID V)(h:IE V ty sz B F l W v ds)(s:∀b,F b->b < B)(hl:∀k∈l,k < B)(d:ds.length<=140737488355328):∃h:AF,v=h.v∧B7 (GF (FL F l) W) W sz (V (GF (FL F l) W) W) h ds:=by
 obtain ⟨rows,h1,h2,h3⟩:=h.own
 have e:rows.length=ds.length:=AW.length h3
 have q:∀i (hi:i < ds.length) (a:i < rows.length),V (GF (FL F l) W) W rows[i] ds[i]:=fun i hi a=>hs.flux (AW.get h3 i a hi) (AP.refl _ _) (fun b hb=>.inl (hb.imp id fun o=>yn.2 (.inl o)))
 rcases h1.2 with ⟨rfl,p⟩|⟨g,cap,r,rfl,h4,h5,h6,w,x,t⟩
 ·exact ⟨⟨none,0,0⟩,rfl,by rw[<-e,p],d,fun i hi=>by omega⟩
 ·refine ⟨⟨some (aV g 0),rows.length,cap⟩,rfl,e,d,fun i hi=>?_⟩
  have a:i < rows.length:=by omega
  have f:=(yd.1 h5).1
  refine ⟨g,0,rows[i],rfl,⟨fun h=>h.elim (fun h=>by have:=s g h;omega) (fun h=>by have:=hl g h;omega),f⟩,h2 _ (yw a),?_,q i hi a⟩
  intro j u n
  have m:j < sz:=by rw[<-h2 _ (yw a)];exact (yA.1 n).1
  have c:=(Hh rows sz h2).2 i a j m
  rw[n,<-t] at c
  rw[zJ] at c
  split at c
  ·simp only[World.cell?,h5,yD]
   simpa using c
  ·cases c
end
section
variable{P:Program}{ops:Array Oper}{Q:QT}{md:Region.Mode}{T:World->Prop}{k:Nat}
theorem D4{i j:Nat}{o d:Oper}{fuel:Nat}{b:Array Bool}{a:Act}{w:World}(p:Region.ready md ops b=[i,j])(r:ops[i]?=some o)(e:ops[j]?=some d)
 (h:∀K:Act->World->Prop,Hid (∀a w,((b.setIfInBounds i true).getD k true=false->T w)->Ec P md ops Q T k fuel (b.setIfInBounds i true) a w->K a w)->if Region.wanted o (yielded ops a.tmps)=true then Oper.wp P o a w K Q else K (a.put o.dst undef) w)
 (q:∀K:Act->World->Prop,Hid (∀a w,((b.setIfInBounds j true).getD k true=false->T w)->Ec P md ops Q T k fuel (b.setIfInBounds j true) a w->K a w)->if Region.wanted d (yielded ops a.tmps)=true then Oper.wp P d a w K Q else K (a.put d.dst undef) w):Ec P md ops Q T k (fuel+1) b a w:=by
 refine ⟨fun h0=>(by rw[p] at h0;cases h0),fun m c=>?_⟩
 rw[p] at c
 rcases yO.1 c with rfl|c
 ·exact wpOp_step r (fun g l=>h g (ya fun a w n f=>l a w ⟨n,f⟩))
 ·obtain rfl:=zg.1 c
  exact wpOp_step e (fun g l=>q g (ya fun a w n f=>l a w ⟨n,f⟩))
end
theorem AH{P:Program}{x y:Code}{Q:QT}{a:Act}{w:World}(h:∀K:Act->World->Prop,Hid (∀a w,Code.wp P y Q a w->K a w)->Code.wp P x (Exit.then K Q) a w):Code.wp P (x.seq y) Q a w:=wp_seq (h _ (ya fun _ _ h=>h))
theorem We{Q:QT}{w V W5:World}{x:AA}{L:BL}{N M:NP}{bl bc br bf Bf:Nat}(hQ:M9 Q w x)(p:Js w x W5 L N M bl bc br bf Bf V.heap.size)
 (a1:RL w.heap.size W5 (Tb.of x) (Dt W5 L x) V.heap.size (.cells #[.pointer (some ⟨w.heap.size+1,0,none⟩)] 52) 0 V)(aj:Bf < V.heap.size)(aa:br < V.heap.size)(ab:W5.heap.size=V.heap.size+1)
 (u0 u1 u8 u9 u10 u11 u12 u14 u15 u16 u17 u18 u19 u20 u21 u22 u23 u24 u25 u26 u27 u28 u29 u30 u31 u32 u33 u34 u35 u36 u37 u38 u39 u40 u41 u42 u43 u44 u45 u46 u47 u48 u49 u50 u51 u52 u53 u54 u55 u56 u57 u58 u59 u60 u61 u62 u63 u64 u65 u66 u67 u68 u69 u70 u71 u72 u73 u74 u75 u76 u77 u78 u79 u80 u81 u82 u83 u84 u85 u86 u87 u88 u89 u90 u91 u92 u93 u94 u95 u96 u97 u98 u99 u100 u101 u102 u103 u104 u105 u106 u107 u108 u109 u110 u111 u112 u113 u114 u115 u116 u117 u118 u119 u120 u121 u122 u123 u124 u125 u126 u127 u128 u129 u130 u131 u132 u133 u134 u135 u136 u137 u138 u139 u140 u141 u142 u143 u144 u145 u146 u147 u148 u149 u150 u151 u152 u153 u154 u155 u156 u157 u158 u159 u160 u161 u162 u163 u164 u165 u166 u167 u168 u169 u170 u171 u172 u173:Value):
  I3 11 Try.prog (DM 19 (Try.f11.body.getD .skip)) Q {tmps:=#[u0,u1,.pointer (some ⟨w.heap.size+1,0,none⟩),.pointer (some ⟨w.heap.size+2,0,none⟩),.pointer (some ⟨bl,0,none⟩),.pointer (some ⟨bc,0,none⟩),.pointer (some ⟨br,0,none⟩),.pointer (some ⟨bf,0,none⟩),u8,u9,u10,u11,u12,.pointer (some ⟨Bf,0,none⟩),u14,u15,u16,u17,u18,u19,u20,u21,u22,u23,u24,u25,u26,u27,u28,u29,u30,u31,u32,u33,u34,u35,u36,u37,u38,u39,u40,u41,u42,u43,u44,u45,u46,u47,u48,u49,u50,u51,u52,u53,u54,u55,u56,u57,u58,u59,u60,u61,u62,u63,u64,u65,u66,u67,u68,u69,u70,u71,u72,u73,u74,u75,u76,u77,u78,u79,u80,u81,u82,u83,u84,u85,u86,u87,u88,u89,u90,u91,u92,u93,u94,u95,u96,u97,u98,u99,u100,u101,u102,u103,u104,u105,u106,u107,u108,u109,u110,u111,u112,u113,u114,u115,u116,u117,u118,u119,u120,u121,u122,u123,u124,u125,u126,u127,u128,u129,u130,u131,u132,u133,u134,u135,u136,u137,u138,u139,u140,u141,u142,u143,u144,u145,u146,u147,u148,u149,u150,u151,u152,u153,u154,u155,u156,u157,u158,u159,u160,u161,u162,u163,u164,u165,u166,u167,u168,u169,u170,u171,u172,u173],defers:=[Kw w.heap.size]} V:=by
 have R:=p.ls
 have Y:w.heap.size+3<=V.heap.size:=by
  obtain ⟨v,he⟩:=p.amid.e
  have h1:=(yd.1 he).1
  rcases zV (w.heap.size+2) V.heap.size with h|h
  ·omega
  ·have h2:w.heap.size+2=V.heap.size:=by omega
   rw[h2,p.box] at he
   cases he
 have f:L.reaches.ok:=p.ps.reaches.ok
 have a0:∀k wr,RL w.heap.size W5 (Tb.of x) (Dt W5 L x) V.heap.size (.cells #[.pointer (some ⟨w.heap.size+1,0,none⟩)] 52) k wr->wr.cell? ⟨w.heap.size+1,21,none⟩=some L.reaches.v:=fun k wr h=>by
  rw[<-h.cell (by omega),h.2.cells _ _ (by omega) (Hr ⟨_,R▸p.ps.ty,rfl⟩),<-R]
  exact p.ps.hreaches
 have I:L.reaches.n<=140737488355328:=f.1
 have U:L.reaches.n=x.reaches.length:=p.ps.reaches.1
 have r:∀k wr,RL w.heap.size W5 (Tb.of x) (Dt W5 L x) V.heap.size (.cells #[.pointer (some ⟨w.heap.size+1,0,none⟩)] 52) k wr->wr.cell? ⟨Bf,0,none⟩=some (.func (.func 49) #[] #[]):=fun k wr h=>by
  rw[<-h.cell aj];exact Md p.find (by simp) (Jh (by decide)) h.2
 obtain ⟨mr,a7⟩:∃mr,∀k wr,RL w.heap.size W5 (Tb.of x) (Dt W5 L x) V.heap.size (.cells #[.pointer (some ⟨w.heap.size+1,0,none⟩)] 52) k wr->wr.cell? ⟨br,0,none⟩=some (.map (some mr))∧CH wr mr (x.reaches.map (·.name)):=by
  obtain ⟨m,h1,h2⟩:=p.reaches
  obtain ⟨es,ap,h3,_⟩:=h2.size
  have ar:m < V.heap.size:=by
   rcases zV m V.heap.size with h|h
   ·exact h
   ·have h4:m=V.heap.size:=by have:=h2.lt;omega
    rw[h4,p.box] at h3;cases h3
  refine ⟨m,fun k wr h=>⟨?_,?_⟩⟩
  ·rw[<-h.cell aa];exact Md h1 (by simp) (Jh (by decide)) h.2
  ·refine h2.block ?_
   rw[<-h.heap ar]
   exact h.2.same m h2.lt (Mc fun t ⟨c,hc⟩=>by rw[h3] at hc;cases hc)
 have ag:=ya a0;have a2:=ya r;have S:=ya a7
 have HQ:=ya hQ;have D:=ya p;have b8:=ya Y;have aq:=ya ab;have HN:=ya U
 have au:=ya a1
 have s:Hid (∀k tm wr,RL w.heap.size W5 (Tb.of x) (Dt W5 L x) V.heap.size (.cells #[.pointer (some ⟨w.heap.size+1,0,none⟩)] 52) k wr->MX w.heap.size tm->AK x=170->Q (.panic (Fx 170)) {tmps:=tm,defers:=[Kw w.heap.size]} wr):=ya (fun k tm wr h hv J=>by
  have:=hQ.fail tm wr hv (RL.amid p.amid h Y) (by rw[J];decide)
  rw[J] at this;exact this)
 have l:=a0 0 V a1
 have a8:=p.ps.reaches.2.2
 have ay:=ya a8
 generalize ai:L.reaches=rr at l I U
 obtain ⟨ra,rn,rc⟩:=rr
 have q:=ya ai
 unfold AF.v at l
 simp only at l I
 clear R Y f a0 U r a7 hQ p a1 aj aa ab a8 ai
 unfold Kw
 refine Aq (Af ?_)
 go_wp2
 clear l
 go_loopw [91] (fun iv wr=>∃i:Nat,iv=.int .i64 i∧i<=rn∧Hid (RL w.heap.size W5 (Tb.of x) (Dt W5 L x) V.heap.size (.cells #[.pointer (some ⟨w.heap.size+1,0,none⟩)] 52) i wr)) (fun iv _=>rn - (intOf iv).toNat)
 case atStart=>exact ⟨0,rfl,yv _,au⟩
 case round=>
  obtain ⟨i,rfl,hi,HR⟩:=hrel
  by_cases ac:i < rn
  ·have hl:i < x.reaches.length:=by rw[<-HN.o,q.o];exact ac
   obtain ⟨g,ha,hg,ty,O⟩:=ay.o i hl
   rw[q.o] at ha
   simp only at ha
   subst ha
   have hX:=Rb D.o.ps hl (by rw[q.o])
   have b:=xv hX
   have u:=D.o.Xx _ b
   have ad:g < V.heap.size:=by
    have h1:=(D.o.hN g hg).2
    rcases zV g V.heap.size with h|h
    ·exact h
    ·have h4:g=V.heap.size:=by have:=aq.o;omega
     obtain ⟨c,hc⟩:=ty
     rw[h4,D.o.box] at hc;cases hc
   have T:(x.reaches[i].frm.name).size<=maxLen:=u.len
   generalize x.reaches[i].frm.name=P at hX b u T
   generalize x.reaches[i].frm.n=un at hX b u
   have HX:=ya hX;have K:=ya b;have X:=ya u;have E:=ya ad;have H:=ya T
   have aw:(i:Int) < (rn:Int):=by omega
   have b4:Hid (i < (x.reaches.map (·.name)).length):=ya (by rw[yI];exact hl)
   clear hX b u ad T hg ty O hl
   by_cases h0:i=0
   ·subst h0
    obtain ⟨c0,⟨z,c1,y⟩,cf⟩:=HR.o.read X.o E.o
    simp only[qj,yD] at c0 c1 y
    obtain rfl:=y (by simp)
    have b9:wr.cell? ⟨w.heap.size+1,21,none⟩=some (.slice (some ⟨g,0,none⟩) rn rc):=by
     have h:=ag.o _ _ HR.o
     rw[q.o] at h;exact h
    clear cf y
    cases hb:Kv (Tb.of x) ⟨g,0*51+1,if (0:Nat)=0 then 0 else 6,(0:Nat),P,z⟩ with
    |true=>
     have HB:=ya hb
     obtain ⟨ah,av⟩:P.size=0∧z=0:=by
      have h:=hb
      unfold Kv Ig at h
      simpa using h
     have b3:P=⟨#[]⟩:=PX ((Dg P).1 ah)
     clear hb ah
     subst av
     subst b3
     go_wp2_with (first|(go_at_call 50;refine (Df _ _).mono ?_;rintro e w5 ⟨rfl,Z⟩;obtain rfl:=Z.symm))
     exact ⟨⟨1,rfl,by omega,ya (HR.o.skip HX.o (by simp) HB.o)⟩,by simp[intOf];omega⟩
    |false=>
     have C:=ya (D.o.bad K.o hb)
     have af:¬ (P.size=0∧z=0):=by
      have h:=hb
      unfold Kv Ig at h
      simpa using h
     have ao:=ya af
     clear hb af
     go_wp2_with (first|(exact absurd ⟨(Dg _).2 (by assumption),(by assumption)⟩ ao.o)|(go_at_call 50;refine (D7 _ _).mono ?_;rintro e w5 ⟨rfl,Z⟩;obtain rfl:=Z.symm))
     all_goals first
      |exact s.o _ _ _ HR.o ⟨rfl,rfl⟩ C.o
      |fail
   ·have ak:=ya HR.o.drew
    have h6:(if i=0 then (0:Int) else 6)=6:=by rw[yq h0]
    have hS:∀W,RL w.heap.size W5 (Tb.of x) (Dt W5 L x) V.heap.size (.cells #[.pointer (some ⟨w.heap.size+1,0,none⟩)] 52) i W->W.cell? ⟨Bf,0,none⟩=some (.func (.func 49) #[] #[])∧W.cell? ⟨w.heap.size+1,21,none⟩=some (.slice (some ⟨g,0,none⟩) rn rc)∧W.cell? ⟨br,0,none⟩=some (.map (some mr)):=fun W h=>⟨a2.o _ _ h,by have h:=ag.o _ _ h;rw[q.o] at h;exact h,(S.o _ _ h).1⟩
    have HS:=ya hS
    have b5:((i:Int)==0)=false:=by simp;omega
    have b7:=ya h6
    have G:=ya ac
    cases hb:Kv (Tb.of x) ⟨g,i*51+1,if i=0 then 0 else 6,(i:Int),P,un⟩ with
    |true=>
     have HB:=ya hb
     rw[h6] at hb
     obtain ⟨j,hp,hv,ae,an⟩:=Hu (to:=6) (by decide) hb
     have d:Hid (∀W,RL w.heap.size W5 (Tb.of x) (Dt W5 L x) V.heap.size (.cells #[.pointer (some ⟨w.heap.size+1,0,none⟩)] 52) i W->Calls Try.prog 49 #[.pointer (some ⟨g,i*51+1,none⟩),.map (some mr),.int .i64 i] W fun e w'=>(e=.returned (.tuple #[])∧RL w.heap.size W5 (Tb.of x) (Dt W5 L x) V.heap.size (.cells #[.pointer (some ⟨w.heap.size+1,0,none⟩)] 52) (i+1) w')∨(e=.panicked (Fx 170)∧False)):=ya (fun W h=>by
      obtain ⟨c0,⟨z,c1,y⟩,cf⟩:=h.read X.o E.o
      refine (Hl (most:=(i:Int)) c0 c1 cf (S.o _ _ h).2 H.o hp (ae rfl)).mono ?_
      rintro e w2 ⟨rfl,rfl⟩
      refine .inl ⟨rfl,?_⟩
      have h:=h.next D.o.Xx HX.o E.o (by simp only;rw[h6];decide) HB.o
      simp only[h6] at h
      rw[show GH (Tb.of x) (Ds 6) P=_ from hv] at h
      exact h)
     clear hb hp hv ae an h6 hS h0
     go_wp2_with fail
     refine VO (B:=w.heap.size) (Bf:=Bf) (g:=g) (rn:=rn) (rc:=rc) (br:=br) (mr:=mr) (i:=i) (R1:=fun W=>RL w.heap.size W5 (Tb.of x) (Dt W5 L x) V.heap.size (.cells #[.pointer (some ⟨w.heap.size+1,0,none⟩)] 52) i W) (R2:=fun W=>RL w.heap.size W5 (Tb.of x) (Dt W5 L x) V.heap.size (.cells #[.pointer (some ⟨w.heap.size+1,0,none⟩)] 52) (i+1) W) (R3:=fun _=>False) _ ?_ ?_ ?_ ?_ ?_ ?_ ?_ ?_ ?_ ?_ ?_ ?_
     ·rfl
     ·rfl
     ·rfl
     ·rfl
     ·rfl
     ·rfl
     ·exact G.o
     ·exact ak.o
     ·exact HS.o
     ·exact d.o
     ·exact fun _ _ _ _ h=>h.elim
     ·intro a W a6 F A al
      have ax:=ya al
      obtain ⟨v105,v106,v107,v108,v109,v110,v111,v112,v113,rfl⟩:∃v105 v106 v107 v108 v109 v110 v111 v112 v113:Value,a={tmps:=#[u0,u1,.pointer (some ⟨w.heap.size+1,0,none⟩),.pointer (some ⟨w.heap.size+2,0,none⟩),.pointer (some ⟨bl,0,none⟩),.pointer (some ⟨bc,0,none⟩),.pointer (some ⟨br,0,none⟩),.pointer (some ⟨bf,0,none⟩),u8,u9,u10,u11,u12,.pointer (some ⟨Bf,0,none⟩),.int .i64 i,u15,u16,u17,u18,u19,u20,u21,u22,u23,u24,u25,u26,u27,u28,u29,u30,u31,u32,u33,u34,u35,u36,u37,u38,u39,u40,u41,u42,u43,u44,u45,u46,u47,u48,u49,u50,u51,u52,u53,u54,u55,u56,u57,u58,u59,u60,u61,u62,u63,u64,u65,u66,u67,u68,u69,u70,u71,u72,u73,u74,u75,u76,u77,u78,u79,u80,u81,u82,u83,u84,u85,u86,u87,.pointer (some ⟨w.heap.size+1,21,none⟩),.slice (some ⟨g,0,none⟩) rn rc,.int .i64 rn,.int .i64 i,.bool true,.int .i64 i,.int .i64 i,.bool false,u96,u97,u98,u99,u100,u101,u102,u103,u104,v105,v106,v107,v108,v109,v110,v111,v112,v113,u114,u115,u116,u117,u118,u119,u120,u121,u122,u123,u124,u125,u126,u127,u128,u129,u130,u131,u132,u133,u134,u135,u136,u137,u138,u139,u140,u141,u142,u143,u144,u145,u146,u147,u148,u149,u150,u151,u152,u153,u154,u155,u156,u157,u158,u159,u160,u161,u162,u163,u164,u165,u166,u167,u168,u169,u170,u171,u172,u173],defers:=[Kw w.heap.size]}:=by
       refine ⟨a.tmps.getD 105 undef,a.tmps.getD 106 undef,a.tmps.getD 107 undef,a.tmps.getD 108 undef,a.tmps.getD 109 undef,a.tmps.getD 110 undef,a.tmps.getD 111 undef,a.tmps.getD 112 undef,a.tmps.getD 113 undef,(Lu [105,106,107,108,109,110,111,112,113] (a6.trans rfl) F (fun t ht=>A t ?_)).trans (by kernel_rfl)⟩
       simp at ht;omega
      clear a6 F A al
      unfold Kw
      go_wp2
      exact ⟨⟨i+1,by push_cast;rfl,by omega,ax⟩,by simp[intOf];omega⟩
    |false=>
     have C:=ya (D.o.bad K.o hb)
     rw[h6] at hb
     have hn:=Hv (to:=6) (by decide) hb
     have d:Hid (∀W,RL w.heap.size W5 (Tb.of x) (Dt W5 L x) V.heap.size (.cells #[.pointer (some ⟨w.heap.size+1,0,none⟩)] 52) i W->Calls Try.prog 49 #[.pointer (some ⟨g,i*51+1,none⟩),.map (some mr),.int .i64 i] W fun e w'=>(e=.returned (.tuple #[])∧False)∨(e=.panicked (Fx 170)∧RL w.heap.size W5 (Tb.of x) (Dt W5 L x) V.heap.size (.cells #[.pointer (some ⟨w.heap.size+1,0,none⟩)] 52) i w')):=ya (fun W h=>by
      obtain ⟨c0,⟨z,c1,y⟩,cf⟩:=h.read X.o E.o
      refine (Je (most:=(i:Int)) c0 (S.o _ _ h).2 H.o (fun j hp=>(hn j hp).2)).mono ?_
      rintro e w2 ⟨rfl,rfl⟩
      exact .inr ⟨rfl,h⟩)
     clear hb hn h6 hS h0
     go_wp2_with fail
     refine VO (B:=w.heap.size) (Bf:=Bf) (g:=g) (rn:=rn) (rc:=rc) (br:=br) (mr:=mr) (i:=i) (R1:=fun W=>RL w.heap.size W5 (Tb.of x) (Dt W5 L x) V.heap.size (.cells #[.pointer (some ⟨w.heap.size+1,0,none⟩)] 52) i W) (R2:=fun _=>False) (R3:=fun W=>RL w.heap.size W5 (Tb.of x) (Dt W5 L x) V.heap.size (.cells #[.pointer (some ⟨w.heap.size+1,0,none⟩)] 52) i W) _ ?_ ?_ ?_ ?_ ?_ ?_ ?_ ?_ ?_ ?_ ?_ ?_
     ·rfl
     ·rfl
     ·rfl
     ·rfl
     ·rfl
     ·rfl
     ·exact G.o
     ·exact ak.o
     ·exact HS.o
     ·exact d.o
     ·intro a W F A hr
      obtain ⟨tm,df⟩:=a
      obtain rfl:df=[Kw w.heap.size]:=F
      exact s.o i tm W hr ⟨(A 2 (by omega)).trans rfl,(A 3 (by omega)).trans rfl⟩ C.o
     ·exact fun _ _ _ _ _ h=>h.elim
  ·obtain rfl:i=rn:=by omega
   have aw:decide ((i:Int) < (i:Int))=false:=by simp
   have az:Hid (Js w x W5 L N M bl bc br bf Bf wr.heap.size):=ya (by rw[HR.o.1];exact D.o)
   have am:Hid (RJ w.heap.size W5 (Tb.of x) (Dt W5 L x) (G2 L x).length (fun _=>False) (wr.alloc (.cells #[.pointer (some ⟨w.heap.size+1,0,none⟩)] 52))):=ya (by
    rw[Mf D.o.ps,<-HN.o,q.o]
    exact HR.o.2)
   go_wp2
   exact WI HQ.o az.o am.o _ _ _ _ _ _ _ _ _ _ _ _ _ _ _ _ _ _ _ _ _ _ _ _ _ _ _ _ _ _ _ _ _ _ _ _ _ _ _ _ _ _ _ _ _ _ _ _ _ _ _ _ _ _ _ _ _ _ _ _ _ _ _ _ _ _ _ _ _ _ _ _ _ _ _ _ _ _ _ _ _ _ _ _ _ _ _ _ _ _ _ _ _ _ _ _ _ _ _ _ _ _ _ _ _ _ _ _ _ _ _ _ _ _ _ _ _ _ _ _ _ _ _ _ _ _ _ _ _ _ _ _ _ _ _ _ _ _ _ _ _ _ _ _ _ _ _ _ _ _ _ _ _ _ _ _ _ _ _ _ _ _ _ _ _ _ _
theorem BS.lt{W:World}{b:Nat}{a:LB}(h:BS W b a):b < W.heap.size:=by
 obtain ⟨m,h1,_⟩:=h
 exact (yd.1 h1).1
theorem Wf{Q:QT}{w V:World}{x:AA}{L:BL}{cs:LV}{N:NP}{bl bc br bf:Nat}(hQ:M9 Q w x)(g:Ik w x L cs N V)
 (h1:BS V bl (x.lets.map (·.name)))(h2:BS V bc (x.crops.map (·.name)))(h3:BS V br (x.reaches.map (·.name)))(h4:BS V bf (x.farms.map (·.name)))
 (hf:BX x=true)(hw:AK x=if DG (Tb.of x) x&&Dc (Tb.of x) x then 0 else 170)
 (u0 u8 u9 cp ca dl ej dn dm c4 dg ed d4 cq cc e7 eq e8 ev cr d3 c5 ek e4 el dv cb ec bs bt cn d2 em c6 cd bz e9 cf ch bp en bq dh d8 cm dp cg c8 ck ea dd d0 cx dx di ee cu e5 d9 co d6 cz db c3 ct ci e6 de ef eg et dk dq d5 cj dc ei cl df ce eo bw c7 er dt eb du d1 dj dy c9 d7 bv B ad a2 ax be W av ar F az bi p j a1 ah bh S i C n ay b5 r bk bo aq bj ae b3 ai O ao M y a6 T bg af P b4 Y R z l aj J a7 U D ap a8 ab X a0 v b7 u A ag b9 an s k m H ba ak bd al I t Z aa G:Value):
  I3 11 Try.prog (DM 17 (Try.f11.body.getD .skip)) Q {tmps:=#[u0,.pointer (some ⟨w.heap.size,0,none⟩),.pointer (some ⟨w.heap.size+1,0,none⟩),.pointer (some ⟨w.heap.size+2,0,none⟩),.pointer (some ⟨bl,0,none⟩),.pointer (some ⟨bc,0,none⟩),.pointer (some ⟨br,0,none⟩),.pointer (some ⟨bf,0,none⟩),u8,u9,cp,ca,dl,ej,dn,dm,c4,dg,ed,d4,cq,cc,e7,eq,e8,ev,cr,d3,c5,ek,e4,el,dv,cb,ec,bs,bt,cn,d2,em,c6,cd,bz,e9,cf,ch,bp,en,bq,dh,d8,cm,dp,cg,c8,ck,ea,dd,d0,cx,dx,di,ee,cu,e5,d9,co,d6,cz,db,c3,ct,ci,e6,de,ef,eg,et,dk,dq,d5,cj,dc,ei,cl,df,ce,eo,bw,c7,er,dt,eb,du,d1,dj,dy,c9,d7,bv,B,ad,a2,ax,be,W,av,ar,F,az,bi,p,j,a1,ah,bh,S,i,C,n,ay,b5,r,bk,bo,aq,bj,ae,b3,ai,O,ao,M,y,a6,T,bg,af,P,b4,Y,R,z,l,aj,J,a7,U,D,ap,a8,ab,X,a0,v,b7,u,A,ag,b9,an,s,k,m,H,ba,ak,bd,al,I,t,Z,aa,G],defers:=[Kw w.heap.size]} V:=by
 have da:Hid ((Try.prog.info? 35).map (·.size)=some cs.length):=ya (by rw[g.len];kernel_rfl)
 have bb:=ya g.range
 have cy:=ya g.at
 have HQ:=ya hQ;have HP:=ya g
 have bu:=ya h1;have cv:=ya h2;have au:=ya h3;have eu:=ya h4;have HF:=ya hf;have HW:=ya hw
 obtain ⟨row,b,hx⟩:=g.amid.x
 have HX:=ya hx;have ac:=ya b;have HZ:=ya g.size
 clear hQ g h1 h2 h3 h4 hf hw b hx
 unfold Kw
 refine Aq (Af ?_)
 go_upto_region 25 with fail
 refine xo ?_
 refine yf rfl 35 _ rfl w.heap.size 0 rfl cs _ bb.o qO rfl da.o ?_
 refine yF rfl fun K hK=>?_
 go_simp
 refine (R5 cy.o (fun _ h=>h) HP.o.slim).mono ?_
 rintro e w2 ⟨L2,a,rfl,aw,c,f,bm,b8,am⟩
 have ep:=ya ((f.block _ (by have:=HZ.o;omega)).trans HX.o)
 have d:=ya aw;have bn:=ya (yy c);have E:=ya f;have eh:=ya bm;have e3:=ya b8;have dw:=ya am
 clear aw c f bm b8 am
 refine hK _ _ ?_
 clear hK K
 refine z6 rfl 35 _ _ rfl (w.heap.size+1) a.toArray rfl rfl 35 row ep.o (by rw[yp,d.o];kernel_rfl) (by simp[d.o,ac.o]) bn.o ?_
 refine xQ ?_
 simp only[]
 refine Aq (Af ?_)
 go_wp2
 have HC:=VZ HP.o bu.o cv.o au.o eu.o HF.o HW.o d.o E.o eh.o e3.o dw.o
 have cw:(w2.setRow (w.heap.size+1) a.toArray).heap.size=w2.heap.size:=GO _ _ _
 have q:((w2.setRow (w.heap.size+1) a.toArray).alloc KT).heap.size=w2.heap.size+1:=by simp[cw]
 have ey:=E.o.size
 have ew:=au.o.lt
 rw[<-q] at HC
 exact We (V:=(w2.setRow (w.heap.size+1) a.toArray).alloc KT) (Bf:=w2.heap.size) HQ.o HC ⟨rfl,RJ.start _ _ _ _⟩ (by omega) (by omega) (by simp) _ _ _ _ _ _ _ _ _ _ _ _ _ _ _ _ _ _ _ _ _ _ _ _ _ _ _ _ _ _ _ _ _ _ _ _ _ _ _ _ _ _ _ _ _ _ _ _ _ _ _ _ _ _ _ _ _ _ _ _ _ _ _ _ _ _ _ _ _ _ _ _ _ _ _ _ _ _ _ _ _ _ _ _ _ _ _ _ _ _ _ _ _ _ _ _ _ _ _ _ _ _ _ _ _ _ _ _ _ _ _ _ _ _ _ _ _ _ _ _ _ _ _ _ _ _ _ _ _ _ _ _ _ _ _ _ _ _ _ _ _ _ _ _ _ _ _ _ _ _ _ _ _ _ _ _ _ _ _ _ _ _ _ _ _ _ _
end Go.Proofs.Ytghepahgkcigpaa
namespace Go.Proofs.Ytghepahgkcigpaa
open Go.RowKit
theorem BS.up{V W:World}{b:Nat}{a:LB}(h:BS V b a)(hb:Below V.heap.size V W):BS W b a:=
 h.same fun c _ hc _=>hb.block c (yd.1 hc).1
theorem WL{Q:QT}{w V:World}{x:AA}{L:BL}{cs:LV}{N:NP}{bl bc br bf:Nat}(hQ:M9 Q w x)(hP:Ik w x L cs N V)
 (h1:BS V bl (x.lets.map (·.name)))(h2:BS V bc (x.crops.map (·.name)))(h3:BS V br (x.reaches.map (·.name)))(h4:BS V bf (x.farms.map (·.name)))
 (hf:BX x=true)(hw:AK x=if (D0 x).Nodup∧(x.duties.map (·.name)).Nodup then (if DG (Tb.of x) x&&Dc (Tb.of x) x then 0 else 170) else 171)
 (u0 u8 u9 e8 dl f2 fu f4 f3 df ew fo ek e9 dn fg g0 fh g5 ea ej dg fv fc fw f9 dm fl d7 d8 e6 ei fx di dp dd fj dt dv d6 fz da ey eo e4 f5 du dj dy fk et eg ee fa ez fp ec fd ep e7 em ef eq de eb dw ff eu fq fs g3 f1 f6 el dx er ft e3 ev dq fy dc dh g2 f7 fm f8 eh f0 fb dk en db ay c4 bs cl cz bj cj ch b4 co bp am ai bq c8 d0 bg cx az al cn cr an d3 d5 cg d4 c5 cp c9 bb ce ba au bt bh d1 c6 bd cq bm be aw aj ca b9 bu bi b3 cf bv c3 bk bo ar ct aq ax c7 cv cd ao av ak b7 cu cb cy cc b8 ap bn bw b5:Value):
  I3 11 Try.prog (DM 12 (Try.f11.body.getD .skip)) Q {tmps:=#[u0,.pointer (some ⟨w.heap.size,0,none⟩),.pointer (some ⟨w.heap.size+1,0,none⟩),.pointer (some ⟨w.heap.size+2,0,none⟩),.pointer (some ⟨bl,0,none⟩),.pointer (some ⟨bc,0,none⟩),.pointer (some ⟨br,0,none⟩),.pointer (some ⟨bf,0,none⟩),u8,u9,e8,dl,f2,fu,f4,f3,df,ew,fo,ek,e9,dn,fg,g0,fh,g5,ea,ej,dg,fv,fc,fw,f9,dm,fl,d7,d8,e6,ei,fx,di,dp,dd,fj,dt,dv,d6,fz,da,ey,eo,e4,f5,du,dj,dy,fk,et,eg,ee,fa,ez,fp,ec,fd,ep,e7,em,ef,eq,de,eb,dw,ff,eu,fq,fs,g3,f1,f6,el,dx,er,ft,e3,ev,dq,fy,dc,dh,g2,f7,fm,f8,eh,f0,fb,dk,en,db,ay,c4,bs,cl,cz,bj,cj,ch,b4,co,bp,am,ai,bq,c8,d0,bg,cx,az,al,cn,cr,an,d3,d5,cg,d4,c5,cp,c9,bb,ce,ba,au,bt,bh,d1,c6,bd,cq,bm,be,aw,aj,ca,b9,bu,bi,b3,cf,bv,c3,bk,bo,ar,ct,aq,ax,c7,cv,cd,ao,av,ak,b7,cu,cb,cy,cc,b8,ap,bn,bw,b5],defers:=[Kw w.heap.size]} V:=by
 have a8:=ya (hP.at.Xs fun _ h=>h)
 have T:=ya hP.cells
 have HZ:Hid (w.heap.size < V.heap.size):=ya (by have:=hP.size;omega)
 have HQ:=ya hQ;have HP:=ya hP;have q:=ya hP.slim
 have d9:=ya h1;have ed:=ya h2;have fi:=ya h3;have g4:=ya h4;have HF:=ya hf;have HW:=ya hw
 have W:Hid (∀tm wr,MX w.heap.size tm->Below V.heap.size V wr->¬ ((D0 x).Nodup∧(x.duties.map (·.name)).Nodup)->Q (.panic (Fx 171)) {tmps:=tm,defers:=[Kw w.heap.size]} wr):=ya (fun tm wr hv hb hn=>by
  rw[yq hn] at hw
  have:=hQ.fail tm wr hv (hP.up (hb.mono hP.size)).amid (by rw[hw];decide)
  rw[hw] at this;exact this)
 have R:Hid (E5 V.heap.size V (.slice none 0 0) ([]++(x.rots.map (fun d:AS=>d.name)).take 0)):=ya (Kx _ _)
 have K:=ya (yc V.heap.size V)
 have hc:V.cell? (aV w.heap.size 23)=some (.slice L.rots.a L.rots.n L.rots.c):=hP.cells.rots
 have j:=a8.o.rots
 generalize L.rots=rr at hc j
 obtain ⟨ra,rn,rc⟩:=rr
 have g:=ya j.2.2
 have s:=ya j.1
 have g6:rn<=140737488355328:=by have:=j.1;have:=j.2.1;simp only at*;omega
 simp only at hc g s
 clear hQ hP h1 h2 h3 h4 hf hw j
 unfold Kw
 iterate 2
  refine Aq (Af ?_)
  go_wp2
 clear hc
 go_loopw [8,58] (fun v8 iv wr=>∃i:Nat,i<=rn∧iv=iV i∧Hid (E5 V.heap.size wr v8 ([]++(x.rots.map (fun d:AS=>d.name)).take i))∧Hid (Below V.heap.size V wr)) (fun _ iv _=>rn - (intOf iv).toNat)
 case atStart=>exact ⟨0,yv _,rfl,R,K⟩
 case round=>
  clear R K
  obtain ⟨i,hi,rfl,HO,C⟩:=hrel
  by_cases U:i < rn
  ·obtain ⟨b,o,f,ha,hb,t,P,u,D,G⟩:=g.o i (by rw[<-s.o];exact U)
   subst ha
   have HL:=ya t
   have ae:=ya (A1 P (C.o.block b hb))
   have a2:=ya (yy u)
   have S:Hid ((Try.prog.info? 64).map (·.size)=some f.length):=ya (by rw[t];kernel_rfl)
   have a1:Hid ((Try.prog.info? 64).map (·.size)=some f.toArray.size):=ya (by rw[yp];exact S.o)
   have E:i < (x.rots.map (fun d:AS=>d.name)).length:=by rw[<-s.o];exact U
   generalize Y:(x.rots.map (fun d:AS=>d.name))[i]=A at D G
   have e5:(wr.alloc (.cells f.toArray 64)).cell? (aV wr.heap.size 0)=some (.string A):=by
    have h:=World.alloc_heap_new wr (.cells f.toArray 64)
    simp only[World.cell?,h]
    simpa using D
   have F:Hid (Below wr.heap.size wr ((wr.alloc (.cells f.toArray 64)).alloc (.cells #[.string A] 9))):=ya (((yc _ _).alloc (ye _) _).alloc (by simp) _)
   have H:=ya (HO.o.up F.o)
   have aa:=ya (C.o.trans (F.o.mono C.o.size))
   have Z:Hid (((wr.alloc (.cells f.toArray 64)).alloc (.cells #[.string A] 9)).heap[wr.heap.size+1]?=some (.cells #[.string A] 9 (0,0))):=ya (by
    have h:=World.alloc_heap_new (wr.alloc (.cells f.toArray 64)) (.cells #[.string A] 9)
    simpa using h)
   have ag:=ya G
   have B:Hid (([]++(x.rots.map (fun d:AS=>d.name)).take i).length+1<=1000000):=ya (by
    have h1:=q.o.rots;have h2:=q.o.rights
    simp only[yi,yP,yI,yK] at E ⊢
    omega)
   have r:Hid (V.heap.size<=((wr.alloc (.cells f.toArray 64)).alloc (.cells #[.string A] 9)).heap.size):=ya (yo C.o.size F.o.size)
   have l:Hid (([]++(x.rots.map (fun d:AS=>d.name)).take i)++[A]=[]++(x.rots.map (fun d:AS=>d.name)).take (i+1)):=ya (by
    rw[yg,<-Y,Fp E])
   have M:(i:Int) < (rn:Int):=by omega
   generalize ah:[]++(x.rots.map (fun d:AS=>d.name)).take i=ls at HO H B l
   clear t P u D G E Y ah hb
   go_wp2_with (first|(refine yf rfl 64 _ rfl b (o+i*23) rfl f _ ae.o qX rfl S.o ?_)|(refine z6 rfl 64 _ _ rfl wr.heap.size f.toArray rfl rfl 64 _ (World.alloc_heap_new _ _) a1.o (by simp[HL.o]) a2.o ?_;rw[World.setRow_alloc_new])|(at_builtin;refine Dx V.heap.size rfl _ _ rfl u8 ls rfl H.o (wr.heap.size+1) 1 A rfl Z.o ag.o B.o r.o ?_;intro ad c w5 k a0;have af:=ya k;have ab:=ya (IS aa.o r.o H.o a0);clear k a0))
   exact ⟨⟨i+1,by omega,by push_cast;rfl,ya (by rw[<-l.o];exact af.o),ab⟩,by simp[intOf];omega⟩
  ·obtain rfl:i=rn:=by omega
   have M:decide ((i:Int) < (i:Int))=false:=by simp
   have J:Hid (E5 V.heap.size wr u8 (x.rots.map (fun d:AS=>d.name)++(x.rights.map (fun d:AJ=>d.name)).take 0)):=ya (by
    have h:=HO.o
    rw[s.o,yx] at h
    simpa using h)
   clear HO g s
   go_wp2
   have hc:wr.cell? (aV w.heap.size 24)=some (.slice L.rights.a L.rights.n L.rights.c):=(C.o.cell (p:=(aV w.heap.size 24)) HZ.o).trans T.o.rights
   have j:=a8.o.rights
   generalize L.rights=rr at hc j
   obtain ⟨ra,rn,rc⟩:=rr
   have g:=ya j.2.2
   have s:=ya j.1
   have fe:rn<=140737488355328:=by have:=j.1;have:=j.2.1;simp only at*;omega
   simp only at hc g s
   clear j M
   refine Aq (Af ?_)
   go_wp2
   clear hc
   obtain ⟨wo,rfl⟩:∃z:World,z=wr:=⟨_,rfl⟩
   obtain ⟨vo,rfl⟩:∃z:Value,z=u8:=⟨_,rfl⟩
   have R:=J
   have K:=C
   clear J C
   go_loopw [8,71] (fun v8 iv wr=>∃i:Nat,i<=rn∧iv=iV i∧Hid (E5 V.heap.size wr v8 ((x.rots.map (fun d:AS=>d.name))++(x.rights.map (fun d:AJ=>d.name)).take i))∧Hid (Below V.heap.size V wr)) (fun _ iv _=>rn - (intOf iv).toNat)
   case atStart=>exact ⟨0,yv _,rfl,R,K⟩
   case round=>
    clear R K
    obtain ⟨i,hi,rfl,HO,C⟩:=hrel
    by_cases U:i < rn
    ·obtain ⟨b,o,f,ha,hb,t,P,u,D,G⟩:=g.o i (by rw[<-s.o];exact U)
     subst ha
     have HL:=ya t
     have ae:=ya (A1 P (C.o.block b hb))
     have a2:=ya (yy u)
     have S:Hid ((Try.prog.info? 68).map (·.size)=some f.length):=ya (by rw[t];kernel_rfl)
     have a1:Hid ((Try.prog.info? 68).map (·.size)=some f.toArray.size):=ya (by rw[yp];exact S.o)
     have E:i < (x.rights.map (fun d:AJ=>d.name)).length:=by rw[<-s.o];exact U
     generalize Y:(x.rights.map (fun d:AJ=>d.name))[i]=A at D G
     have e5:(wr.alloc (.cells f.toArray 68)).cell? (aV wr.heap.size 1)=some (.string A):=by
      have h:=World.alloc_heap_new wr (.cells f.toArray 68)
      simp only[World.cell?,h]
      simpa using D
     have F:Hid (Below wr.heap.size wr ((wr.alloc (.cells f.toArray 68)).alloc (.cells #[.string A] 9))):=ya (((yc _ _).alloc (ye _) _).alloc (by simp) _)
     have H:=ya (HO.o.up F.o)
     have aa:=ya (C.o.trans (F.o.mono C.o.size))
     have Z:Hid (((wr.alloc (.cells f.toArray 68)).alloc (.cells #[.string A] 9)).heap[wr.heap.size+1]?=some (.cells #[.string A] 9 (0,0))):=ya (by
      have h:=World.alloc_heap_new (wr.alloc (.cells f.toArray 68)) (.cells #[.string A] 9)
      simpa using h)
     have ag:=ya G
     have B:Hid (((x.rots.map (fun d:AS=>d.name))++(x.rights.map (fun d:AJ=>d.name)).take i).length+1<=1000000):=ya (by
      have h1:=q.o.rots;have h2:=q.o.rights
      simp only[yi,yP,yI] at E ⊢
      omega)
     have r:Hid (V.heap.size<=((wr.alloc (.cells f.toArray 68)).alloc (.cells #[.string A] 9)).heap.size):=ya (yo C.o.size F.o.size)
     have l:Hid (((x.rots.map (fun d:AS=>d.name))++(x.rights.map (fun d:AJ=>d.name)).take i)++[A]=(x.rots.map (fun d:AS=>d.name))++(x.rights.map (fun d:AJ=>d.name)).take (i+1)):=ya (by
      rw[yg,<-Y,Fp E])
     have M:(i:Int) < (rn:Int):=by omega
     generalize ah:(x.rots.map (fun d:AS=>d.name))++(x.rights.map (fun d:AJ=>d.name)).take i=ls at HO H B l
     clear t P u D G E Y ah hb
     go_wp2_with (first|(refine yf rfl 68 _ rfl b (o+i*37) rfl f _ ae.o qZ rfl S.o ?_)|(refine z6 rfl 68 _ _ rfl wr.heap.size f.toArray rfl rfl 68 _ (World.alloc_heap_new _ _) a1.o (by simp[HL.o]) a2.o ?_;rw[World.setRow_alloc_new])|(at_builtin;refine Dx V.heap.size rfl _ _ rfl u8 ls rfl H.o (wr.heap.size+1) 1 A rfl Z.o ag.o B.o r.o ?_;intro ad c w5 k a0;have af:=ya k;have ab:=ya (IS aa.o r.o H.o a0);clear k a0))
     exact ⟨⟨i+1,by omega,by push_cast;rfl,ya (by rw[<-l.o];exact af.o),ab⟩,by simp[intOf];omega⟩
    ·obtain rfl:i=rn:=by omega
     have M:decide ((i:Int) < (i:Int))=false:=by simp
     have J:Hid (E5 V.heap.size wr u8 (D0 x)):=ya (by
      have h:=HO.o
      rw[s.o,yx] at h
      exact h)
     clear HO g s
     go_wp2
     have cw:(D0 x).length<=100000:=by
      obtain ⟨_,_,_,_,h1,h2,_⟩:=FE HF.o
      unfold D0
      simp only[yi,yI]
      omega
     obtain ⟨⟨sa,sn,sc⟩,ac,cm⟩:=J.o.nm (by omega)
     unfold AF.v at ac
     simp only at ac
     subst ac
     have d2:=ya cm
     have ck:=ya cw
     have ci:Hid ((x.duties.map (·.name)).length<=100000):=ya (by rw[yI];exact q.o.duties)
     clear J cm cw M
     by_cases a6:(D0 x).Nodup
     ·have HR:=ya a6
      clear a6
      refine Aq (Af ?_)
      go_wp2_with (first|(go_at_call 46;refine (Ud (Nt (h:=⟨sa,sn,sc⟩) d2.o ck.o) HR.o).mono ?_;rintro e w2 ⟨⟨m,rfl⟩,O⟩;have y:=ya (C.o.trans (O.mono C.o.size));clear O))
      have hc:w2.cell? (aV w.heap.size 25)=some (.slice L.duties.a L.duties.n L.duties.c):=(y.o.cell (p:=(aV w.heap.size 25)) HZ.o).trans T.o.duties
      have bz:=ya (a8.o.duties.up y.o)
      by_cases a7:(x.duties.map (·.name)).Nodup
      ·have HD:=ya a7
       clear a7
       refine Aq (Af ?_)
       go_wp2_with (first|(go_at_call 47;refine (Ud (M1 bz.o ci.o) HD.o).mono ?_;rintro e w3 ⟨⟨m3,rfl⟩,X⟩;have I:=ya (y.o.trans (X.mono y.o.size));clear X))
       exact Wf HQ.o (HP.o.up (I.o.mono HP.o.size)) (d9.o.up I.o) (ed.o.up I.o) (fi.o.up I.o) (g4.o.up I.o) HF.o (by rw[HW.o,yu ⟨HR.o,HD.o⟩]) _ _ _ _ _ _ _ _ _ _ _ _ _ _ _ _ _ _ _ _ _ _ _ _ _ _ _ _ _ _ _ _ _ _ _ _ _ _ _ _ _ _ _ _ _ _ _ _ _ _ _ _ _ _ _ _ _ _ _ _ _ _ _ _ _ _ _ _ _ _ _ _ _ _ _ _ _ _ _ _ _ _ _ _ _ _ _ _ _ _ _ _ _ _ _ _ _ _ _ _ _ _ _ _ _ _ _ _ _ _ _ _ _ _ _ _ _ _ _ _ _ _ _ _ _ _ _ _ _ _ _ _ _ _ _ _ _ _ _ _ _ _ _ _ _ _ _ _ _ _ _ _ _ _ _ _ _ _ _ _ _ _ _ _ _ _ _
      ·have HD:=ya a7
       clear a7
       refine Aq (Af ?_)
       go_wp2_with (first|(go_at_call 47;refine (VM (M1 bz.o ci.o) HD.o).mono ?_;rintro e w3 ⟨rfl,X⟩;have I:=ya (y.o.trans (X.mono y.o.size));clear X))
       exact W.o _ _ ⟨rfl,rfl⟩ I.o (fun h=>HD.o h.2)
     ·have HR:=ya a6
      clear a6
      refine Aq (Af ?_)
      go_wp2_with (first|(go_at_call 46;refine (VM (Nt (h:=⟨sa,sn,sc⟩) d2.o ck.o) HR.o).mono ?_;rintro e w2 ⟨rfl,O⟩;have y:=ya (C.o.trans (O.mono C.o.size));clear O))
      exact W.o _ _ ⟨rfl,rfl⟩ y.o (fun h=>HR.o h.1)
 end Go.Proofs.Ytghepahgkcigpaa
namespace Go.Proofs.Ytghepahgkcigpaa
open Go.RowKit
theorem WM{Q:QT}{w V:World}{x:AA}{L:BL}{cs:LV}{N:NP}(hQ:M9 Q w x)(hP:Ik w x L cs N V)
 (hf:BX x=true)(hw:AK x=if Gi x then (if DG (Tb.of x) x&&Dc (Tb.of x) x then 0 else 170) else 171)
 (u0 u4 u5 u6 u7 u8 u9 cd bz d3 dv d5 d4 bs cz dn co ce c4 di e4 dj e7 cf cn bt dw dd dx da c3 dm bk bm cb cm dy bv c5 bp eu el en ei ew ej eq ep eo et em ek c9 dl cw ck ci db d0 dp ch de ct cc cq cj cu bq cg c7 dg cx dq dt e6 d2 d7 cp c8 cv du ca cy c6 e3 bo bu e5 d8 dk d9 cl d1 dc bw cr bn A ab a1 aq b9 T ap ao E au bd m d a0 af bb P f C l ar ax q bg bh an be ac av ag K al J v a2 R ba ad M aw X O y i ah I a6 S D am a7 a8 U Z u ay s z ae b3 ak r g j G az ai b8 aj H n Y aa F:Value):
  I3 11 Try.prog (DM 11 (Try.f11.body.getD .skip)) Q {tmps:=#[u0,.pointer (some ⟨w.heap.size,0,none⟩),.pointer (some ⟨w.heap.size+1,0,none⟩),.pointer (some ⟨w.heap.size+2,0,none⟩),u4,u5,u6,u7,u8,u9,cd,bz,d3,dv,d5,d4,bs,cz,dn,co,ce,c4,di,e4,dj,e7,cf,cn,bt,dw,dd,dx,da,c3,dm,bk,bm,cb,cm,dy,bv,c5,bp,eu,el,en,ei,ew,ej,eq,ep,eo,et,em,ek,c9,dl,cw,ck,ci,db,d0,dp,ch,de,ct,cc,cq,cj,cu,bq,cg,c7,dg,cx,dq,dt,e6,d2,d7,cp,c8,cv,du,ca,cy,c6,e3,bo,bu,e5,d8,dk,d9,cl,d1,dc,bw,cr,bn,A,ab,a1,aq,b9,T,ap,ao,E,au,bd,m,d,a0,af,bb,P,f,C,l,ar,ax,q,bg,bh,an,be,ac,av,ag,K,al,J,v,a2,R,ba,ad,M,aw,X,O,y,i,ah,I,a6,S,D,am,a7,a8,U,Z,u,ay,s,z,ae,b3,ak,r,g,j,G,az,ai,b8,aj,H,n,Y,aa,F],defers:=[Kw w.heap.size]} V:=by
 have bi:=ya (hP.at.Xs fun _ h=>h)
 have c:=ya hP.cells
 have HZ:Hid (w.heap.size < V.heap.size):=ya (by have:=hP.size;omega)
 have HQ:=ya hQ;have HP:=ya hP;have b:=ya hP.slim
 have HF:=ya hf;have HW:=ya hw
 have d6:Hid (∀tm wr,MX w.heap.size tm->Below V.heap.size V wr->¬ Gi x->Q (.panic (Fx 171)) {tmps:=tm,defers:=[Kw w.heap.size]} wr):=ya (fun tm wr hv hb hn=>by
  rw[yq hn] at hw
  have:=hQ.fail tm wr hv (hP.up (hb.mono hP.size)).amid (by rw[hw];decide)
  rw[hw] at this;exact this)
 clear hQ hP hf hw
 unfold Kw
 refine Aq (Af ?_)
 go_wp2_with fail
 refine WK (B:=w.heap.size) (h0:=L.lets) (h1:=L.crops) (h2:=L.reaches) (h3:=L.farms) (n0s:=x.lets.map (·.name)) (n1s:=x.crops.map (·.name)) (n2s:=x.reaches.map (·.name)) (n3s:=x.farms.map (·.name)) _ ?_ ?_ ?_ ?_ ?_ ?_ ?_ ?_ ?_ ?_ ?_ ?_ ?_ ?_
 ·rfl
 ·rfl
 ·rfl
 ·exact fun W hb=>⟨(hb.cell (p:=(aV w.heap.size 19)) HZ.o).trans c.o.lets,(hb.cell (p:=(aV w.heap.size 20)) HZ.o).trans c.o.crops,(hb.cell (p:=(aV w.heap.size 21)) HZ.o).trans c.o.reaches,(hb.cell (p:=(aV w.heap.size 22)) HZ.o).trans c.o.farms⟩
 ·exact fun W hb=>bi.o.lets.up hb
 ·exact fun W hb=>bi.o.crops.up hb
 ·exact fun W hb=>bi.o.reaches.up hb
 ·exact fun W hb=>bi.o.farms.up hb
 ·rw[yI];exact b.o.lets
 ·rw[yI];exact b.o.crops
 ·rw[yI];exact b.o.reaches
 ·rw[yI];exact b.o.farms
 ·intro a W dh bj hb hn
  obtain ⟨tm,df⟩:=a
  obtain rfl:df=[Kw w.heap.size]:=dh
  exact d6.o tm W ⟨(bj 2 (by omega)).trans rfl,(bj 3 (by omega)).trans rfl⟩ hb (fun h=>hn ⟨h.1,h.2.1,h.2.2.1,h.2.2.2.1⟩)
 ·intro a W bl bc br bf ev dh bj g4 g5 g6 g7 m4 m5 m6 m7 b4 b5 b6 b7 hb hn
  have e:a={tmps:=#[u0,pV w.heap.size 0,pV (w.heap.size+1) 0,pV (w.heap.size+2) 0,(a.tmps.getD 4 undef),(a.tmps.getD 5 undef),(a.tmps.getD 6 undef),(a.tmps.getD 7 undef),u8,u9,cd,bz,d3,dv,d5,d4,bs,cz,dn,co,ce,c4,di,e4,dj,e7,cf,cn,bt,dw,dd,dx,da,c3,dm,bk,bm,cb,cm,dy,bv,c5,bp,(a.tmps.getD 43 undef),(a.tmps.getD 44 undef),(a.tmps.getD 45 undef),(a.tmps.getD 46 undef),(a.tmps.getD 47 undef),(a.tmps.getD 48 undef),(a.tmps.getD 49 undef),(a.tmps.getD 50 undef),(a.tmps.getD 51 undef),(a.tmps.getD 52 undef),(a.tmps.getD 53 undef),(a.tmps.getD 54 undef),c9,dl,cw,ck,ci,db,d0,dp,ch,de,ct,cc,cq,cj,cu,bq,cg,c7,dg,cx,dq,dt,e6,d2,d7,cp,c8,cv,du,ca,cy,c6,e3,bo,bu,e5,d8,dk,d9,cl,d1,dc,bw,cr,bn,A,ab,a1,aq,b9,T,ap,ao,E,au,bd,m,d,a0,af,bb,P,f,C,l,ar,ax,q,bg,bh,an,be,ac,av,ag,K,al,J,v,a2,R,ba,ad,M,aw,X,O,y,i,ah,I,a6,S,D,am,a7,a8,U,Z,u,ay,s,z,ae,b3,ak,r,g,j,G,az,ai,b8,aj,H,n,Y,aa,F],defers:=[Kw w.heap.size]}:=(Lu [4,5,6,7,43,44,45,46,47,48,49,50,51,52,53,54] (ev.trans rfl) dh (fun t ht=>bj t ht)).trans (by kernel_rfl)
  rw[g4,g5,g6,g7] at e
  obtain ⟨ef,eh,ee,v46,ec,ea,e8,eg,v51,ed,eb,e9,rfl⟩:∃ef eh ee v46 ec ea e8 eg v51 ed eb e9:Value,a={tmps:=#[u0,pV w.heap.size 0,pV (w.heap.size+1) 0,pV (w.heap.size+2) 0,pV bl 0,pV bc 0,pV br 0,pV bf 0,u8,u9,cd,bz,d3,dv,d5,d4,bs,cz,dn,co,ce,c4,di,e4,dj,e7,cf,cn,bt,dw,dd,dx,da,c3,dm,bk,bm,cb,cm,dy,bv,c5,bp,ef,eh,ee,v46,ec,ea,e8,eg,v51,ed,eb,e9,c9,dl,cw,ck,ci,db,d0,dp,ch,de,ct,cc,cq,cj,cu,bq,cg,c7,dg,cx,dq,dt,e6,d2,d7,cp,c8,cv,du,ca,cy,c6,e3,bo,bu,e5,d8,dk,d9,cl,d1,dc,bw,cr,bn,A,ab,a1,aq,b9,T,ap,ao,E,au,bd,m,d,a0,af,bb,P,f,C,l,ar,ax,q,bg,bh,an,be,ac,av,ag,K,al,J,v,a2,R,ba,ad,M,aw,X,O,y,i,ah,I,a6,S,D,am,a7,a8,U,Z,u,ay,s,z,ae,b3,ak,r,g,j,G,az,ai,b8,aj,H,n,Y,aa,F],defers:=[Kw w.heap.size]}:=⟨_,_,_,_,_,_,_,_,_,_,_,_,e⟩
  have er:AK x=if (D0 x).Nodup∧(x.duties.map (·.name)).Nodup then (if DG (Tb.of x) x&&Dc (Tb.of x) x then 0 else 170) else 171:=by
   rw[HW.o]
   by_cases h:Gi x
   ·rw[yu h];exact (yu ⟨h.2.2.2.2.1,h.2.2.2.2.2⟩).symm
   ·rw[yq h];exact (yq (fun k=>h ⟨hn.1,hn.2.1,hn.2.2.1,hn.2.2.2,k.1,k.2⟩)).symm
  exact WL HQ.o (HP.o.up (hb.mono HP.o.size)) m4 m5 m6 m7 HF.o er _ _ _ _ _ _ _ _ _ _ _ _ _ _ _ _ _ _ _ _ _ _ _ _ _ _ _ _ _ _ _ _ _ _ _ _ _ _ _ _ _ _ _ _ _ _ _ _ _ _ _ _ _ _ _ _ _ _ _ _ _ _ _ _ _ _ _ _ _ _ _ _ _ _ _ _ _ _ _ _ _ _ _ _ _ _ _ _ _ _ _ _ _ _ _ _ _ _ _ _ _ _ _ _ _ _ _ _ _ _ _ _ _ _ _ _ _ _ _ _ _ _ _ _ _ _ _ _ _ _ _ _ _ _ _ _ _ _ _ _ _ _ _ _ _ _ _ _ _ _ _ _ _ _ _ _ _ _ _ _ _ _ _ _ _ _ _
theorem Wg{w:World}{a:ByteArray}(b:a.size<=maxLen):AZ (w.alloc (.cells #[.string a] 9)) ⟨some ⟨w.heap.size,0,none⟩,1,1⟩ 1 0 [a]:=by
 refine ⟨rfl,by simp,fun i hi=>?_⟩
 obtain rfl:i=0:=by simpa using hi
 have h:=World.alloc_heap_new w (.cells #[.string a] 9)
 refine ⟨w.heap.size,0,[.string a],rfl,by simp,rfl,CE ?_,by simp[Value.oneCell'],rfl,b⟩
 simp only[World.cell?,h]
 rfl
theorem IV{f:FuncId}{args:Array Value}{w:World}{b:Bool}(h:Calls Try.prog f args w (Ea w b))(hb:b=true):Calls Try.prog f args w fun e w'=>e=.returned (.tuple #[])∧Below w.heap.size w w':=
 h.mono fun e w' a=>by rw[hb] at a;exact ⟨a.2,a.1⟩
theorem KY{f:FuncId}{args:Array Value}{w:World}{b:Bool}(h:Calls Try.prog f args w (Ea w b))(hb:b=false):Calls Try.prog f args w fun e w'=>e=.panicked (Fx 170)∧Below w.heap.size w w':=
 h.mono fun e w' a=>by rw[hb] at a;exact ⟨a.2,a.1⟩
theorem Ur{f:FuncId}{args:Array Value}{w:World}{b c:Bool}(h:Calls Try.prog f args w (Oi w b))(hb:b=c):Calls Try.prog f args w (Oi w c):=hb▸h
theorem WN{Q:QT}{w V:World}{x:AA}{L:BL}{cs:LV}{N:NP}(hQ:M9 Q w x)(X:Ik w x L cs N V)(hg:GV V)(hd:∀e∈Bb x,AV e.1<=1000000)
 (u0 u4 u5 u6 u7 u8 u9 dx dh eu fl ey ev db ep fg ee dy dj f9 ft fa fw e5 ed dc fm f6 fo f3 di ff d5 d6 e3 ec fp de dk d9 fb dm dp d3 fq d4 eq ei dw ez dn df du fd em ea e8 f4 er fh e7 f7 ej e4 eg e9 ek da e6 dq f8 en fi fj fv ew f0 ef dt el fk dv eo dl fs d8 dd fu f1 fe f2 eb et f5 dg eh d7 aw bz bp cj cv bi ci cg az cl cy ak ad bo c7 cx be ac ax aj ck co am cz d2 cf d0 c3 cm c8 ba cd b9 aq bq bg cw c4 bb cn bk bd au ag c9 b8 bs bh ay ce bu bw bj bn ap cq ao av c6 cr cc an af ah b4 ct ca cu cb b7 al bm bv b3:Value):
  I3 11 Try.prog (DM 2 (Try.f11.body.getD .skip)) Q {tmps:=#[u0,.pointer (some ⟨w.heap.size,0,none⟩),.pointer (some ⟨w.heap.size+1,0,none⟩),.pointer (some ⟨w.heap.size+2,0,none⟩),u4,u5,u6,u7,u8,u9,dx,dh,eu,fl,ey,ev,db,ep,fg,ee,dy,dj,f9,ft,fa,fw,e5,ed,dc,fm,f6,fo,f3,di,ff,d5,d6,e3,ec,fp,de,dk,d9,fb,dm,dp,d3,fq,d4,eq,ei,dw,ez,dn,df,du,fd,em,ea,e8,f4,er,fh,e7,f7,ej,e4,eg,e9,ek,da,e6,dq,f8,en,fi,fj,fv,ew,f0,ef,dt,el,fk,dv,eo,dl,fs,d8,dd,fu,f1,fe,f2,eb,et,f5,dg,eh,d7,aw,bz,bp,cj,cv,bi,ci,cg,az,cl,cy,ak,ad,bo,c7,cx,be,ac,ax,aj,ck,co,am,cz,d2,cf,d0,c3,cm,c8,ba,cd,b9,aq,bq,bg,cw,c4,bb,cn,bk,bd,au,ag,c9,b8,bs,bh,ay,ce,bu,bw,bj,bn,ap,cq,ao,av,c6,cr,cc,an,af,ah,b4,ct,ca,cu,cb,b7,al,bm,bv,b3],defers:=[Kw w.heap.size]} V:=by
 have F:=ya (X.at.Xs fun _ h=>h)
 have f:=ya X.cells
 have W:Hid (w.heap.size < V.heap.size):=ya (by have:=X.size;omega)
 have HQ:=ya hQ;have HP:=ya X;have E:=ya hg
 have HS:Hid (Ba (fun b=>b < V.heap.size) V {L with s:=w.heap.size} cs x):=ya (by have h:=X.at;exact ⟨h.name,h.cells,h.lets,h.crops,h.reaches,h.farms,h.rots,h.rights,h.duties⟩)
 have aa:=ya X.range
 have HD:=ya hd
 have ab:Hid (x.name.size<=maxLen):=ya X.src.name
 have M:Hid (∀(c:Int) tm wr,MX w.heap.size tm->Below V.heap.size V wr->AK x=c->c≠0->Q (.panic (Fx c)) {tmps:=tm,defers:=[Kw w.heap.size]} wr):=ya (fun c tm wr hv hb hc hn=>by
  subst hc
  exact hQ.fail tm wr hv (X.up (hb.mono X.size)).amid hn)
 clear hQ X hg hd
 unfold Kw
 cases hf:BX x with
 |false=>
  have HF:=ya hf
  clear hf
  refine Aq (Af ?_)
  go_wp2_with (first|(go_at_call 25;refine (Ur (KR HS.o aa.o (fun _ h=>h) W.o HD.o) HF.o).mono ?_;rintro e w2 ⟨G,rfl⟩;have I:=ya G;clear G))
  exact M.o 2 _ _ ⟨rfl,rfl⟩ I.o (by unfold AK;rw[HF.o];rfl) (by decide)
 |true=>
  have HF:=ya hf
  clear hf
  have d:Hid (∀tm wr,MX w.heap.size tm->Below V.heap.size V wr->Dv x=false->Q (.panic (Fx 170)) {tmps:=tm,defers:=[Kw w.heap.size]} wr):=ya (fun tm wr hv hb hn=>M.o 170 tm wr hv hb (by unfold AK;rw[HF.o,hn];rfl) (by decide))
  refine Aq (Af ?_)
  go_wp2_with (first|(go_at_call 25;refine (Ur (KR HS.o aa.o (fun _ h=>h) W.o HD.o) HF.o).mono ?_;rintro e w2 ⟨G,rfl⟩;have I:=ya G;clear G))
  have hc:w2.cell? (aV w.heap.size 0)=some (.string x.name):=(I.o.cell (p:=(aV w.heap.size 0)) W.o).trans f.o.name
  have ch:Hid (AZ (w2.alloc (.cells #[.string x.name] 9)) ⟨some (aV w2.heap.size 0),1,1⟩ 1 0 [x.name]):=ya (Wg ab.o)
  have T:Hid (Below V.heap.size V (w2.alloc (.cells #[.string x.name] 9))):=ya (I.o.alloc I.o.size _)
  have ar:Hid (GV (w2.alloc (.cells #[.string x.name] 9))):=ya (E.o.below T.o E.o.1)
  cases Y:AU x.name with
  |false=>
   have t:=ya Y
   clear Y
   refine Aq (Af ?_)
   go_wp2_with (first|(go_at_call 26;refine (KY (Ng (h:=⟨some (aV w2.heap.size 0),1,1⟩) ch.o ar.o) (by simp[t.o])).mono ?_;rintro e w3 ⟨rfl,O⟩;have m:=ya (T.o.trans (O.mono T.o.size));clear O))
   exact d.o _ _ ⟨rfl,rfl⟩ m.o (by unfold Dv;rw[t.o];simp)
  |true=>
   have t:=ya Y
   clear Y
   refine Aq (Af ?_)
   go_wp2_with (first|(go_at_call 26;refine (IV (Ng (h:=⟨some (aV w2.heap.size 0),1,1⟩) ch.o ar.o) (by simp[t.o])).mono ?_;rintro e w3 ⟨rfl,O⟩;have m:=ya (T.o.trans (O.mono T.o.size));clear O))
   clear hc
   have hc:w3.cell? (aV w.heap.size 19)=some (.slice L.lets.a L.lets.n L.lets.c):=(m.o.cell (p:=(aV w.heap.size 19)) W.o).trans f.o.lets
   have a7:=ya (F.o.lets.up m.o)
   have cp:Hid (GV w3):=ya (E.o.below m.o E.o.1)
   cases g:(x.lets.map (·.name)).all AU with
   |false=>
    have D:=ya g
    clear g
    refine Aq (Af ?_)
    go_wp2_with (first|(go_at_call 28;refine (KY (Nd a7.o cp.o) D.o).mono ?_;rintro e w4 ⟨rfl,H⟩;have l:=ya (m.o.trans (H.mono m.o.size));clear H))
    exact d.o _ _ ⟨rfl,rfl⟩ l.o (by unfold Dv;rw[D.o];simp)
   |true=>
    have D:=ya g
    clear g
    refine Aq (Af ?_)
    go_wp2_with (first|(go_at_call 28;refine (IV (Nd a7.o cp.o) D.o).mono ?_;rintro e w4 ⟨rfl,H⟩;have l:=ya (m.o.trans (H.mono m.o.size));clear H))
    clear hc
    have hc:w4.cell? (aV w.heap.size 20)=some (.slice L.crops.a L.crops.n L.crops.c):=(l.o.cell (p:=(aV w.heap.size 20)) W.o).trans f.o.crops
    have a8:=ya (F.o.crops.up l.o)
    have d1:Hid (GV w4):=ya (E.o.below l.o E.o.1)
    cases g:(x.crops.map (·.name)).all AU with
    |false=>
     have A:=ya g
     clear g
     refine Aq (Af ?_)
     go_wp2_with (first|(go_at_call 30;refine (KY (LI a8.o d1.o) A.o).mono ?_;rintro e w5 ⟨rfl,P⟩;have k:=ya (l.o.trans (P.mono l.o.size));clear P))
     exact d.o _ _ ⟨rfl,rfl⟩ k.o (by unfold Dv;rw[A.o];simp)
    |true=>
     have A:=ya g
     clear g
     refine Aq (Af ?_)
     go_wp2_with (first|(go_at_call 30;refine (IV (LI a8.o d1.o) A.o).mono ?_;rintro e w5 ⟨rfl,P⟩;have k:=ya (l.o.trans (P.mono l.o.size));clear P))
     clear hc
     have hc:w5.cell? (aV w.heap.size 21)=some (.slice L.reaches.a L.reaches.n L.reaches.c):=(k.o.cell (p:=(aV w.heap.size 21)) W.o).trans f.o.reaches
     have Z:=ya (F.o.reaches.up k.o)
     have c5:Hid (GV w5):=ya (E.o.below k.o E.o.1)
     cases g:(x.reaches.map (·.name)).all AU with
     |false=>
      have u:=ya g
      clear g
      refine Aq (Af ?_)
      go_wp2_with (first|(go_at_call 32;refine (KY (KN Z.o c5.o) u.o).mono ?_;rintro e w6 ⟨rfl,K⟩;have q:=ya (k.o.trans (K.mono k.o.size));clear K))
      exact d.o _ _ ⟨rfl,rfl⟩ q.o (by unfold Dv;rw[u.o];simp)
     |true=>
      have u:=ya g
      clear g
      refine Aq (Af ?_)
      go_wp2_with (first|(go_at_call 32;refine (IV (KN Z.o c5.o) u.o).mono ?_;rintro e w6 ⟨rfl,K⟩;have q:=ya (k.o.trans (K.mono k.o.size));clear K))
      clear hc
      have hc:w6.cell? (aV w.heap.size 22)=some (.slice L.farms.a L.farms.n L.farms.c):=(q.o.cell (p:=(aV w.heap.size 22)) W.o).trans f.o.farms
      have a2:=ya (F.o.farms.up q.o)
      have bt:Hid (GV w6):=ya (E.o.below q.o E.o.1)
      cases g:(x.farms.map (·.name)).all AU with
      |false=>
       have B:=ya g
       clear g
       refine Aq (Af ?_)
       go_wp2_with (first|(go_at_call 34;refine (KY (LK a2.o bt.o) B.o).mono ?_;rintro e w7 ⟨rfl,U⟩;have r:=ya (q.o.trans (U.mono q.o.size));clear U))
       exact d.o _ _ ⟨rfl,rfl⟩ r.o (by unfold Dv;rw[B.o];simp)
      |true=>
       have B:=ya g
       clear g
       refine Aq (Af ?_)
       go_wp2_with (first|(go_at_call 34;refine (IV (LK a2.o bt.o) B.o).mono ?_;rintro e w7 ⟨rfl,U⟩;have r:=ya (q.o.trans (U.mono q.o.size));clear U))
       clear hc
       have hc:w7.cell? (aV w.heap.size 23)=some (.slice L.rots.a L.rots.n L.rots.c):=(r.o.cell (p:=(aV w.heap.size 23)) W.o).trans f.o.rots
       have a0:=ya (F.o.rots.up r.o)
       have ai:Hid (GV w7):=ya (E.o.below r.o E.o.1)
       cases g:(x.rots.map (·.name)).all AU with
       |false=>
        have z:=ya g
        clear g
        refine Aq (Af ?_)
        go_wp2_with (first|(go_at_call 36;refine (KY (Nf a0.o ai.o) z.o).mono ?_;rintro e w8 ⟨rfl,S⟩;have j:=ya (r.o.trans (S.mono r.o.size));clear S))
        exact d.o _ _ ⟨rfl,rfl⟩ j.o (by unfold Dv;rw[z.o];simp)
       |true=>
        have z:=ya g
        clear g
        refine Aq (Af ?_)
        go_wp2_with (first|(go_at_call 36;refine (IV (Nf a0.o ai.o) z.o).mono ?_;rintro e w8 ⟨rfl,S⟩;have j:=ya (r.o.trans (S.mono r.o.size));clear S))
        clear hc
        have hc:w8.cell? (aV w.heap.size 24)=some (.slice L.rights.a L.rights.n L.rights.c):=(j.o.cell (p:=(aV w.heap.size 24)) W.o).trans f.o.rights
        have a6:=ya (F.o.rights.up j.o)
        have ae:Hid (GV w8):=ya (E.o.below j.o E.o.1)
        cases g:(x.rights.map (·.name)).all AU with
        |false=>
         have C:=ya g
         clear g
         refine Aq (Af ?_)
         go_wp2_with (first|(go_at_call 38;refine (KY (KO a6.o ae.o) C.o).mono ?_;rintro e w9 ⟨rfl,R⟩;have i:=ya (j.o.trans (R.mono j.o.size));clear R))
         exact d.o _ _ ⟨rfl,rfl⟩ i.o (by unfold Dv;rw[C.o];simp)
        |true=>
         have C:=ya g
         clear g
         refine Aq (Af ?_)
         go_wp2_with (first|(go_at_call 38;refine (IV (KO a6.o ae.o) C.o).mono ?_;rintro e w9 ⟨rfl,R⟩;have i:=ya (j.o.trans (R.mono j.o.size));clear R))
         clear hc
         have hc:w9.cell? (aV w.heap.size 25)=some (.slice L.duties.a L.duties.n L.duties.c):=(i.o.cell (p:=(aV w.heap.size 25)) W.o).trans f.o.duties
         have a1:=ya (F.o.duties.up i.o)
         have b5:Hid (GV w9):=ya (E.o.below i.o E.o.1)
         cases g:(x.duties.map (·.name)).all AU with
         |false=>
          have v:=ya g
          clear g
          refine Aq (Af ?_)
          go_wp2_with (first|(go_at_call 40;refine (KY (LL a1.o b5.o) v.o).mono ?_;rintro e fc ⟨rfl,y⟩;have J:=ya (i.o.trans (y.mono i.o.size));clear y))
          exact d.o _ _ ⟨rfl,rfl⟩ J.o (by unfold Dv;rw[v.o];simp)
         |true=>
          have v:=ya g
          clear g
          refine Aq (Af ?_)
          go_wp2_with (first|(go_at_call 40;refine (IV (LL a1.o b5.o) v.o).mono ?_;rintro e fc ⟨rfl,y⟩;have J:=ya (i.o.trans (y.mono i.o.size));clear y))
          clear hc
          have hn:Dv x=true:=by
           unfold Dv
           rw[t.o,D.o,A.o,u.o,B.o,z.o,C.o,v.o]
           rfl
          exact WM HQ.o (HP.o.up (J.o.mono HP.o.size)) HF.o (by unfold AK;rw[HF.o,hn];rfl) _ _ _ _ _ _ _ _ _ _ _ _ _ _ _ _ _ _ _ _ _ _ _ _ _ _ _ _ _ _ _ _ _ _ _ _ _ _ _ _ _ _ _ _ _ _ _ _ _ _ _ _ _ _ _ _ _ _ _ _ _ _ _ _ _ _ _ _ _ _ _ _ _ _ _ _ _ _ _ _ _ _ _ _ _ _ _ _ _ _ _ _ _ _ _ _ _ _ _ _ _ _ _ _ _ _ _ _ _ _ _ _ _ _ _ _ _ _ _ _ _ _ _ _ _ _ _ _ _ _ _ _ _ _ _ _ _ _ _ _ _ _ _ _ _ _ _ _ _ _ _ _ _ _ _ _ _ _ _ _ _ _ _ _ _ _ _ _ _ _ _
def Xd(w:World)(cs:LV):World:=((w.alloc (.cells cs.toArray 35)).alloc (.cells Bp.toArray 35)).alloc (.cells #[.int .i64 0] 38)
theorem Vr{w:World}{x:AA}{L:BL}{cs:LV}{N:NP}(h:Ba N w L cs x)(hN:∀b,N b->b < w.heap.size)(a:MU x):Ik w x L cs N (Xd w cs):=by
 unfold Xd
 refine ⟨⟨(((yc _ _).alloc (ye _) _).alloc (by simp) _).alloc (by simp;omega) _,⟨Bp.toArray,rfl,?_⟩,⟨iV 0,?_⟩⟩,?_,h,hN,a⟩
 ·rw[yT _ _ _ (by simp)]
  have:=World.alloc_heap_new (w.alloc (.cells cs.toArray 35)) (.cells Bp.toArray 35)
  rwa [zv] at this
 ·have:=World.alloc_heap_new ((w.alloc (.cells cs.toArray 35)).alloc (.cells Bp.toArray 35)) (.cells #[iV 0] 38)
  rwa [zv,zv] at this
 ·rw[yT _ _ _ (by simp;omega),yT _ _ _ (by simp)]
  exact World.alloc_heap_new _ _
theorem FO{w:World}{x:AA}{L:BL}{cs:LV}{N:NP}(h:Ba N w L cs x)(hN:∀b,N b->b < w.heap.size)(a:MU x)(d:GV w)(hd:∀e∈Bb x,AV e.1<=1000000):
  Calls Try.prog 11 #[.agg cs.toArray] w (GN w x):=by
 have l:∀(fn:Fn) (first cap:Array Value) (w:World),(Instr.makeFunc fn first cap).run Try.prog w=.ok (.func fn first cap) w:=fun _ _ _ _=>rfl
 have f:=ya (Vr h hN a)
 have i:Hid (GV (Xd w cs)):=ya (d.below f.o.amid.below d.1)
 have m:=ya hd
 obtain ⟨c0,c1,c2,rfl,j,g1,g⟩:=h.cells
 obtain ⟨s,q,rfl,e0⟩:=j.cells
 obtain ⟨r,p1,rfl,e1⟩:=g1.cells
 obtain ⟨p,p2,rfl,e2⟩:=g.cells
 clear h hN a d hd j g1 g e0 e1 e2
 unfold AF.v at*
 simp only[yL,yE] at f i ⊢
 refine CM (n:=10) Try.func11 rfl ?_
 have c:=Ua w x
 generalize bodyPostM Fence.wide 10 Try.prog Try.f11 (GN w x)=Q at c ⊢
 have k:=ya c
 clear c
 simp only[Try.ntmps11,yp,yC,yK,Nat.reduceAdd,Nat.reduceSub,zQ,zR,xl,xd,yE,yL]
 iterate 2
  refine Aq (Af ?_)
  go_wp2
 exact WN k.o f.o i.o m.o _ _ _ _ _ _ _ _ _ _ _ _ _ _ _ _ _ _ _ _ _ _ _ _ _ _ _ _ _ _ _ _ _ _ _ _ _ _ _ _ _ _ _ _ _ _ _ _ _ _ _ _ _ _ _ _ _ _ _ _ _ _ _ _ _ _ _ _ _ _ _ _ _ _ _ _ _ _ _ _ _ _ _ _ _ _ _ _ _ _ _ _ _ _ _ _ _ _ _ _ _ _ _ _ _ _ _ _ _ _ _ _ _ _ _ _ _ _ _ _ _ _ _ _ _ _ _ _ _ _ _ _ _ _ _ _ _ _ _ _ _ _ _ _ _ _ _ _ _ _ _ _ _ _ _ _ _ _ _ _ _ _ _ _ _ _ _ _ _ _ _
instance:DecidableEq Rf:=fun a b=>decidable_of_iff (a.name=b.name∧a.n=b.n) (by cases a;cases b;simp)
def OD(u:Us):Rf:=⟨u.name,u.n⟩
mutual
def GU:Ex->List Rf
 |.mk _ _ _ rn ri args=>⟨rn,ri⟩::Eo args
def Eo:List Ex->List Rf
 |[]=> []
 |e::r=>GU e++Eo r
end
def Dk(e:Kp):List Rf:=if Da e.1 then [] else GU e.1
def DS(d:BN):List Rf:=[d.on,d.crop]
def D9(d:AS):List Rf:=d.on::d.turns.flatMap fun k=> [k.farm]
def De(d:AJ):List Rf:=[d.farm,d.reach]
def DT(d:BV):List Rf:=[d.farm,d.reach]
def BB(x:AA):List Rf:=(Bb x).flatMap Dk++(((x.farms.flatMap DS++x.rots.flatMap D9)++x.rights.flatMap De)++x.duties.flatMap DT)
def CJ(x:AA):List Rf:=BB x++x.reaches.map (·.frm)
def EC(x:AA):Int:=if AK x=0 then (if CJ x=CJ (Ao x) then 0 else 170) else AK x
def VP(N:NP)(s b:Nat):Prop:=b=s∨N b
structure Ms (N:Nat->Prop) (s:Nat) (w:World) (u:Us):Prop where
 inS:VP N s u.b
 name:w.cell? ⟨u.b,u.o,none⟩=some (.string u.name)
 n:w.cell? ⟨u.b,u.o+1,none⟩=some (.int .i64 u.n)
def CB(K:NP)(p:Addr):Prop:=∃b q,p=⟨b,q,none⟩∧K b
def DB(K:NP)(w:World)(p:Addr):Prop:=∃b q,p=⟨b,q,none⟩∧K b∧∃z,w.cell? ⟨b,q,none⟩=some (.int .i64 z)
theorem PZ{K:NP}{w V:World}(h:∀b,K b->V.heap[b]?=w.heap[b]?):X7 w (CB K) (DB K w) V:=by
 constructor
 ·rintro p ⟨b,q,rfl,a⟩;exact Ap (h b a)
 ·rintro p ⟨b,q,rfl,a,z,c⟩;exact ⟨z,(Ap (h b a)).trans c⟩
section
variable{N K:NP}{w:World}{s:Nat}
mutual
theorem NF(lt:Int):∀(e:Ex) (b o:Nat) (cs:LV),VP N s b->Bh N w e cs->w.rangeAt b o cs->(∀u∈(CS w lt e b o).1,Ms N s w u)∧((CS w lt e b o).2=true->(CS w lt e b o).1.map OD=GU e)
 |.mk op n u rn ri args,b,o,cs,hb,hv,hr=>by
  rw[Bh] at hv
  obtain ⟨a,cap,rfl,h2,h3,h4⟩:=hv
  obtain ⟨k,r1,r2,i,h,g⟩:=BZ hr
  obtain ⟨f,j⟩:=NG lt args a args.length cap 0 h4
  rw[CS]
  by_cases hs:Kq op args.length=true
  ·rw[yu hs,g]
   refine ⟨fun v c=>?_,fun d=>?_⟩
   ·rcases yO.1 c with rfl|c
    ·exact ⟨hb,i,h⟩
    ·exact f v c
   ·rw[GU,zG,j d];rfl
  ·rw[yq hs]
   exact ⟨fun v c=>(by cases c),fun d=>(by cases d)⟩
theorem NG(lt:Int):∀(l:List Ex) (a:Option Addr) (n cap i:Nat),E6 N w a i l->(∀u∈(Ce w lt l (some (.slice a n cap)) i).1,Ms N s w u)∧((Ce w lt l (some (.slice a n cap)) i).2=true->(Ce w lt l (some (.slice a n cap)) i).1.map OD=Eo l)
 |[],a,n,cap,i,h=>by rw[Ce];exact ⟨fun v c=>(by cases c),fun _=>rfl⟩
 |e::r,a,n,cap,i,h=>by
  rw[E6] at h
  obtain ⟨⟨b,o,cs,rfl,h1,h2,h3⟩,h5⟩:=h
  obtain ⟨e1,e2⟩:=NF lt e b (o+i*6) cs (.inr h1) h3 h2
  obtain ⟨g,j⟩:=NG lt r (some ⟨b,o,none⟩) n cap (i+1) h5
  rw[Ce]
  by_cases d:(CS w lt e b (o+i*6)).2=true
  ·simp only[d,zO]
   refine ⟨fun v c=>(yn.1 c).elim (e1 v) (g v),fun f=>?_⟩
   rw[ze,e2 d,j f,Eo]
  ·simp only[d]
   refine ⟨fun v c=>e1 v (by simpa using c),fun f=>absurd f (by simp)⟩
end
mutual
theorem Ut(hN:∀b,N b->K b):∀(e:Ex) (b o:Nat) (cs:LV),K b->Bh N w e cs->w.rangeAt b o cs->SH w (CB K) e b o
 |.mk op n u rn ri args,b,o,cs,hb,hv,hr=>by
  rw[Bh] at hv
  obtain ⟨a,cap,rfl,h2,h3,h4⟩:=hv
  obtain ⟨c,r1,r2,f,g,d⟩:=BZ hr
  rw[SH]
  exact ⟨a,cap,⟨c,_,_,rfl,hb⟩,⟨d,_,_,rfl,hb⟩,h2,Sl hN args a 0 h4⟩
theorem Sl(hN:∀b,N b->K b):∀(l:List Ex) (a:Option Addr) (i:Nat),E6 N w a i l->Lb w (CB K) a i l
 |[],a,i,h=>by rw[Lb];trivial
 |e::r,a,i,h=>by
  rw[E6] at h
  rw[Lb]
  obtain ⟨⟨b,o,cs,rfl,h1,h2,h3⟩,h5⟩:=h
  exact ⟨⟨b,o,rfl,Ut hN e b (o+i*6) cs (hN b h1) h3 h2⟩,Sl hN r _ (i+1) h5⟩
end
end
theorem NH:∀ {l:List (List Us × Bool)},(Cm l).2=true->(Cm l).1=l.flatMap (·.1)∧∀p∈l,p.2=true
 |[],_=>by simp[Cm]
 |y::r,h=>by
  have e:Cm (y::r)=if y.2 then (y.1++(Cm r).1,(Cm r).2) else (y.1,false):=rfl
  rw[e] at h ⊢
  by_cases h1:y.2=true
  ·rw[yu h1] at h ⊢
   obtain ⟨a,c⟩:=NH h
   exact ⟨by rw[yY,<-a],fun p b=>(yO.1 b).elim (fun e=>e▸h1) (c p)⟩
  ·rw[yq h1] at h;cases h
theorem Gn{α:Type}{l:List α}{n:Nat}(b:n=l.length){F:Nat->List Us}{f:α->List Rf}(h:∀i (hi:i < l.length),(F i).map OD=f l[i]):((List.range n).flatMap F).map OD=l.flatMap f:=by
 have a:∀k,k<=l.length->((List.range k).flatMap F).map OD=(l.take k).flatMap f:=by
  intro k
  induction k with
  |zero=>simp
  |succ k ih=>
   intro c
   rw[Az,ze,ih (by omega),h k (by omega),yr (by omega),zD]
   simp
 rw[b,a _ (ye _),yx]
section
variable{N:NP}{w:World}{L:BL}{cs:LV}{x:AA}
theorem Q0{s:Nat}:∀ {l:List (Array Value)} {m:List Kp},AW (Xa N s w) l m->(∀p∈List.zipWith (D8 w) l m,∀u∈p.1,Ms N s w u)∧((∀p∈List.zipWith (D8 w) l m,p.2=true)->((List.zipWith (D8 w) l m).flatMap (·.1)).map OD=m.flatMap Dk)
 |[],[],_=>⟨fun p f=>(by cases f),fun _=>rfl⟩
 |a::l,e::m,hA=>by
  rw[AW] at hA
  obtain ⟨⟨b,o,c,rfl,hb,j,k⟩,h2⟩:=hA
  obtain ⟨i,n⟩:=Q0 h2
  obtain ⟨e1,e2⟩:=NF e.2 e.1 b o c hb k j
  have d:(∀u∈(D8 w #[.pointer (some ⟨b,o,none⟩),.int .i64 e.2] e).1,Ms N s w u)∧((D8 w #[.pointer (some ⟨b,o,none⟩),.int .i64 e.2] e).2=true->(D8 w #[.pointer (some ⟨b,o,none⟩),.int .i64 e.2] e).1.map OD=Dk e):=by
   unfold D8 Dk
   by_cases hl:Da e.1=true
   ·simp[hl]
   ·rw[yq hl,yq hl];exact ⟨e1,e2⟩
  rw[xZ]
  refine ⟨fun p f=>(yO.1 f).elim (fun h=>h▸d.1) (i p),fun g=>?_⟩
  rw[yY,ze,d.2 (g _ (by simp)),n (fun p f=>g p (by simp[f])),yY]
 |[],_::_,hA=>by simp[AW] at hA
 |_::_,[],hA=>by simp[AW] at hA
theorem FP{h:AF}{b o sz i off:Nat}{cs0 p q:LV}{r:Rf}{s:Nat}(to at_:Int)(d:h.a=some ⟨b,o,none⟩)(hN:N b)(c:w.rangeAt b (o+i*sz) cs0)(hc:cs0=p++(Ad r++q))(e:p.length=off):Ms N s w (DL (h.at sz i off) to at_ r):=by
 subst hc
 have h1:=Bn c
 rw[e] at h1
 unfold DL
 rw[BE d]
 exact ⟨.inr hN,h1 0 _ rfl,h1 1 _ rfl⟩
theorem Ri(h:Ba N w L cs x):(∀u∈CV L x,Ms N L.s w u)∧(CV L x).map OD=((x.farms.flatMap DS++x.rots.flatMap D9)++x.rights.flatMap De)++x.duties.flatMap DT:=by
 constructor
 ·intro u a
  unfold CV at a
  simp only[yn] at a
  rcases a with ((a|a)|a)|a
  ·obtain ⟨i,hi,a⟩:=yQ.1 a
   have hl:i < x.farms.length:=by rw[<-h.farms.1];exact yW.1 hi
   obtain ⟨b,o,c,g1,g,l,e,_,_,_,c1,rfl,r⟩:=h.farms.2.2 i hl
   unfold F8 at a
   rw[yl hl] at a
   simp only[yO,zs,xD] at a
   generalize x.farms[i]=d at*
   rcases a with rfl|rfl
   ·exact FP (p:=[.string d.name]) _ _ g1 g e rfl rfl
   ·exact FP (p:=.string d.name::(Ad d.on++(.bool d.river::c1))) (q:=[]) _ _ g1 g e (by simp) (by simp[A9,r.len])
  ·obtain ⟨i,hi,a⟩:=yQ.1 a
   have hl:i < x.rots.length:=by rw[<-h.rots.1];exact yW.1 hi
   obtain ⟨b,o,c,g1,g,l,e,_,_,c0,c1,c2,rfl,t,z,v,m⟩:=h.rots.2.2 i hl
   unfold Ib at a
   rw[yl hl] at a
   generalize x.rots[i]=d at*
   rcases yO.1 a with rfl|a
   ·exact FP (p:=[.string d.name]) _ _ g1 g e rfl rfl
   ·obtain ⟨k,n,a⟩:=yQ.1 a
    have j:k < d.turns.length:=by rw[<-m.1];exact yW.1 n
    obtain ⟨b,o,c,g1,g,l,e,_,c1,rfl,r⟩:=m.2.2 k j
    unfold G4 at a
    rw[yl j] at a
    simp only[yO,zs,xD] at a
    rw[a]
    exact FP (p:=[]) _ _ g1 g e rfl rfl
  ·obtain ⟨i,hi,a⟩:=yQ.1 a
   have hl:i < x.rights.length:=by rw[<-h.rights.1];exact yW.1 hi
   obtain ⟨b,o,c,g1,g,l,e,_,_,_,c0,c1,c2,y,A,rfl,_⟩:=h.rights.2.2 i hl
   unfold DF at a
   rw[yl hl] at a
   simp only[yO,zs,xD] at a
   generalize x.rights[i]=d at*
   rcases a with rfl|rfl
   ·exact FP (p:=[iV d.kind,.string d.name]) _ _ g1 g e rfl rfl
   ·exact FP (p:=iV d.kind::.string d.name::Ad d.farm) _ _ g1 g e rfl rfl
  ·obtain ⟨i,hi,a⟩:=yQ.1 a
   have hl:i < x.duties.length:=by rw[<-h.duties.1];exact yW.1 hi
   obtain ⟨b,o,c,g1,g,l,e,_,_,_,c0,rfl,_⟩:=h.duties.2.2 i hl
   unfold EO at a
   rw[yl hl] at a
   simp only[yO,zs,xD] at a
   generalize x.duties[i]=d at*
   rcases a with rfl|rfl
   ·exact FP (p:=[.string d.name]) _ _ g1 g e rfl rfl
   ·exact FP (p:=.string d.name::Ad d.farm) _ _ g1 g e rfl rfl
 ·unfold CV
  rw[ze,ze,ze,Gn h.farms.1 (f:=DS) fun i hi=>?_,Gn h.rots.1 (f:=D9) fun i hi=>?_,Gn h.rights.1 (f:=De) fun i hi=>?_,Gn h.duties.1 (f:=DT) fun i hi=>?_]
  ·unfold EO;rw[yl hi];rfl
  ·unfold DF;rw[yl hi];rfl
  ·obtain ⟨_,_,_,_,_,_,_,_,_,_,_,_,_,_,_,_,m⟩:=h.rots.2.2 i hi
   unfold Ib;rw[yl hi]
   simp only[zG]
   rw[Gn m.1 (f:=fun k:BM=> [k.farm]) fun k n=>?_]
   ·rfl
   ·unfold G4;rw[yl n];rfl
  ·unfold F8;rw[yl hi];rfl
theorem NI(h:Ba N w L cs x)(i:w.rangeAt L.s 0 cs):(∀u∈(CG w L x).1,Ms N L.s w u)∧((CG w L x).2=true->(CG w L x).1.map OD=BB x):=by
 obtain ⟨f,d⟩:=Q0 (JJ h i)
 obtain ⟨g,k⟩:=Ri h
 constructor
 ·intro u b
  obtain ⟨p,a,b⟩:=K6 b
  unfold Fc at a
  rcases yn.1 a with a|a
  ·exact f p a u b
  ·simp only[zg] at a
   rw[a] at b
   simp only at b
   split at b
   ·exact g u b
   ·cases b
 ·intro l
  obtain ⟨e,c⟩:=NH l
  unfold CG
  rw[e]
  unfold Fc
  have j:CF x=true:=by
   have:=c (if CF x then CV L x else [],CF x) (by unfold Fc;simp)
   exact this
  rw[zD,ze]
  unfold Et
  rw[d (fun p a=>c p (by unfold Fc Et;simp[a]))]
  simp only[yY,zB,yG,j,zO]
  rw[k];rfl
theorem OE(h:Ba N w L cs x)(a:BX x=true):(CV L x).length<=1000000:=by
 obtain ⟨e,o,j,g,m,f,l,b,_⟩:=FE a
 unfold CV
 simp only[yi]
 have e1:((List.range L.farms.n).flatMap (F8 L.farms x.farms)).length<=L.farms.n*2:=GM _ fun i=>by unfold F8;split<;>simp
 have e2:((List.range L.rots.n).flatMap (Ib L x.rots)).length<=L.rots.n*66:=PF _ fun i hi=>by
  have hl:i < x.rots.length:=by rw[<-h.rots.1];exact hi
  obtain ⟨_,_,_,_,_,_,_,_,_,_,_,_,_,_,_,_,c⟩:=h.rots.2.2 i hl
  have d:((List.range (A5 L i).n).flatMap (G4 (A5 L i) (x.rots[i]).turns)).length<=(A5 L i).n*1:=GM _ fun k=>by unfold G4;split<;>simp
  have:=b _ (yw hl)
  have:=c.1
  unfold Ib
  rw[yl hl]
  simp only[yC]
  omega
 have d:((List.range L.rights.n).flatMap (DF L.rights x.rights)).length<=L.rights.n*2:=GM _ fun i=>by unfold DF;split<;>simp
 have p:((List.range L.duties.n).flatMap (EO L.duties x.duties)).length<=L.duties.n*2:=GM _ fun i=>by unfold EO;split<;>simp
 have:=h.farms.1;have:=h.rots.1;have:=h.rights.1;have:=h.duties.1
 omega
theorem Q1(h:Ba N w L cs x)(n:w.rangeAt L.s 0 cs){Bu:Nat}(f:w.cell? ⟨Bu,0,none⟩=some (.pointer (some ⟨L.s,0,none⟩)))(m:BX x=true):LS N w (CB fun b=>VP N L.s b∨b=Bu) (DB (fun b=>VP N L.s b∨b=Bu) w) Bu L x:=by
 refine ⟨h.ok,LM h n f,⟨Bu,0,rfl,.inr rfl⟩,fun j _ _=>⟨L.s,j,rfl,.inl (.inl rfl)⟩,fun i hi=>?_,fun i hi=>?_,fun i hi=>?_,?_,h.farms.1,h.rots.1,fun i hi=>?_,h.rights.1,h.duties.1,PG (FE m).1,OE h m⟩
 ·obtain ⟨b,o,c,g1,g,_⟩:=h.rots.2.2 i (by rw[<-h.rots.1];exact hi)
  rw[BE g1]
  exact ⟨_,_,rfl,.inl (.inr g)⟩
 ·obtain ⟨b,o,c,g1,g,p,k,_,_,_,c1,rfl,A⟩:=h.farms.2.2 i hi
  rw[BE g1]
  exact ⟨⟨_,_,rfl,.inl (.inr g)⟩,k 3 _ rfl⟩
 ·obtain ⟨b,o,c,g1,g,p,k,_,_,_,c0,c1,c2,z,C,rfl,_⟩:=h.rights.2.2 i hi
  rw[BE g1]
  exact ⟨⟨_,_,rfl,.inl (.inr g)⟩,k 0 _ rfl⟩
 ·refine AW.mono (fun a e t=>?_) (JJ h n)
  obtain ⟨b,o,c,rfl,hb,d,l⟩:=t
  have u:=Ut (K:=fun b=>VP N L.s b∨b=Bu) (fun b hb=>.inl (.inr hb)) e.1 b o c (.inl hb) l d
  obtain ⟨a,cap,rfl,e1,e2,D⟩:=l.cells
  obtain ⟨B,r1,r2,y,r,v⟩:=BZ d
  exact ⟨b,o,_,rfl,d,l,u,⟨_,_,rfl,.inl hb⟩,⟨_,_,rfl,.inl hb⟩,⟨_,_,rfl,.inl hb⟩,⟨_,_,rfl,.inl hb,_,r⟩,fun _=>⟨_,_,rfl,.inl hb⟩⟩
 ·obtain ⟨_,_,_,_,_,_,_,_,_,_,_,_,_,_,_,_,q⟩:=h.rots.2.2 i hi
  exact q.1
end
def Dl(B:Nat)(w:World)(v:Value)(l:List Rf):Prop:=w.ownsRow B 23 2 v l.length (l.flatMap Ad)
theorem T7(B:Nat)(w:World):Dl B w (.slice none 0 0) []:=⟨rfl,.inl ⟨rfl,rfl⟩⟩
theorem Dl.up{B:Nat}{w w':World}{v:Value}{l:List Rf}(h:Dl B w v l)(hb:∀g,v.ownBlock=some g->g < w.heap.size->w'.heap[g]?=w.heap[g]?):Dl B w' v l:=by
 obtain ⟨h1,h2⟩:=h
 refine ⟨h1,h2.imp id ?_⟩
 rintro ⟨g,cap,a,rfl,h4,h5,h6⟩
 exact ⟨g,cap,a,rfl,h4,(hb g rfl (yd.1 h5).1).trans h5,h6⟩
theorem OF{B:Nat}{W:World}{v:Value}{l:List Rf}(d:Dl B W v l)(r:Rf)(ty:TypeId)(g c:Nat)(D:W.heap[g]?=some (.cells #[.string r.name,.int .i64 r.n] 23 (0,0)))(x:l.length+1<=1000000000){v':Value}{w':World}
 (a:(Builtin.append_ #[127,127] ty #[v,.slice (some ⟨g,0,none⟩) 1 c]).run Try.prog W=.ok v' w'):v'.ownBlock=v.ownBlock∨v'.ownBlock=some W.heap.size:=by
 have e:(Try.prog.info? 23).map (fun i=>(i.zero,i.size,i.bytes))=some (some (.agg #[.string ⟨#[]⟩,iV 0]),2,24):=by kernel_rfl
 obtain ⟨q,hi,p,f,o⟩:=info_parts e
 have b:∀j u,(Ad r)[j]?=some u->W.cell? (((aV g 0):Addr).add j)=some u:=fun j u y=>by
  rw[zx]
  simp only[World.cell?,D]
  unfold Ad at y
  simpa using y
 have hl:(Ad r).length=1*q.size:=by rw[f];rfl
 rcases d.2 with ⟨rfl,F⟩|⟨k,cap,w,rfl,A,z,E,C,t,s⟩
 ·rw[run_append_nil W 127 ty 23 q _ qz hi p (aV g 0) 1 c (Ad r) hl b (by omega) (by omega) (by rw[o];omega)] at a
  cases a
  exact .inr rfl
 ·by_cases m:l.length+1<=cap
  ·rw[run_append_room W 127 ty 23 q qz hi k l.length cap w z (aV g 0) 1 c (Ad r) hl b (AO r) m (by rw[f,t];show l.length*2+2<=cap*2;omega)] at a
   cases a
   exact .inl rfl
  ·have h:∀j u,(l.flatMap Ad)[j]?=some u->W.cell? (((aV k 0):Addr).add j)=some u:=World.ownsRow.cells d (g:=k) rfl
   rw[run_append_grow W 127 ty 23 q _ qz hi p (aV k 0) l.length cap (l.flatMap Ad) (by rw[f];exact d.1) h (aV g 0) 1 c (Ad r) hl b (by omega) (by omega) (growslice_fits (by omega) (by rw[o];omega))] at a
   cases a
   exact .inr rfl
theorem Ft{o:Oper}{a:Act}{K:Act->World->Prop}{Q:QT}{W:World}(B:Nat)(s x:Operand)(z:o.op=.call {callee:=.builtin .append,args:=#[s,x],argTypes:=#[127,127]})
 (v:Value)(l:List Rf)(hs:a.eval s=v)(b:Dl B W v l)(r:Rf)(g c:Nat)(C:a.eval x=.slice (some ⟨g,0,none⟩) 1 c)(w:W.heap[g]?=some (.cells #[.string r.name,.int .i64 r.n] 23 (0,0)))(k:l.length+1<=1000000000)(d:B<=W.heap.size)
 (h:∀v' w',Dl B w' v' (l++[r])->W.grownBy w' v.ownBlock->(v'.ownBlock=v.ownBlock∨v'.ownBlock=some W.heap.size)->K (a.put o.dst v') w'):Oper.wp Try.prog o a W K Q:=by
 have e:(Try.prog.info? 23).map (fun i=>(i.zero,i.size,i.bytes))=some (some (.agg #[.string ⟨#[]⟩,iV 0]),2,24):=by kernel_rfl
 obtain ⟨A,hi,p,q,m⟩:=info_parts e
 have f:∀j u,(Ad r)[j]?=some u->W.cell? (((aV g 0):Addr).add j)=some u:=fun j u y=>by
  rw[zx]
  simp only[World.cell?,w]
  unfold Ad at y
  simpa using y
 obtain ⟨v',w',t,h2,h3,_⟩:=run_append_own (P:=Try.prog) W B 127 o.type 23 A _ 2 24 qz hi p q m rfl (by decide) v l.length _ b (aV g 0) 1 c (Ad r) rfl f (AO r) (by unfold maxLen;omega) (by omega) d
 have hb:=OF b r o.type g c w k t
 unfold Oper.wp
 simp[execOp,z,resolve,invoke,builtin,hs,C,t,Result.andThen]
 refine h v' w' ?_ h3 hb
 unfold Dl
 rw[yi,zD]
 simpa using h2
structure Uu (W:World) (base:Nat) (va:Value) (ls:List Rf) (r:Rf) (w1:World) (v:Value):Prop where
 own:Dl base w1 v (ls++[r])
 grown:W.grownBy w1 va.ownBlock
 blk:v.ownBlock=va.ownBlock∨∃g,v.ownBlock=some g∧W.heap.size<=g
def Vs(w:World)(v:Value)(r:Rf):Prop:=∃g,v=.slice (some ⟨g,0,none⟩) 1 1∧w.heap[g]?=some (.cells #[.string r.name,.int .i64 r.n] 23 (0,0))
theorem Vs.up{w w':World}{v:Value}{r:Rf}(h:Vs w v r)(hb:Below w.heap.size w w'):Vs w' v r:=by
 obtain ⟨g,h1,h2⟩:=h
 exact ⟨g,h1,(hb.block g (yd.1 h2).1).trans h2⟩
structure Q3 (W:World) (base:Nat) (va:Value) (ls:List Rf) (r:Rf) (Bx s24 s25:Nat) (l:Array Bool) (tm:Array Value) (w:World):Prop where
 one:l.getD 6 false=false->Below W.heap.size W w∧(l.getD 5 false=true->Vs w (tm.getD s24 undef) r)
 two:l.getD 6 false=true->l.getD 7 false=false->Uu W base va ls r w (tm.getD s25 undef)
 three:l.getD 7 false=true->∃w1 v,Uu W base va ls r w1 v∧w=w1.setCell ⟨Bx,0,none⟩ v
theorem Q3.quiet{W:World}{base:Nat}{va:Value}{ls:List Rf}{r:Rf}{Bx a b:Nat}{l:Array Bool}{tm:Array Value}{w w2:World}{i t:Nat}{v:Value}(h:Q3 W base va ls r Bx a b l tm w)(f:l.getD 6 false=false)(j:l.getD 7 false=false)(d:i≠5)(e:i≠6)(c:i≠7)(k:t < a)(hb:Below w.heap.size w w2):Q3 W base va ls r Bx a b (l.setIfInBounds i true) (tm.setIfInBounds t v) w2:=by
 obtain ⟨h1,h2⟩:=h.one f
 refine ⟨fun _=>⟨h1.trans (hb.mono h1.size),fun h5=>?_⟩,fun h6=>?_,fun g=>?_⟩
 ·rw[Al d] at h5
  rw[Cj (Nat.ne_of_lt k)]
  exact (h2 h5).up hb
 ·rw[Al e,f] at h6;cases h6
 ·rw[Al c,j] at g;cases g
def WO(va:Value)(b6 ub uo:Nat)(r:Rf)(j:Nat)(v:Value)(_:World):Prop:=match j with
 |0=>v=va
 |1=>v=.pointer (some ⟨b6,0,none⟩)
 |2=>v=.pointer (some ⟨ub,uo,none⟩)
 |3=>v=.pointer (some ⟨ub,uo,none⟩)
 |4=>v=.agg #[.string r.name,.int .i64 r.n]
 |_=>True
theorem Xe{N:Act}{W0:World}{Q:QT}{l n Bx b6 ub uo base:Nat}{va:Value}{ls:List Rf}{r:Rf}(ops:Array Oper)(C:GS Try.f14 7=some ops)
 (P:N.tmps.getD 4 undef=.pointer (some ⟨Bx,0,none⟩))(a7:N.tmps.getD 6 undef=.pointer (some ⟨b6,0,none⟩))(hz:N.tmps.size=64)
 (S:Bx < W0.heap.size)(a0:b6 < W0.heap.size)(R:ub < W0.heap.size)(U:∃u,W0.heap[Bx]?=some (.cells #[u] 127 (0,0)))(s:W0.cell? ⟨Bx,0,none⟩=some va)(F:W0.cell? ⟨b6,0,none⟩=some (.pointer (some ⟨ub,uo,none⟩)))
 (x:W0.cell? ⟨ub,uo,none⟩=some (.string r.name))(D:W0.cell? ⟨ub,uo+1,none⟩=some (.int .i64 r.n))(E:Dl base W0 va ls)(W:ls.length+1<=1000000000)(G:base<=W0.heap.size)(aa:Bx < base)
 (hQ:∀(a:Act) w1 v,a.tmps.size=64->a.defers=N.defers->(∀t,(t < 19∨25 < t)->a.tmps.getD t undef=N.tmps.getD t undef)->Uu W0 base va ls r w1 v->Q .normal a (w1.setCell ⟨Bx,0,none⟩ v)):
  (Code.region 7 ops true).wpIn (Fence.wide.inRound l) n Try.prog Q N W0:=by
 obtain rfl:=yh ((rfl:GS Try.f14 7=some _).symm.trans C)
 clear C
 refine Hw (by kernel_rfl) (Q3 W0 base va ls r Bx 24 25) (WO va b6 ub uo r) (fun _ _ _=>True) (by kernel_rfl) (by rw[hz];kernel_rfl) (by kernel_rfl) (by kernel_rfl) (fun _ j v w w' _ _ _ h=>by unfold WO at h ⊢;exact h) ⟨fun _=>⟨(yc _ _).drew,fun h=>(by cases h)⟩,fun h=>(by cases h),fun h=>(by cases h)⟩ ?_ ?_
 ·intro ix b a w' hM f o A
  have y:=ya hM.ext
  have K:=(yd.1 A).1
  have J:=hM.size
  have L:b.getD 6 false=false->b.getD 7 false=false:=fun i=>by
   rw[yj];intro B
   have:=A3 hM.down 8 7 6 (by kernel_rfl) B
   rw[i] at this;cases this
  match ix,K with
  |0,_=>
   have d:=hM.old f 4 (by kernel_rfl) _ P
   have i:b.getD 6 false=false:=by
    rw[yj];intro h6
    have:=A3 hM.down 8 6 0 (by kernel_rfl) h6
    rw[hM.Xj f] at this;cases this
   have hb:=(y.o.one i).1
   have q:=ya i
   have m:=ya (L i)
   clear i
   have c:=(hb.cell (p:=(aV Bx 0)) S).trans s
   clear s x D F
   obtain rfl:=yh A
   go_simp
   exact ⟨_,rfl,y.o.quiet q.o m.o (by decide) (by decide) (by decide) (by decide) (yc _ _),trivial,rfl⟩
  |1,_=>
   have d:=hM.old f 6 (by kernel_rfl) _ a7
   have i:b.getD 6 false=false:=by
    rw[yj];intro h6
    have:=A3 hM.down 8 6 1 (by kernel_rfl) h6
    rw[hM.Xj f] at this;cases this
   have hb:=(y.o.one i).1
   have q:=ya i
   have m:=ya (L i)
   clear i s x D F
   obtain rfl:=yh A
   go_simp
   exact ⟨_,rfl,y.o.quiet q.o m.o (by decide) (by decide) (by decide) (by decide) (yc _ _),trivial,rfl⟩
  |2,_=>
   have d:a.tmps[20]?.getD undef=pV b6 0:=hM.Xk f 1 20 (by kernel_rfl) (by kernel_rfl)
   have i:b.getD 6 false=false:=by
    rw[yj];intro h6
    have:=A3 hM.down 8 6 2 (by kernel_rfl) h6
    rw[hM.Xj f] at this;cases this
   have hb:=(y.o.one i).1
   have q:=ya i
   have m:=ya (L i)
   clear i
   have c:=(hb.cell (p:=(aV b6 0)) a0).trans F
   clear s x D F
   obtain rfl:=yh A
   go_simp
   exact ⟨_,rfl,y.o.quiet q.o m.o (by decide) (by decide) (by decide) (by decide) (yc _ _),trivial,rfl⟩
  |3,_=>
   have d:a.tmps[21]?.getD undef=pV ub uo:=hM.Xk f 2 21 (by kernel_rfl) (by kernel_rfl)
   have i:b.getD 6 false=false:=by
    rw[yj];intro h6
    have:=A3 hM.down 8 6 3 (by kernel_rfl) h6
    rw[hM.Xj f] at this;cases this
   have hb:=(y.o.one i).1
   have q:=ya i
   have m:=ya (L i)
   clear i s x D F
   obtain rfl:=yh A
   go_simp
   exact ⟨_,rfl,y.o.quiet q.o m.o (by decide) (by decide) (by decide) (by decide) (yc _ _),trivial,rfl⟩
  |4,_=>
   have d:a.tmps[22]?.getD undef=pV ub uo:=hM.Xk f 3 22 (by kernel_rfl) (by kernel_rfl)
   have i:b.getD 6 false=false:=by
    rw[yj];intro h6
    have:=A3 hM.down 8 6 4 (by kernel_rfl) h6
    rw[hM.Xj f] at this;cases this
   have hb:=(y.o.one i).1
   have q:=ya i
   have m:=ya (L i)
   clear i
   have c:=(hb.cell (p:=(aV ub uo)) R).trans x
   have c1:=(hb.cell (p:=(aV ub (uo+1))) R).trans D
   clear s x D F
   obtain rfl:=yh A
   go_simp
   exact ⟨_,rfl,y.o.quiet q.o m.o (by decide) (by decide) (by decide) (by decide) (yc _ _),trivial,rfl⟩
  |5,_=>
   have d:a.tmps[23]?.getD undef=.agg #[.string r.name,iV r.n]:=hM.Xk f 4 23 (by kernel_rfl) (by kernel_rfl)
   have i:b.getD 6 false=false:=by
    rw[yj];intro h6
    have:=A3 hM.down 8 6 5 (by kernel_rfl) h6
    rw[hM.Xj f] at this;cases this
   have hb:=(y.o.one i).1
   have q:=ya i
   have m:=ya (L i)
   clear i
   have HB:=ya hb
   have X:Hid (5 < b.size):=ya (by rw[J];show 5 < 8;omega)
   have Y:Hid (24 < a.tmps.size):=ya (by rw[hM.tmps,hz];decide)
   clear s x D F hb
   obtain rfl:=yh A
   go_simp
   refine ⟨_,rfl,⟨fun _=>⟨HB.o.alloc HB.o.size _,fun _=>⟨w'.heap.size,?_,World.alloc_heap_new _ _⟩⟩,fun h6=>?_,fun B=>?_⟩,trivial,trivial⟩
   ·show (a.put (some 24) (.slice (some (aV w'.heap.size 0)) 1 1)).tmps.getD 24 undef=_
    exact Bw _ Y.o
   ·rw[Al (by decide),q.o] at h6;cases h6
   ·rw[Al (by decide),m.o] at B;cases B
  |6,_=>
   have d:a.tmps[19]?.getD undef=va:=hM.Xk f 0 19 (by kernel_rfl) (by kernel_rfl)
   have i:=hM.Xj f
   have l5:b.getD 5 false=true:=hM.Xn f 5 (by kernel_rfl)
   obtain ⟨g,T,hg⟩:=(y.o.one i).2 l5
   have hb:=(y.o.one i).1
   have X:Hid (6 < b.size):=ya (by rw[J];show 6 < 8;omega)
   have Y:Hid (25 < a.tmps.size):=ya (by rw[hM.tmps,hz];decide)
   have m:=ya (L i)
   rw[yH] at T
   refine Ft base (.tmp 19) (.tmp 24) (by obtain rfl:=yh A;rfl) va ls (by simpa[Act.eval] using d) (E.up fun k hk K=>hb.block k K) r g 1 (by simpa[Act.eval] using T) hg W (yo G hb.size) ?_
   intro v' w5 I z a6
   obtain rfl:=yh A
   refine ⟨v',rfl,⟨fun h6=>?_,fun _ _=>⟨?_,?_,?_⟩,fun B=>?_⟩,trivial,trivial⟩
   ·simp[X.o] at h6
   ·show Dl base w5 ((a.put (some 25) v').tmps.getD 25 undef) _
    rw[Bw _ Y.o];exact I
   ·exact ⟨z.os.trans hb.os,z.tape.trans hb.tape,z.output.trans hb.output,yo hb.size z.size,fun k hk a1=>(z.block k (yk hk hb.size) a1).trans (hb.block k hk)⟩
   ·show ((a.put (some 25) v').tmps.getD 25 undef).ownBlock=_∨∃g,((a.put (some 25) v').tmps.getD 25 undef).ownBlock=some g∧_
    rw[Bw _ Y.o]
    exact a6.imp id (fun h=>⟨_,h,hb.size⟩)
   ·rw[Al (by decide),m.o] at B;cases B
  |7,_=>
   have d:=hM.old f 4 (by kernel_rfl) _ P
   have l6:b.getD 6 false=true:=hM.Xn f 6 (by kernel_rfl)
   have a8:=hM.Xj f
   have H:=y.o.two l6 a8
   have M:w'.heap[Bx]?=W0.heap[Bx]?:=H.grown.block Bx S (fun e=>by
    have:=(E.lt Bx e.symm).1;omega)
   obtain ⟨u0,V⟩:=U
   have c:=Ap (o:=0) M
   have fz:w'.frozen? (aV Bx 0)=false:=by unfold World.frozen?;rw[M,V];rfl
   have c2:w'.cell? (aV Bx 0)=some va:=c.trans s
   obtain ⟨v,Z⟩:∃v,v=a.tmps.getD 25 undef:=⟨_,rfl⟩
   rw[<-Z] at H
   have HP:=ya H
   rw[yH] at Z
   replace Z:=Z.symm
   have X:Hid (7 < b.size):=ya (by rw[J];show 7 < 8;omega)
   have a2:=ya l6
   obtain ⟨ad,nn,cc,rfl⟩:∃ad n c,v=.slice ad n c:=by
    rcases H.own.2 with ⟨rfl,_⟩|⟨_,_,_,rfl,_⟩
    ·exact ⟨_,_,_,rfl⟩
    ·exact ⟨_,_,_,rfl⟩
   clear s x D F H c M V l6
   obtain rfl:=yh A
   go_simp
   refine ⟨undef,rfl,⟨fun h6=>?_,fun _ B=>?_,fun _=>⟨w',_,HP.o,rfl⟩⟩,trivial,trivial⟩
   ·rw[Al (by decide),a2.o] at h6;cases h6
   ·simp[X.o] at B
 ·intro b a w' O hM
  obtain ⟨w1,v,H,rfl⟩:=hM.ext.three (O 7 (show 7 < 8 by omega))
  exact hQ a w1 v (hM.tmps.trans hz) hM.defers (G7 (lo:=19) (hi:=25) (by kernel_rfl) hM) H
def VR(va:Value)(b6 ub uo:Nat)(r:Rf)(j:Nat)(v:Value)(_:World):Prop:=match j with
 |0=>v=va
 |1=>v=.pointer (some ⟨b6,0,none⟩)
 |2=>v=.pointer (some ⟨ub,uo,none⟩)
 |3=>v=.pointer (some ⟨ub,uo,none⟩)
 |4=>v=.agg #[.string r.name,.int .i64 r.n]
 |_=>True
theorem WQ{N:Act}{W0:World}{Q:QT}{l n Bx b6 ub uo base:Nat}{va:Value}{ls:List Rf}{r:Rf}(ops:Array Oper)(C:GS Try.f14 10=some ops)
 (P:N.tmps.getD 5 undef=.pointer (some ⟨Bx,0,none⟩))(a7:N.tmps.getD 7 undef=.pointer (some ⟨b6,0,none⟩))(hz:N.tmps.size=64)
 (S:Bx < W0.heap.size)(a0:b6 < W0.heap.size)(R:ub < W0.heap.size)(U:∃u,W0.heap[Bx]?=some (.cells #[u] 127 (0,0)))(s:W0.cell? ⟨Bx,0,none⟩=some va)(F:W0.cell? ⟨b6,0,none⟩=some (.pointer (some ⟨ub,uo,none⟩)))
 (x:W0.cell? ⟨ub,uo,none⟩=some (.string r.name))(D:W0.cell? ⟨ub,uo+1,none⟩=some (.int .i64 r.n))(E:Dl base W0 va ls)(W:ls.length+1<=1000000000)(G:base<=W0.heap.size)(aa:Bx < base)
 (hQ:∀(a:Act) w1 v,a.tmps.size=64->a.defers=N.defers->(∀t,(t < 28∨34 < t)->a.tmps.getD t undef=N.tmps.getD t undef)->Uu W0 base va ls r w1 v->Q .normal a (w1.setCell ⟨Bx,0,none⟩ v)):
  (Code.region 10 ops true).wpIn (Fence.wide.inRound l) n Try.prog Q N W0:=by
 obtain rfl:=yh ((rfl:GS Try.f14 10=some _).symm.trans C)
 clear C
 refine Hw (by kernel_rfl) (Q3 W0 base va ls r Bx 33 34) (VR va b6 ub uo r) (fun _ _ _=>True) (by kernel_rfl) (by rw[hz];kernel_rfl) (by kernel_rfl) (by kernel_rfl) (fun _ j v w w' _ _ _ h=>by unfold VR at h ⊢;exact h) ⟨fun _=>⟨(yc _ _).drew,fun h=>(by cases h)⟩,fun h=>(by cases h),fun h=>(by cases h)⟩ ?_ ?_
 ·intro ix b a w' hM f o A
  have y:=ya hM.ext
  have K:=(yd.1 A).1
  have J:=hM.size
  have L:b.getD 6 false=false->b.getD 7 false=false:=fun i=>by
   rw[yj];intro B
   have:=A3 hM.down 8 7 6 (by kernel_rfl) B
   rw[i] at this;cases this
  match ix,K with
  |0,_=>
   have d:=hM.old f 5 (by kernel_rfl) _ P
   have i:b.getD 6 false=false:=by
    rw[yj];intro h6
    have:=A3 hM.down 8 6 0 (by kernel_rfl) h6
    rw[hM.Xj f] at this;cases this
   have hb:=(y.o.one i).1
   have q:=ya i
   have m:=ya (L i)
   clear i
   have c:=(hb.cell (p:=(aV Bx 0)) S).trans s
   clear s x D F
   obtain rfl:=yh A
   go_simp
   exact ⟨_,rfl,y.o.quiet q.o m.o (by decide) (by decide) (by decide) (by decide) (yc _ _),trivial,rfl⟩
  |1,_=>
   have d:=hM.old f 7 (by kernel_rfl) _ a7
   have i:b.getD 6 false=false:=by
    rw[yj];intro h6
    have:=A3 hM.down 8 6 1 (by kernel_rfl) h6
    rw[hM.Xj f] at this;cases this
   have hb:=(y.o.one i).1
   have q:=ya i
   have m:=ya (L i)
   clear i s x D F
   obtain rfl:=yh A
   go_simp
   exact ⟨_,rfl,y.o.quiet q.o m.o (by decide) (by decide) (by decide) (by decide) (yc _ _),trivial,rfl⟩
  |2,_=>
   have d:a.tmps[29]?.getD undef=pV b6 0:=hM.Xk f 1 29 (by kernel_rfl) (by kernel_rfl)
   have i:b.getD 6 false=false:=by
    rw[yj];intro h6
    have:=A3 hM.down 8 6 2 (by kernel_rfl) h6
    rw[hM.Xj f] at this;cases this
   have hb:=(y.o.one i).1
   have q:=ya i
   have m:=ya (L i)
   clear i
   have c:=(hb.cell (p:=(aV b6 0)) a0).trans F
   clear s x D F
   obtain rfl:=yh A
   go_simp
   exact ⟨_,rfl,y.o.quiet q.o m.o (by decide) (by decide) (by decide) (by decide) (yc _ _),trivial,rfl⟩
  |3,_=>
   have d:a.tmps[30]?.getD undef=pV ub uo:=hM.Xk f 2 30 (by kernel_rfl) (by kernel_rfl)
   have i:b.getD 6 false=false:=by
    rw[yj];intro h6
    have:=A3 hM.down 8 6 3 (by kernel_rfl) h6
    rw[hM.Xj f] at this;cases this
   have hb:=(y.o.one i).1
   have q:=ya i
   have m:=ya (L i)
   clear i s x D F
   obtain rfl:=yh A
   go_simp
   exact ⟨_,rfl,y.o.quiet q.o m.o (by decide) (by decide) (by decide) (by decide) (yc _ _),trivial,rfl⟩
  |4,_=>
   have d:a.tmps[31]?.getD undef=pV ub uo:=hM.Xk f 3 31 (by kernel_rfl) (by kernel_rfl)
   have i:b.getD 6 false=false:=by
    rw[yj];intro h6
    have:=A3 hM.down 8 6 4 (by kernel_rfl) h6
    rw[hM.Xj f] at this;cases this
   have hb:=(y.o.one i).1
   have q:=ya i
   have m:=ya (L i)
   clear i
   have c:=(hb.cell (p:=(aV ub uo)) R).trans x
   have c1:=(hb.cell (p:=(aV ub (uo+1))) R).trans D
   clear s x D F
   obtain rfl:=yh A
   go_simp
   exact ⟨_,rfl,y.o.quiet q.o m.o (by decide) (by decide) (by decide) (by decide) (yc _ _),trivial,rfl⟩
  |5,_=>
   have d:a.tmps[32]?.getD undef=.agg #[.string r.name,iV r.n]:=hM.Xk f 4 32 (by kernel_rfl) (by kernel_rfl)
   have i:b.getD 6 false=false:=by
    rw[yj];intro h6
    have:=A3 hM.down 8 6 5 (by kernel_rfl) h6
    rw[hM.Xj f] at this;cases this
   have hb:=(y.o.one i).1
   have q:=ya i
   have m:=ya (L i)
   clear i
   have HB:=ya hb
   have X:Hid (5 < b.size):=ya (by rw[J];show 5 < 8;omega)
   have Y:Hid (33 < a.tmps.size):=ya (by rw[hM.tmps,hz];decide)
   clear s x D F hb
   obtain rfl:=yh A
   go_simp
   refine ⟨_,rfl,⟨fun _=>⟨HB.o.alloc HB.o.size _,fun _=>⟨w'.heap.size,?_,World.alloc_heap_new _ _⟩⟩,fun h6=>?_,fun B=>?_⟩,trivial,trivial⟩
   ·show (a.put (some 33) (.slice (some (aV w'.heap.size 0)) 1 1)).tmps.getD 33 undef=_
    exact Bw _ Y.o
   ·rw[Al (by decide),q.o] at h6;cases h6
   ·rw[Al (by decide),m.o] at B;cases B
  |6,_=>
   have d:a.tmps[28]?.getD undef=va:=hM.Xk f 0 28 (by kernel_rfl) (by kernel_rfl)
   have i:=hM.Xj f
   have l5:b.getD 5 false=true:=hM.Xn f 5 (by kernel_rfl)
   obtain ⟨g,T,hg⟩:=(y.o.one i).2 l5
   have hb:=(y.o.one i).1
   have X:Hid (6 < b.size):=ya (by rw[J];show 6 < 8;omega)
   have Y:Hid (34 < a.tmps.size):=ya (by rw[hM.tmps,hz];decide)
   have m:=ya (L i)
   rw[yH] at T
   refine Ft base (.tmp 28) (.tmp 33) (by obtain rfl:=yh A;rfl) va ls (by simpa[Act.eval] using d) (E.up fun k hk K=>hb.block k K) r g 1 (by simpa[Act.eval] using T) hg W (yo G hb.size) ?_
   intro v' w5 I z a6
   obtain rfl:=yh A
   refine ⟨v',rfl,⟨fun h6=>?_,fun _ _=>⟨?_,?_,?_⟩,fun B=>?_⟩,trivial,trivial⟩
   ·simp[X.o] at h6
   ·show Dl base w5 ((a.put (some 34) v').tmps.getD 34 undef) _
    rw[Bw _ Y.o];exact I
   ·exact ⟨z.os.trans hb.os,z.tape.trans hb.tape,z.output.trans hb.output,yo hb.size z.size,fun k hk a1=>(z.block k (yk hk hb.size) a1).trans (hb.block k hk)⟩
   ·show ((a.put (some 34) v').tmps.getD 34 undef).ownBlock=_∨∃g,((a.put (some 34) v').tmps.getD 34 undef).ownBlock=some g∧_
    rw[Bw _ Y.o]
    exact a6.imp id (fun h=>⟨_,h,hb.size⟩)
   ·rw[Al (by decide),m.o] at B;cases B
  |7,_=>
   have d:=hM.old f 5 (by kernel_rfl) _ P
   have l6:b.getD 6 false=true:=hM.Xn f 6 (by kernel_rfl)
   have a8:=hM.Xj f
   have H:=y.o.two l6 a8
   have M:w'.heap[Bx]?=W0.heap[Bx]?:=H.grown.block Bx S (fun e=>by
    have:=(E.lt Bx e.symm).1;omega)
   obtain ⟨u0,V⟩:=U
   have c:=Ap (o:=0) M
   have fz:w'.frozen? (aV Bx 0)=false:=by unfold World.frozen?;rw[M,V];rfl
   have c2:w'.cell? (aV Bx 0)=some va:=c.trans s
   obtain ⟨v,Z⟩:∃v,v=a.tmps.getD 34 undef:=⟨_,rfl⟩
   rw[<-Z] at H
   have HP:=ya H
   rw[yH] at Z
   replace Z:=Z.symm
   have X:Hid (7 < b.size):=ya (by rw[J];show 7 < 8;omega)
   have a2:=ya l6
   obtain ⟨ad,nn,cc,rfl⟩:∃ad n c,v=.slice ad n c:=by
    rcases H.own.2 with ⟨rfl,_⟩|⟨_,_,_,rfl,_⟩
    ·exact ⟨_,_,_,rfl⟩
    ·exact ⟨_,_,_,rfl⟩
   clear s x D F H c M V l6
   obtain rfl:=yh A
   go_simp
   refine ⟨undef,rfl,⟨fun h6=>?_,fun _ B=>?_,fun _=>⟨w',_,HP.o,rfl⟩⟩,trivial,trivial⟩
   ·rw[Al (by decide),a2.o] at h6;cases h6
   ·simp[X.o] at B
 ·intro b a w' O hM
  obtain ⟨w1,v,H,rfl⟩:=hM.ext.three (O 7 (show 7 < 8 by omega))
  exact hQ a w1 v (hM.tmps.trans hz) hM.defers (G7 (lo:=28) (hi:=34) (by kernel_rfl) hM) H
structure N7 (W0:World) (base:Nat) (w:World) (va:Value) (la:List Rf) (vb:Value) (lb:List Rf):Prop where
 below:Below base W0 w
 size:base<=w.heap.size
 a:Dl base w va la
 b:Dl base w vb lb
 apart:∀g,va.ownBlock=some g->vb.ownBlock≠some g
 keep:∀(k:Nat) (o:Obj),W0.heap[k]?=some o->(∀c f,o≠Obj.cells c 23 f)->w.heap[k]?=some o
theorem Dl.not{w:World}{base:Nat}{v:Value}{l:List Rf}(h:Dl base w v l){g:Nat}{o:Obj}(a:v.ownBlock=some g)(e:w.heap[g]?=some o)(i:∀c f,o≠Obj.cells c 23 f):False:=by
 rcases h.2 with ⟨rfl,_⟩|⟨k,cap,d,rfl,_,b,_⟩
 ·cases a
 ·cases a
  rw[e] at b
  exact i _ _ (yh b)
theorem N7.up{W0 w w':World}{base:Nat}{va vb:Value}{la lb:List Rf}(h:N7 W0 base w va la vb lb)(hb:Below w.heap.size w w'):N7 W0 base w' va la vb lb:=
 ⟨h.below.trans (hb.mono h.size),yo h.size hb.size,h.a.up (fun g _ c=>hb.block g c),h.b.up (fun g _ c=>hb.block g c),h.apart,fun k o e d=>by
  have:=h.keep k o e d
  rw[hb.block k (yd.1 this).1];exact this⟩
theorem Dl.lt{w:World}{base:Nat}{v:Value}{l:List Rf}(h:Dl base w v l){g:Nat}(a:v.ownBlock=some g):base<=g∧g < w.heap.size:=World.ownsRow.lt h g a
theorem N7.XG{W0 w w':World}{base:Nat}{va vb c:Value}{la lb j:List Rf}(h:N7 W0 base w va la vb lb)(l:Dl base w' c j)(d:w.grownBy w' va.ownBlock)(i:c.ownBlock=va.ownBlock∨c.ownBlock=some w.heap.size):N7 W0 base w' c j vb lb:=by
 refine ⟨h.below.trans ⟨d.os,d.tape,d.output,d.size,fun k f=>d.block k (yk f h.size) (fun e=>?_)⟩,yo h.size d.size,l,h.b.up (fun g m f=>d.block g f (fun e=>h.apart g e.symm m)),fun g h1 h2=>?_,fun k o p n=>?_⟩
 ·have:=(h.a.lt e.symm).1;omega
 ·rcases i with i|i
  ·rw[i] at h1;exact h.apart g h1 h2
  ·rw[i] at h1;cases h1
   have:=(h.b.lt h2).2;omega
 ·have h1:=h.keep k o p n
  rw[d.block k (yd.1 h1).1 (fun e=>h.a.not e.symm h1 n)];exact h1
theorem N7.swap{W0 w:World}{base:Nat}{va vb:Value}{la lb:List Rf}(h:N7 W0 base w va la vb lb):N7 W0 base w vb lb va la:=⟨h.below,h.size,h.b,h.a,fun g h1 h2=>h.apart g h2 h1,h.keep⟩
def Gp(w:World)(va vb v:Value)(r:Rf):Prop:=∃g,v=.slice (some ⟨g,0,none⟩) 1 1∧w.heap[g]?=some (.cells #[.string r.name,.int .i64 r.n] 23 (0,0))∧va.ownBlock≠some g∧vb.ownBlock≠some g
theorem Gp.up{w w':World}{va vb v:Value}{r:Rf}(h:Gp w va vb v r)(hb:Below w.heap.size w w'):Gp w' va vb v r:=by
 obtain ⟨g,h1,h2,h3⟩:=h
 exact ⟨g,h1,(hb.block g (yd.1 h2).1).trans h2,h3⟩
theorem Gp.grown{w w':World}{va vb v a:Value}{r:Rf}(h:Gp w va vb v r)(d:w.grownBy w' va.ownBlock)(c:a.ownBlock=va.ownBlock∨a.ownBlock=some w.heap.size):Gp w' a vb v r:=by
 obtain ⟨g,h1,h2,h3,h4⟩:=h
 have b:=(yd.1 h2).1
 refine ⟨g,h1,(d.block g b (fun e=>h3 e.symm)).trans h2,fun e=>?_,h4⟩
 rcases c with c|c
 ·exact h3 (c▸e)
 ·rw[c] at e;cases e;exact Nat.lt_irrefl _ b
theorem JQ{W0 w:World}{base:Nat}{va vb:Value}{la lb:List Rf}(h:N7 W0 base w va la vb lb)(r:Rf):Gp (w.alloc (.cells #[.string r.name,.int .i64 r.n] 23)) va vb (.slice (some ⟨w.heap.size,0,none⟩) 1 1) r:=
 ⟨w.heap.size,rfl,World.alloc_heap_new _ _,fun e=>by have:=(h.a.lt e).2;omega,fun e=>by have:=(h.b.lt e).2;omega⟩
structure KD (W0:World) (base B4 B5:Nat) (va:Value) (la:List Rf) (vb:Value) (lb:List Rf) (r1 r2:Rf) (l:Array Bool) (tm:Array Value) (w:World):Prop where
 p00:l.getD 8 false=false->N7 W0 base w va la vb lb∧(l.getD 7 false=true->Gp w va vb (tm.getD 48 undef) r1)∧(l.getD 16 false=true->Gp w va vb (tm.getD 57 undef) r2)
 p10:l.getD 8 false=true->l.getD 17 false=false->N7 W0 base w (tm.getD 49 undef) (la++[r1]) vb lb∧(l.getD 16 false=true->Gp w (tm.getD 49 undef) vb (tm.getD 57 undef) r2)
 p11:l.getD 17 false=true->l.getD 18 false=false->N7 W0 base w (tm.getD 49 undef) (la++[r1]) (tm.getD 58 undef) (lb++[r2])
 p18:l.getD 18 false=true->l.getD 19 false=false->∃w1,N7 W0 base w1 (tm.getD 49 undef) (la++[r1]) (tm.getD 58 undef) (lb++[r2])∧w=w1.setCell ⟨B4,0,none⟩ (tm.getD 49 undef)
 p19:l.getD 19 false=true->∃w1 v1 v2,N7 W0 base w1 v1 (la++[r1]) v2 (lb++[r2])∧w=(w1.setCell ⟨B4,0,none⟩ v1).setCell ⟨B5,0,none⟩ v2
theorem KD.quiet{W0:World}{base B4 B5:Nat}{va vb:Value}{la lb:List Rf}{r1 r2:Rf}{l:Array Bool}{tm:Array Value}{w:World}{i t:Nat}{v:Value}(h:KD W0 base B4 B5 va la vb lb r1 r2 l tm w)(d:l.getD 17 false=false)(e:l.getD 18 false=false)(g:l.getD 19 false=false)
 (hi:i≠7∧i≠8∧i≠16∧i≠17∧i≠18∧i≠19)(r:t≠48∧t≠49∧t≠57):KD W0 base B4 B5 va la vb lb r1 r2 (l.setIfInBounds i true) (tm.setIfInBounds t v) w:=by
 obtain ⟨u,q,b,j,o,p⟩:=hi
 obtain ⟨m,f,a⟩:=r
 refine ⟨fun c=>?_,fun c _=>?_,fun h=>?_,fun h=>?_,fun h=>?_⟩
 ·rw[Al q] at c
  obtain ⟨n,s,k⟩:=h.p00 c
  rw[Al u,Al b,Cj m,Cj a]
  exact ⟨n,s,k⟩
 ·rw[Al q] at c
  obtain ⟨n,k⟩:=h.p10 c d
  rw[Al b,Cj f,Cj a]
  exact ⟨n,k⟩
 ·rw[Al j,d] at h;cases h
 ·rw[Al o,e] at h;cases h
 ·rw[Al p,g] at h;cases h
theorem KD.below{W0:World}{base B4 B5:Nat}{va vb:Value}{la lb:List Rf}{r1 r2:Rf}{l:Array Bool}{tm:Array Value}{w:World}(h:KD W0 base B4 B5 va la vb lb r1 r2 l tm w)(a:l.getD 17 false=false):Below base W0 w∧base<=w.heap.size:=by
 cases b:l.getD 8 false with
 |false=>exact ⟨(h.p00 b).1.below,(h.p00 b).1.size⟩
 |true=>exact ⟨(h.p10 b a).1.below,(h.p10 b a).1.size⟩
def WR(va vb:Value)(B B3 b1 o1 n1 c1 b2 o2 n2 c2 i:Nat)(r1 r2:Rf)(j:Nat)(v:Value)(_:World):Prop:=match j with
 |0=>v=va
 |1=>v=.pointer (some ⟨B,21,none⟩)
 |2=>v=.slice (some ⟨b1,o1,none⟩) n1 c1
 |3=>v=.int .i64 i
 |4=>v=.pointer (some ⟨b1,o1+i*51,none⟩)
 |5=>v=.pointer (some ⟨b1,o1+i*51+1,none⟩)
 |6=>v=.agg #[.string r1.name,.int .i64 r1.n]
 |9=>v=vb
 |10=>v=.pointer (some ⟨B3,21,none⟩)
 |11=>v=.slice (some ⟨b2,o2,none⟩) n2 c2
 |12=>v=.int .i64 i
 |13=>v=.pointer (some ⟨b2,o2+i*51,none⟩)
 |14=>v=.pointer (some ⟨b2,o2+i*51+1,none⟩)
 |15=>v=.agg #[.string r2.name,.int .i64 r2.n]
 |_=>True
theorem WS{a₀:Act}{W0:World}{Q:QT}{base B B3 B4 B5 b1 o1 n1 c1 b2 o2 n2 c2 i:Nat}{va vb:Value}{la lb:List Rf}{r1 r2:Rf}(ops:Array Oper)(a6:GS Try.f14 14=some ops)
 (au:a₀.tmps.getD 1 undef=.pointer (some ⟨B,0,none⟩))(ax:a₀.tmps.getD 3 undef=.pointer (some ⟨B3,0,none⟩))(ac:a₀.tmps.getD 4 undef=.pointer (some ⟨B4,0,none⟩))(ai:a₀.tmps.getD 5 undef=.pointer (some ⟨B5,0,none⟩))(aj:a₀.tmps.getD 8 undef=.int .i64 i)(hz:a₀.tmps.size=64)
 (hB:B < base)(az:B3 < base)(ae:B4 < base)(ak:B5 < base)(an:b1 < base)(ag:b2 < base)(b5:B4≠B5)(J:i < n1)(I:i < n2)
 (ao:∃u,W0.heap[B4]?=some (.cells #[u] 127 (0,0)))(am:∃u,W0.heap[B5]?=some (.cells #[u] 127 (0,0)))(A:W0.cell? ⟨B4,0,none⟩=some va)(E:W0.cell? ⟨B5,0,none⟩=some vb)
 (C:W0.cell? ⟨B,21,none⟩=some (.slice (some ⟨b1,o1,none⟩) n1 c1))(D:W0.cell? ⟨B3,21,none⟩=some (.slice (some ⟨b2,o2,none⟩) n2 c2))
 (y:W0.cell? ⟨b1,o1+i*51+1,none⟩=some (.string r1.name))(z:W0.cell? ⟨b1,o1+i*51+1+1,none⟩=some (.int .i64 r1.n))(G:W0.cell? ⟨b2,o2+i*51+1,none⟩=some (.string r2.name))(F:W0.cell? ⟨b2,o2+i*51+1+1,none⟩=some (.int .i64 r2.n))
 (h2:N7 W0 base W0 va la vb lb)(b4:la.length+1<=1000000000)(aw:lb.length+1<=1000000000)
 (hQ:∀(a:Act) w1 v1 v2,a.tmps.size=64->a.defers=a₀.defers->(∀t,(t < 41∨58 < t)->a.tmps.getD t undef=a₀.tmps.getD t undef)->N7 W0 base w1 v1 (la++[r1]) v2 (lb++[r2])->Q .normal a ((w1.setCell ⟨B4,0,none⟩ v1).setCell ⟨B5,0,none⟩ v2)):
  (Code.region 14 ops true).wp Try.prog Q a₀ W0:=by
 obtain rfl:=yh ((rfl:GS Try.f14 14=some _).symm.trans a6)
 clear a6
 refine Ee (by kernel_rfl) (KD W0 base B4 B5 va la vb lb r1 r2) (WR va vb B B3 b1 o1 n1 c1 b2 o2 n2 c2 i r1 r2) (fun _ _ _=>True) (by kernel_rfl) (by rw[hz];kernel_rfl) (by kernel_rfl) (fun _ j v w w' _ _ _ h=>by unfold WR at h ⊢;exact h) ⟨fun _=>⟨h2.up (yc _ _).drew,fun h=>(by cases h),fun h=>(by cases h)⟩,fun h=>(by cases h),fun h=>(by cases h),fun h=>(by cases h),fun h=>(by cases h)⟩ ?_ ?_
 ·clear h2
  intro ix f a w' hM x o L
  have H:=ya hM.ext
  have ay:=(yd.1 L).1
  have Z:=hM.size
  have K:f.getD 17 false=false->f.getD 18 false=false∧f.getD 19 false=false:=fun n=>by
   constructor
   ·rw[yj];intro h7
    have:=A3 hM.down 20 18 17 (by kernel_rfl) h7
    rw[n] at this;cases this
   ·rw[yj];intro h7
    have:=A3 hM.down 20 19 17 (by kernel_rfl) h7
    rw[n] at this;cases this
  match ix,ay with
  |0,_=>
   have d:=hM.old x 4 (by kernel_rfl) _ ac
   have k:f.getD 17 false=false:=by
    rw[yj];intro h6
    have:=A3 hM.down 20 17 0 (by kernel_rfl) h6
    rw[hM.Xj x] at this;cases this
   obtain ⟨q,l⟩:=K k
   have hb:=(H.o.below k).1
   have r:=ya k;have s:=ya q;have m:=ya l
   clear k q l
   have c:=(hb.cell (p:=(aV B4 0)) ae).trans A
   clear A E C D y G z F J I K hb
   obtain rfl:=yh L
   go_simp
   exact ⟨_,rfl,H.o.quiet r.o s.o m.o (by decide) (by decide),trivial,rfl⟩
  |1,_=>
   have d:=hM.old x 1 (by kernel_rfl) _ au
   have k:f.getD 17 false=false:=by
    rw[yj];intro h6
    have:=A3 hM.down 20 17 1 (by kernel_rfl) h6
    rw[hM.Xj x] at this;cases this
   obtain ⟨q,l⟩:=K k
   have hb:=(H.o.below k).1
   have r:=ya k;have s:=ya q;have m:=ya l
   clear k q l A E C D y G z F J I K hb
   obtain rfl:=yh L
   go_simp
   exact ⟨_,rfl,H.o.quiet r.o s.o m.o (by decide) (by decide),trivial,rfl⟩
  |2,_=>
   have d:a.tmps[42]?.getD undef=pV B 21:=hM.Xk x 1 42 (by kernel_rfl) (by kernel_rfl)
   have k:f.getD 17 false=false:=by
    rw[yj];intro h6
    have:=A3 hM.down 20 17 2 (by kernel_rfl) h6
    rw[hM.Xj x] at this;cases this
   obtain ⟨q,l⟩:=K k
   have hb:=(H.o.below k).1
   have r:=ya k;have s:=ya q;have m:=ya l
   clear k q l
   have c:=(hb.cell (p:=(aV B 21)) hB).trans C
   clear A E C D y G z F J I K hb
   obtain rfl:=yh L
   go_simp
   exact ⟨_,rfl,H.o.quiet r.o s.o m.o (by decide) (by decide),trivial,rfl⟩
  |3,_=>
   have d:=hM.old x 8 (by kernel_rfl) _ aj
   have k:f.getD 17 false=false:=by
    rw[yj];intro h6
    have:=A3 hM.down 20 17 3 (by kernel_rfl) h6
    rw[hM.Xj x] at this;cases this
   obtain ⟨q,l⟩:=K k
   have hb:=(H.o.below k).1
   have r:=ya k;have s:=ya q;have m:=ya l
   clear k q l A E C D y G z F J I K hb
   obtain rfl:=yh L
   go_simp
   exact ⟨_,rfl,H.o.quiet r.o s.o m.o (by decide) (by decide),trivial,rfl⟩
  |4,_=>
   have d1:a.tmps[43]?.getD undef=.slice (some (aV b1 o1)) n1 c1:=hM.Xk x 2 43 (by kernel_rfl) (by kernel_rfl)
   have d2:a.tmps[44]?.getD undef=iV i:=hM.Xk x 3 44 (by kernel_rfl) (by kernel_rfl)
   have aq:(i:Int) < (n1:Int):=by omega
   have k:f.getD 17 false=false:=by
    rw[yj];intro h6
    have:=A3 hM.down 20 17 4 (by kernel_rfl) h6
    rw[hM.Xj x] at this;cases this
   obtain ⟨q,l⟩:=K k
   have hb:=(H.o.below k).1
   have r:=ya k;have s:=ya q;have m:=ya l
   clear k q l A E C D y G z F J I K hb
   obtain rfl:=yh L
   go_simp
   exact ⟨_,rfl,H.o.quiet r.o s.o m.o (by decide) (by decide),trivial,rfl⟩
  |5,_=>
   have d:a.tmps[45]?.getD undef=pV b1 (o1+i*51):=hM.Xk x 4 45 (by kernel_rfl) (by kernel_rfl)
   have k:f.getD 17 false=false:=by
    rw[yj];intro h6
    have:=A3 hM.down 20 17 5 (by kernel_rfl) h6
    rw[hM.Xj x] at this;cases this
   obtain ⟨q,l⟩:=K k
   have hb:=(H.o.below k).1
   have r:=ya k;have s:=ya q;have m:=ya l
   clear k q l A E C D y G z F J I K hb
   obtain rfl:=yh L
   go_simp
   exact ⟨_,rfl,H.o.quiet r.o s.o m.o (by decide) (by decide),trivial,rfl⟩
  |6,_=>
   have d:a.tmps[46]?.getD undef=pV b1 (o1+i*51+1):=hM.Xk x 5 46 (by kernel_rfl) (by kernel_rfl)
   have k:f.getD 17 false=false:=by
    rw[yj];intro h6
    have:=A3 hM.down 20 17 6 (by kernel_rfl) h6
    rw[hM.Xj x] at this;cases this
   obtain ⟨q,l⟩:=K k
   have hb:=(H.o.below k).1
   have r:=ya k;have s:=ya q;have m:=ya l
   clear k q l
   have c:=(hb.cell (p:=(aV b1 (o1+i*51+1))) an).trans y
   have c1:=(hb.cell (p:=(aV b1 (o1+i*51+1+1))) an).trans z
   clear A E C D y G z F J I K hb
   obtain rfl:=yh L
   go_simp
   exact ⟨_,rfl,H.o.quiet r.o s.o m.o (by decide) (by decide),trivial,rfl⟩
  |7,_=>
   have d:a.tmps[47]?.getD undef=.agg #[.string r1.name,iV r1.n]:=hM.Xk x 6 47 (by kernel_rfl) (by kernel_rfl)
   have k:f.getD 17 false=false:=by
    rw[yj];intro h6
    have:=A3 hM.down 20 17 7 (by kernel_rfl) h6
    rw[hM.Xj x] at this;cases this
   obtain ⟨q,l⟩:=K k
   have hb:=(H.o.below k).1
   have r:=ya k;have s:=ya q;have m:=ya l
   clear k q l
   have n8:f.getD 8 false=false:=by
    rw[yj];intro h6
    have:=A3 hM.down 20 8 7 (by kernel_rfl) h6
    rw[hM.Xj x] at this;cases this
   have ap:=ya n8
   have V:=ya (H.o.p00 n8)
   have Y:Hid (48 < a.tmps.size):=ya (by rw[hM.tmps,hz];decide)
   clear n8 A E C D y G z F J I K hb
   obtain rfl:=yh L
   go_simp
   have T:Below w'.heap.size w' (w'.alloc (.cells #[.string r1.name,iV r1.n] 23)):=(yc _ _).alloc (ye _) _
   refine ⟨_,rfl,⟨fun _=>⟨V.o.1.up T,fun _=>?_,fun X=>?_⟩,fun M=>?_,fun h=>?_,fun h=>?_,fun h=>?_⟩,trivial,trivial⟩
   ·rw[Bw _ Y.o];exact JQ V.o.1 r1
   ·rw[Al (by decide)] at X
    rw[D5 _ (by decide)]
    exact (V.o.2.2 X).up T
   ·rw[Al (by decide),ap.o] at M;cases M
   ·rw[Al (by decide),r.o] at h;cases h
   ·rw[Al (by decide),s.o] at h;cases h
   ·rw[Al (by decide),m.o] at h;cases h
  |8,_=>
   have d:a.tmps[41]?.getD undef=va:=hM.Xk x 0 41 (by kernel_rfl) (by kernel_rfl)
   have k:f.getD 17 false=false:=by
    rw[yj];intro h6
    have:=A3 hM.down 20 17 8 (by kernel_rfl) h6
    rw[hM.Xj x] at this;cases this
   obtain ⟨q,l⟩:=K k
   have hb:=(H.o.below k).1
   have r:=ya k;have s:=ya q;have m:=ya l
   clear k q l
   have n8:=hM.Xj x
   have l7:f.getD 7 false=true:=hM.Xn x 7 (by kernel_rfl)
   obtain ⟨U,k2,k3⟩:=H.o.p00 n8
   obtain ⟨g,ah,hg,_,_⟩:=k2 l7
   have HL:Hid (8 < f.size):=ya (by rw[Z];show 8 < 20;omega)
   have Y:Hid (49 < a.tmps.size):=ya (by rw[hM.tmps,hz];decide)
   rw[yH] at ah
   refine Ft base (.tmp 41) (.tmp 48) (by obtain rfl:=yh L;rfl) va la (by simpa[Act.eval] using d) U.a r1 g 1 (by simpa[Act.eval] using ah) hg b4 U.size ?_
   intro v' w5 O a2 a1
   obtain rfl:=yh L
   refine ⟨v',rfl,⟨fun M=>?_,fun _ _=>⟨?_,fun X=>?_⟩,fun h=>?_,fun h=>?_,fun h=>?_⟩,trivial,trivial⟩
   ·simp[HL.o] at M
   ·show N7 W0 base w5 ((a.put (some 49) v').tmps.getD 49 undef) _ vb lb
    rw[Bw _ Y.o];exact U.XG O a2 a1
   ·rw[Al (by decide)] at X
    show Gp w5 ((a.put (some 49) v').tmps.getD 49 undef) vb ((a.put (some 49) v').tmps.getD 57 undef) r2
    rw[Bw _ Y.o,D5 _ (by decide)]
    exact (k3 X).grown a2 a1
   ·rw[Al (by decide),r.o] at h;cases h
   ·rw[Al (by decide),s.o] at h;cases h
   ·rw[Al (by decide),m.o] at h;cases h
  |9,_=>
   have d:=hM.old x 5 (by kernel_rfl) _ ai
   have k:f.getD 17 false=false:=by
    rw[yj];intro h6
    have:=A3 hM.down 20 17 9 (by kernel_rfl) h6
    rw[hM.Xj x] at this;cases this
   obtain ⟨q,l⟩:=K k
   have hb:=(H.o.below k).1
   have r:=ya k;have s:=ya q;have m:=ya l
   clear k q l
   have c:=(hb.cell (p:=(aV B5 0)) ak).trans E
   clear A E C D y G z F J I K hb
   obtain rfl:=yh L
   go_simp
   exact ⟨_,rfl,H.o.quiet r.o s.o m.o (by decide) (by decide),trivial,rfl⟩
  |10,_=>
   have d:=hM.old x 3 (by kernel_rfl) _ ax
   have k:f.getD 17 false=false:=by
    rw[yj];intro h6
    have:=A3 hM.down 20 17 10 (by kernel_rfl) h6
    rw[hM.Xj x] at this;cases this
   obtain ⟨q,l⟩:=K k
   have hb:=(H.o.below k).1
   have r:=ya k;have s:=ya q;have m:=ya l
   clear k q l A E C D y G z F J I K hb
   obtain rfl:=yh L
   go_simp
   exact ⟨_,rfl,H.o.quiet r.o s.o m.o (by decide) (by decide),trivial,rfl⟩
  |11,_=>
   have d:a.tmps[51]?.getD undef=pV B3 21:=hM.Xk x 10 51 (by kernel_rfl) (by kernel_rfl)
   have k:f.getD 17 false=false:=by
    rw[yj];intro h6
    have:=A3 hM.down 20 17 11 (by kernel_rfl) h6
    rw[hM.Xj x] at this;cases this
   obtain ⟨q,l⟩:=K k
   have hb:=(H.o.below k).1
   have r:=ya k;have s:=ya q;have m:=ya l
   clear k q l
   have c:=(hb.cell (p:=(aV B3 21)) az).trans D
   clear A E C D y G z F J I K hb
   obtain rfl:=yh L
   go_simp
   exact ⟨_,rfl,H.o.quiet r.o s.o m.o (by decide) (by decide),trivial,rfl⟩
  |12,_=>
   have d:=hM.old x 8 (by kernel_rfl) _ aj
   have k:f.getD 17 false=false:=by
    rw[yj];intro h6
    have:=A3 hM.down 20 17 12 (by kernel_rfl) h6
    rw[hM.Xj x] at this;cases this
   obtain ⟨q,l⟩:=K k
   have hb:=(H.o.below k).1
   have r:=ya k;have s:=ya q;have m:=ya l
   clear k q l A E C D y G z F J I K hb
   obtain rfl:=yh L
   go_simp
   exact ⟨_,rfl,H.o.quiet r.o s.o m.o (by decide) (by decide),trivial,rfl⟩
  |13,_=>
   have d1:a.tmps[52]?.getD undef=.slice (some (aV b2 o2)) n2 c2:=hM.Xk x 11 52 (by kernel_rfl) (by kernel_rfl)
   have d2:a.tmps[53]?.getD undef=iV i:=hM.Xk x 12 53 (by kernel_rfl) (by kernel_rfl)
   have aq:(i:Int) < (n2:Int):=by omega
   have k:f.getD 17 false=false:=by
    rw[yj];intro h6
    have:=A3 hM.down 20 17 13 (by kernel_rfl) h6
    rw[hM.Xj x] at this;cases this
   obtain ⟨q,l⟩:=K k
   have hb:=(H.o.below k).1
   have r:=ya k;have s:=ya q;have m:=ya l
   clear k q l A E C D y G z F J I K hb
   obtain rfl:=yh L
   go_simp
   exact ⟨_,rfl,H.o.quiet r.o s.o m.o (by decide) (by decide),trivial,rfl⟩
  |14,_=>
   have d:a.tmps[54]?.getD undef=pV b2 (o2+i*51):=hM.Xk x 13 54 (by kernel_rfl) (by kernel_rfl)
   have k:f.getD 17 false=false:=by
    rw[yj];intro h6
    have:=A3 hM.down 20 17 14 (by kernel_rfl) h6
    rw[hM.Xj x] at this;cases this
   obtain ⟨q,l⟩:=K k
   have hb:=(H.o.below k).1
   have r:=ya k;have s:=ya q;have m:=ya l
   clear k q l A E C D y G z F J I K hb
   obtain rfl:=yh L
   go_simp
   exact ⟨_,rfl,H.o.quiet r.o s.o m.o (by decide) (by decide),trivial,rfl⟩
  |15,_=>
   have d:a.tmps[55]?.getD undef=pV b2 (o2+i*51+1):=hM.Xk x 14 55 (by kernel_rfl) (by kernel_rfl)
   have k:f.getD 17 false=false:=by
    rw[yj];intro h6
    have:=A3 hM.down 20 17 15 (by kernel_rfl) h6
    rw[hM.Xj x] at this;cases this
   obtain ⟨q,l⟩:=K k
   have hb:=(H.o.below k).1
   have r:=ya k;have s:=ya q;have m:=ya l
   clear k q l
   have c:=(hb.cell (p:=(aV b2 (o2+i*51+1))) ag).trans G
   have c1:=(hb.cell (p:=(aV b2 (o2+i*51+1+1))) ag).trans F
   clear A E C D y G z F J I K hb
   obtain rfl:=yh L
   go_simp
   exact ⟨_,rfl,H.o.quiet r.o s.o m.o (by decide) (by decide),trivial,rfl⟩
  |16,_=>
   have d:a.tmps[56]?.getD undef=.agg #[.string r2.name,iV r2.n]:=hM.Xk x 15 56 (by kernel_rfl) (by kernel_rfl)
   have k:f.getD 17 false=false:=by
    rw[yj];intro h6
    have:=A3 hM.down 20 17 16 (by kernel_rfl) h6
    rw[hM.Xj x] at this;cases this
   obtain ⟨q,l⟩:=K k
   have hb:=(H.o.below k).1
   have r:=ya k;have s:=ya q;have m:=ya l
   clear k q l
   have Y:Hid (57 < a.tmps.size):=ya (by rw[hM.tmps,hz];decide)
   clear A E C D y G z F J I K hb
   obtain rfl:=yh L
   go_simp
   have T:Below w'.heap.size w' (w'.alloc (.cells #[.string r2.name,iV r2.n] 23)):=(yc _ _).alloc (ye _) _
   refine ⟨_,rfl,⟨fun M=>?_,fun M _=>?_,fun h=>?_,fun h=>?_,fun h=>?_⟩,trivial,trivial⟩
   ·rw[Al (by decide)] at M
    obtain ⟨U,k2,k3⟩:=H.o.p00 M
    refine ⟨U.up T,fun h7=>?_,fun _=>?_⟩
    ·rw[Al (by decide)] at h7
     rw[D5 _ (by decide)]
     exact (k2 h7).up T
    ·rw[Bw _ Y.o];exact JQ U r2
   ·rw[Al (by decide)] at M
    obtain ⟨U,k3⟩:=H.o.p10 M r.o
    rw[D5 _ (by decide),Bw _ Y.o]
    exact ⟨U.up T,fun _=>JQ U r2⟩
   ·rw[Al (by decide),r.o] at h;cases h
   ·rw[Al (by decide),s.o] at h;cases h
   ·rw[Al (by decide),m.o] at h;cases h
  |17,_=>
   have d:a.tmps[50]?.getD undef=vb:=hM.Xk x 9 50 (by kernel_rfl) (by kernel_rfl)
   have k:=hM.Xj x
   obtain ⟨q,l⟩:=K k
   have l8:f.getD 8 false=true:=hM.Xn x 8 (by kernel_rfl)
   have ar:f.getD 16 false=true:=hM.Xn x 16 (by kernel_rfl)
   obtain ⟨U,k3⟩:=H.o.p10 l8 k
   obtain ⟨g,af,hg,_,_⟩:=k3 ar
   have HL:Hid (17 < f.size):=ya (by rw[Z];show 17 < 20;omega)
   have Y:Hid (58 < a.tmps.size):=ya (by rw[hM.tmps,hz];decide)
   rw[yH] at af
   refine Ft base (.tmp 50) (.tmp 57) (by obtain rfl:=yh L;rfl) vb lb (by simpa[Act.eval] using d) U.b r2 g 1 (by simpa[Act.eval] using af) hg aw U.size ?_
   intro v' w5 O a2 a1
   obtain rfl:=yh L
   refine ⟨v',rfl,⟨fun M=>?_,fun _ P=>?_,fun _ _=>?_,fun h=>?_,fun h=>?_⟩,trivial,trivial⟩
   ·rw[Al (by decide),l8] at M;cases M
   ·simp[HL.o] at P
   ·show N7 W0 base w5 ((a.put (some 58) v').tmps.getD 49 undef) _ ((a.put (some 58) v').tmps.getD 58 undef) _
    rw[Bw _ Y.o,D5 _ (by decide)]
    exact (U.swap.XG O a2 a1).swap
   ·rw[Al (by decide),q] at h;cases h
   ·rw[Al (by decide),l] at h;cases h
  |18,_=>
   have d:=hM.old x 4 (by kernel_rfl) _ ac
   have N:f.getD 17 false=true:=hM.Xn x 17 (by kernel_rfl)
   have nk:=hM.Xj x
   have l:f.getD 19 false=false:=by
    rw[yj];intro h6
    have:=A3 hM.down 20 19 18 (by kernel_rfl) h6
    rw[nk] at this;cases this
   have V:=ya (H.o.p11 N nk)
   have m:=ya l;have W:=ya N
   have hv:∃ad n c,a.tmps[49]?.getD undef=.slice ad n c:=by
    rw[<-yH]
    rcases V.o.a.2 with ⟨e,_⟩|⟨_,_,_,e,_⟩
    ·exact ⟨_,_,_,e⟩
    ·exact ⟨_,_,_,e⟩
   have R:w'.heap[B4]?=W0.heap[B4]?:=V.o.below.block B4 ae
   have l8:f.getD 8 false=true:=A3 hM.down 20 17 8 (by kernel_rfl) N
   have aa:=ya l8
   obtain ⟨ad,nv,cv,dv⟩:=hv
   have HV:=ya dv
   obtain ⟨u0,S⟩:=ao
   have fz:w'.frozen? (aV B4 0)=false:=by unfold World.frozen?;rw[R,S];rfl
   have c2:w'.cell? (aV B4 0)=some u0:=by simp[World.cell?,R,S]
   have HL:Hid (18 < f.size):=ya (by rw[Z];show 18 < 20;omega)
   clear A E C D y G z F J I K R S l8 N
   obtain rfl:=yh L
   go_simp
   refine ⟨undef,rfl,⟨fun M=>?_,fun _ P=>?_,fun _ a0=>?_,fun _ _=>⟨w',V.o,?_⟩,fun h=>?_⟩,trivial,trivial⟩
   ·rw[Al (by decide),aa.o] at M;cases M
   ·rw[Al (by decide),W.o] at P;cases P
   ·simp[HL.o] at a0
   ·rw[yH];show w'.setCell _ _=w'.setCell _ (a.tmps[49]?.getD undef);rw[HV.o]
   ·rw[Al (by decide),m.o] at h;cases h
  |19,_=>
   have d:=hM.old x 5 (by kernel_rfl) _ ai
   have a7:f.getD 18 false=true:=hM.Xn x 18 (by kernel_rfl)
   have N:f.getD 17 false=true:=A3 hM.down 20 18 17 (by kernel_rfl) a7
   have nk:=hM.Xj x
   obtain ⟨w1,hp,a8⟩:=H.o.p18 a7 nk
   have V:=ya hp;have b3:=ya a8;have W:=ya N;have al:=ya a7
   have hv:∃ad n c,a.tmps[58]?.getD undef=.slice ad n c:=by
    rw[<-yH]
    rcases V.o.b.2 with ⟨e,_⟩|⟨_,_,_,e,_⟩
    ·exact ⟨_,_,_,e⟩
    ·exact ⟨_,_,_,e⟩
   have R:w'.heap[B5]?=W0.heap[B5]?:=by
    rw[a8,zf _ _ _ _ (fun e=>b5 e.symm)];exact V.o.below.block B5 ak
   clear a8 hp
   have l8:f.getD 8 false=true:=A3 hM.down 20 17 8 (by kernel_rfl) N
   have aa:=ya l8
   obtain ⟨ad,nv,cv,dv⟩:=hv
   have HV:=ya dv
   obtain ⟨u0,S⟩:=am
   have fz:w'.frozen? (aV B5 0)=false:=by unfold World.frozen?;rw[R,S];rfl
   have c2:w'.cell? (aV B5 0)=some u0:=by simp[World.cell?,R,S]
   have HL:Hid (19 < f.size):=ya (by rw[Z];show 19 < 20;omega)
   clear A E C D y G z F J I K R S l8 N
   obtain rfl:=yh L
   go_simp
   refine ⟨undef,rfl,⟨fun M=>?_,fun _ P=>?_,fun _ a0=>?_,fun _ av=>?_,fun _=>⟨w1,_,_,V.o,?_⟩⟩,trivial,trivial⟩
   ·rw[Al (by decide),aa.o] at M;cases M
   ·rw[Al (by decide),W.o] at P;cases P
   ·rw[Al (by decide),al.o] at a0;cases a0
   ·simp[HL.o] at av
   ·rw[<-b3.o,yH];show w'.setCell _ _=w'.setCell _ (a.tmps[58]?.getD undef);rw[HV.o]
 ·intro f a w' ab hM
  obtain ⟨w1,v1,v2,hp,rfl⟩:=hM.ext.p19 (ab 19 (show 19 < 20 by omega))
  exact hQ a w1 v1 v2 (hM.tmps.trans hz) hM.defers (G7 (lo:=41) (hi:=58) (by kernel_rfl) hM) hp
def Uv(w:World)(h:AF)(l:List Rf):Prop:=h.n=l.length∧l.length<=140737488355328∧∀i (hi:i < l.length),∃b o,h.a=some ⟨b,o,none⟩∧b < w.heap.size∧w.cell? ⟨b,o+i*2,none⟩=some (.string l[i].name)∧w.cell? ⟨b,o+i*2+1,none⟩=some (.int .i64 l[i].n)
theorem Rk{a b:ByteArray}(h:a.toList=b.toList):a=b:=by
 rw[zC,zC] at h
 cases a;cases b;simpa using h
theorem Mt{w:World}{h1 h2:AF}{a b:List Rf}(r1:Uv w h1 a)(r2:Uv w h2 b):
  Calls Try.prog 64 #[h1.v,h2.v] w fun e w'=>e=.returned (.bool (decide (a=b)))∧Below w.heap.size w w':=by
 obtain ⟨R,n1,c1⟩:=h1
 obtain ⟨Q,n2,c2⟩:=h2
 have R1:=ya r1.2.2;have R2:=ya r2.2.2
 have q:=ya r1.1;have r:=ya r2.1
 have G:n1<=140737488355328:=by have:=r1.1;have:=r1.2.1;simp only at*;omega
 have z:n2<=140737488355328:=by have:=r2.1;have:=r2.2.1;simp only at*;omega
 unfold AF.v
 simp only at R1 R2 q r ⊢
 clear r1 r2
 by_cases F:n1=n2
 ·subst F
  have y:((n1:Int) !=(n1:Int))=false:=by simp
  go_enter Try.func64,Try.ntmps64
  go_wp2
  have x:=ya (yc w.heap.size w)
  go_loopw [13] (fun u wr=>∃i:Nat,i<=n1∧u=iV i∧Hid (a.take i=b.take i)∧Hid (Below w.heap.size w wr)) (fun u _=>n1 - (intOf u).toNat)
  case atStart=>exact ⟨0,yv _,rfl,ya (by simp),x⟩
  case round=>
   obtain ⟨i,hi,rfl,E,c⟩:=hrel
   by_cases n:i < n1
   ·have A:(i:Int) < (n1:Int):=by omega
    have j:i < a.length:=by rw[<-q.o];exact n
    have k:i < b.length:=by rw[<-r.o];exact n
    obtain ⟨b1,o1,rfl,g,x1,y1⟩:=R1.o i j
    obtain ⟨b2,o2,rfl,l,x2,B⟩:=R2.o i k
    have m:Hid (a[i]=b[i]->a.take (i+1)=b.take (i+1)):=ya (fun e=>by
     rw[yr j,yr k,E.o,e])
    have f:Hid (a[i]≠b[i]->decide (a=b)=false):=ya (fun e=>zH (fun h=>e (by subst h;rfl)))
    generalize a[i]=K at x1 y1 m f
    generalize b[i]=M at x2 B m f
    obtain ⟨m1,I⟩:=K
    obtain ⟨t,H⟩:=M
    have O:wr.cell? (aV b1 (o1+i*2))=some (.string m1):=(c.o.cell (p:=(aV b1 _)) g).trans x1
    have N:wr.cell? (aV b1 (o1+i*2+1))=some (iV I):=(c.o.cell (p:=(aV b1 _)) g).trans y1
    have L:wr.cell? (aV b2 (o2+i*2))=some (.string t):=(c.o.cell (p:=(aV b2 _)) l).trans x2
    have J:wr.cell? (aV b2 (o2+i*2+1))=some (iV H):=(c.o.cell (p:=(aV b2 _)) l).trans B
    clear x1 y1 x2 B j k g l
    by_cases s:m1.toList=t.toList
    ·obtain rfl:m1=t:=Rk s
     clear s
     by_cases D:I=H
     ·subst D
      have C:=ya (m.o rfl)
      clear m f
      go_wp2_with fail
      go_region
      go_wp2
      exact ⟨⟨i+1,by omega,by push_cast;rfl,C,ya c.o.drew⟩,by simp[intOf];omega⟩
     ·have d:=ya (f.o (fun h=>D (Rf.mk.inj h).2))
      clear m f
      go_wp2_with fail
      go_region
      go_wp2
      go_ret
      exact ⟨by rw[d.o];rfl,c.o.drew⟩
    ·have d:=ya (f.o (fun h=>s (by rw[(Rf.mk.inj h).1])))
     clear m f
     go_wp2_with fail
     go_region
     go_wp2
     go_ret
     exact ⟨by rw[d.o];rfl,c.o.drew⟩
   ·obtain rfl:i=n1:=by omega
    have A:decide ((i:Int) < (i:Int))=false:=by simp
    go_wp2
    go_ret
    have P:a=b:=by
     have h1:=E.o
     rw[q.o,yx,<-q.o,r.o,yx] at h1
     exact h1
    exact ⟨by rw[xS P];rfl,c.o⟩
 ·have y:((n1:Int) !=(n2:Int))=true:=by simp;omega
  go_enter Try.func64,Try.ntmps64
  go_wp2
  go_ret
  exact ⟨by rw[zH (fun h=>F (by rw[q.o,r.o,h]))];rfl,yc _ _⟩
structure El (W0:World) (Bx:Nat) (l:List Rf) (O:Nat->Prop) (V:World):Prop where
 grown:W0.grownBy V (some Bx)
 ownO:∀b,O b->W0.heap.size<=b
 row:∃v,V.heap[Bx]?=some (.cells #[v] 127 (0,0))∧Dl W0.heap.size V v l∧∀g,v.ownBlock=some g->¬ O g
section
variable{W0 V w1:World}{Bx:Nat}{l:List Rf}{O:NP}
theorem El.stays(t:Bx < W0.heap.size)(f:Nat->List Rf):Ep (fun k=>El W0 Bx (f k)):=by
 intro k O W u W' h r p q s d n
 obtain ⟨v,r1,r2,o⟩:=h.row
 have i:=h.grown.size
 have m:W'.heap[Bx]?=W.heap[Bx]?:=d Bx (fun hb=>by have:=h.ownO Bx hb;omega) (by omega)
 refine ⟨⟨p.trans h.grown.os,q.trans h.grown.tape,s.trans h.grown.output,yo i r,fun b hb l=>(d b (fun j=>by have:=h.ownO b j;omega) (by omega)).trans (h.grown.block b hb l)⟩,fun b hb=>?_,v,m.trans r1,r2.up (fun g a c=>d g (o g a) c),fun g a e=>?_⟩
 ·rcases n b hb with h1|h1
  ·exact h.ownO b h1
  ·omega
 ·rcases n g e with h1|h1
  ·exact o g a h1
  ·have:=(r2.lt a).2;omega
theorem El.same(h:El W0 Bx l O V){b:Nat}(hb:b < W0.heap.size)(a:b≠Bx):V.heap[b]?=W0.heap[b]?:=h.grown.block b hb (fun e=>a (yh e))
theorem El.start(W0:World)(hb:W0.heap[Bx]?=some (.cells #[.slice none 0 0] 127 (0,0))):El W0 Bx [] (fun _=>False) W0:=
 ⟨⟨rfl,rfl,rfl,ye _,fun _ _ _=>rfl⟩,fun _ h=>h.elim,_,hb,T7 _ _,fun g a=>by cases a⟩
theorem El.put(h:El W0 Bx l O V)(w:Bx < W0.heap.size)(p:∀b,O b->b < V.heap.size){va v:Value}{r:Rf}(n:V.cell? ⟨Bx,0,none⟩=some va)(d:Uu V W0.heap.size va l r w1 v):El W0 Bx (l++[r]) O (w1.setCell ⟨Bx,0,none⟩ v)∧Cd O V (w1.setCell ⟨Bx,0,none⟩ v):=by
 obtain ⟨v0,r1,r2,q⟩:=h.row
 obtain rfl:va=v0:=by
  have e:V.cell? (aV Bx 0)=some v0:=by simp[World.cell?,r1]
  rw[n] at e;exact yh e
 have i:∀g,va.ownBlock=some g->W0.heap.size<=g:=fun g j=>(r2.lt j).1
 have o:w1.heap[Bx]?=V.heap[Bx]?:=d.grown.block Bx (by have:=h.grown.size;omega) (fun e=>by have:=i _ e.symm;omega)
 have x:=h.grown.size
 have t:=d.grown.size
 have f:∀b,b≠Bx->(w1.setCell (aV Bx 0) v).heap[b]?=w1.heap[b]?:=fun b c=>zf _ _ _ _ c
 have a:∀b,b≠Bx->b < V.heap.size->va.ownBlock≠some b->(w1.setCell (aV Bx 0) v).heap[b]?=V.heap[b]?:=fun b c m s=>(f b c).trans (d.grown.block b m (fun e=>s e.symm))
 refine ⟨⟨⟨d.grown.os.trans h.grown.os,d.grown.tape.trans h.grown.tape,d.grown.output.trans h.grown.output,by simp;omega,fun b hb c=>?_⟩,h.ownO,v,?_,d.own.up (fun g j _=>f g (fun e=>by have:=(d.own.lt j).1;omega)),fun g j k=>?_⟩,by simp;omega,fun b hb=>?_⟩
 ·rw[a b (fun e=>c (by rw[e])) (by omega) (fun e=>by have:=i _ e;omega)]
  exact h.grown.block b hb c
 ·have:=zk w1 Bx 0 #[va] 127 v (o.trans r1)
  rw[this];rfl
 ·rcases d.blk with e|⟨y,e,u⟩
  ·rw[e] at j;exact q g j k
  ·rw[e] at j;cases j
   have:=p g k;omega
 ·exact a b (fun e=>by have:=h.ownO b hb;omega) (p b hb) (fun e=>q b e hb)
end
section
variable{f:Int->Ex->Ex}{g:Int->Rf->Rf}
def OG(f:Int->Ex->Ex)(e:Kp):Kp:=(f e.2 e.1,e.2)
theorem CX{α β:Type}(F:Nat->α->β)(l:List α):(l.mapIdx F).zipIdx=l.zipIdx.map fun p=>(F p.2 p.1,p.2):=by
 apply zw
 ·simp
 ·intro i h1 h2;simp
theorem Uw(l:List E8):JB (l.mapIdx (E8.mp f))=(JB l).map (OG f):=by
 unfold JB;rw[CX,zS,zT];rfl
theorem T8(l:List Cp):Gb (l.mapIdx (Cp.mp f))=(Gb l).map (OG f):=by
 unfold Gb;rw[CX,zS,zT];rfl
theorem Q4(l:List AI):Eb (l.mapIdx (AI.mp f g))=(Eb l).map (OG f):=by
 unfold Eb;rw[CX,zS,zT];rfl
theorem T9(l:List BN):Gc (l.mapIdx (BN.mp f g))=(Gc l).map (OG f):=by
 unfold Gc;rw[CX,zS,zT];rfl
theorem Ta(l:List BM):DY (l.mapIdx (BM.mp f g))=(DY l).map (OG f):=by
 unfold DY;rw[CX,zS,zT];rfl
theorem Ux(l:List AS):Iv (l.mapIdx (AS.mp f g))=(Iv l).map (OG f):=by
 unfold Iv;rw[CX,zS,zT]
 congr 1
 funext p
 rw[ze,<-Ta (g:=g)]
 rfl
theorem Rl(l:List AJ):EM (l.mapIdx (AJ.mp f g))=(EM l).map (OG f):=by
 unfold EM;rw[CX,zS,zT];rfl
theorem Rm(l:List BV):EN (l.mapIdx (BV.mp f g))=(EN l).map (OG f):=by
 unfold EN;rw[CX,zS,zT];rfl
theorem OH(x:AA):Bb (x.mp f g)=(Bb x).map (OG f):=by
 unfold Bb AA.mp
 simp only[ze,<-Uw,<-T8,<-Q4 (g:=g),<-T9 (g:=g),<-Ux (g:=g),<-Rl (g:=g),<-Rm (g:=g)]
 rfl
theorem ED{α β:Type}{F:Nat->α->β}{l:List α}{p:β->Bool}{q:α->Bool}(h:l.all q=true)(a:∀i d,q d=true->p (F i d)=true):(l.mapIdx F).all p=true:=by
 rw[yM] at h ⊢
 intro b hb
 obtain ⟨i,hi,rfl⟩:=zc.1 hb
 rw[xA]
 exact a i _ (h _ (yw _))
end
section
variable{t:Tb}
theorem KZ(l:List Ex):(GI t l).length=l.length:=by rw[Oo];simp
mutual
theorem Mu:∀e:Ex,AV (Ih t e)=AV e
 |.mk op n u rn ri args=>by rw[Ih,AV,AV,Mv args]
theorem Mv:∀l:List Ex,BK (GI t l)=BK l
 |[]=>rfl
 |e::r=>by rw[GI,BK,BK,Mu e,Mv r]
end
theorem KE(e:Ex):Da (Ih t e)=Da e:=by
 cases e with
 |mk op n u rn ri args=>
  rw[Ih]
  unfold Da EG
  simp only[Ex.op,Ex.n,Ex.u,Ex.rn,Ex.ri,Ex.args,KZ]
  by_cases h:op=2
  ·subst h;simp
  ·rw[yq h];rfl
theorem IW{to at_:Int}{r:Rf}(h:Ig t to at_ r=true):Ig t to at_ (gT t to r)=true:=by
 unfold gT
 by_cases h0:to=0
 ·rw[yu h0];exact h
 ·rw[yq h0]
  unfold Ig at h ⊢
  rw[yq h0] at h ⊢
  exact h
theorem WT{to at_:Int}{rn:ByteArray}{ri rj:Int}(h0:to≠0):Ig t to at_ ⟨rn,ri⟩=Ig t to at_ ⟨rn,rj⟩:=by
 unfold Ig;rw[yq h0,yq h0]
mutual
theorem Sm(lt:Int):∀e:Ex,TC t lt (Ih t e)=TC t lt e
 |.mk op n u rn ri args=>by
  rw[Ih,TC,TC,KZ,Sn lt args]
  by_cases h:op=2
  ·rw[yu h,WT (rj:=ri) (by unfold KP;rw[yu h];split<;>decide)]
  ·rw[yq h]
theorem Sn(lt:Int):∀l:List Ex,S7 t lt (GI t l)=S7 t lt l
 |[]=>rfl
 |e::r=>by rw[GI,S7,S7,Sm lt e,Sn lt r]
end
theorem Vt(e:Kp):Bd t (OG (fT t) e)=Bd t e:=by
 unfold Bd OG fT
 simp only
 by_cases h:Da e.1=true
 ·simp[h]
 ·rw[yq h,KE,Sm]
theorem Uy(lt:Int)(e:Ex):AV (fT t lt e)=AV e:=by
 unfold fT;split
 ·rfl
 ·exact Mu e
theorem NJ{x:AA}(h:Dc t x=true):Dc t (x.mp (fT t) (gT t))=true:=by
 unfold Dc at h ⊢
 simp only[ym] at h ⊢
 obtain ⟨h1,h2,h3,h4,h5,h6⟩:=h
 refine ⟨?_,?_,?_,?_,?_,?_⟩
 ·rw[OH,List.all_map]
  rw[yM] at h1 ⊢
  intro e a
  have:=h1 e a
  simp only[Function.comp,Vt];exact this
 ·unfold CF at h2 ⊢
  exact ED h2 fun _ _ h=>h
 ·refine ED h3 fun i d h=>?_
  unfold JM at h ⊢
  simp only[ym] at h ⊢
  exact ⟨IW h.1,IW h.2⟩
 ·refine ED h4 fun i d h=>?_
  unfold M6 at h ⊢
  simp only[ym] at h ⊢
  exact ⟨IW h.1,ED h.2 fun _ _ h=>IW h⟩
 ·refine ED h5 fun i d h=>?_
  unfold Ii at h ⊢
  simp only[ym] at h ⊢
  exact ⟨IW h.1,IW h.2⟩
 ·refine ED h6 fun i d h=>?_
  unfold JN at h ⊢
  simp only[ym] at h ⊢
  exact ⟨IW h.1,IW h.2⟩
theorem So{x:AA}(h:BX x=true):BX (x.mp (fT t) (gT t))=true:=by
 unfold BX at h ⊢
 simp only[ym] at h ⊢
 obtain ⟨h1,h2,h3⟩:=h
 refine ⟨?_,?_,?_⟩
 ·unfold FD at h1 ⊢
  simpa[AA.mp] using h1
 ·unfold En at h2 ⊢
  refine ED h2 fun i d h=>?_
  simpa[AS.mp] using h
 ·unfold Fe at h3 ⊢
  rw[OH,List.all_map]
  rw[yM] at h3 ⊢
  intro e a
  simpa[OG,Uy] using h3 e a
end
theorem Gq{x:AA}(h:AK x=0):BX x=true∧Dv x=true∧Gi x∧DG (Tb.of x) x=true∧Dc (Tb.of x) x=true:=by
 unfold AK at h
 by_cases h1:BX x=true
 ·rw[yu h1] at h
  by_cases h2:Dv x=true
  ·rw[yu h2] at h
   by_cases h3:Gi x
   ·rw[yu h3] at h
    by_cases h4:(DG (Tb.of x) x&&Dc (Tb.of x) x)=true
    ·rw[ym] at h4;exact ⟨h1,h2,h3,h4⟩
    ·rw[yq h4] at h;cases h
   ·rw[yq h3] at h;cases h
  ·rw[yq h2] at h;cases h
 ·rw[yq h1] at h;cases h
theorem IX(x:AA):(Ao x).reaches.length=x.reaches.length:=by unfold Ao AA.mp;simp
structure DK (W:World) (s top:Nat) (x:AA) (L:BL) (cs:List Value) (N:Nat->Prop):Prop where
 src:Ba N W L cs x
 at0:L.s=s
 range:W.rangeAt s 0 cs
 lt:∀b,VP N s b->b < top
section
variable{W W':World}{s top:Nat}{x:AA}{L:BL}{cs:LV}{N:NP}
theorem DK.up(h:DK W s top x L cs N)(hb:∀b,b < top->W'.heap[b]?=W.heap[b]?):DK W' s top x L cs N:=
 ⟨h.src.same (fun _ h=>h) (fun b hN=>hb b (h.lt b (.inr hN))),h.at0,A1 h.range (hb s (h.lt s (.inl rfl))),h.lt⟩
theorem DK.head(h:DK W s top x L cs N):W.cell? ⟨s,21,none⟩=some (.slice L.reaches.a L.reaches.n L.reaches.c):=by
 have:=h.range 21 _ h.src.at.reaches
 rw[yD] at this;exact this
theorem DK.frm(h:DK W s top x L cs N){i:Nat}(hi:i < x.reaches.length):∃b o,L.reaches.a=some ⟨b,o,none⟩∧b < top∧W.cell? ⟨b,o+i*51+1,none⟩=some (.string x.reaches[i].frm.name)∧W.cell? ⟨b,o+i*51+1+1,none⟩=some (.int .i64 x.reaches[i].frm.n):=by
 obtain ⟨b,o,c,g1,e,f,d,_,_,c0,c1,c2,k,m,j,g,l,rfl,_⟩:=h.src.reaches.2.2 i hi
 exact ⟨b,o,g1,h.lt b (.inr e),d 1 _ rfl,d 2 _ rfl⟩
end
structure Sp (Q:Exit->Act->World->Prop) (w:World) (x:AA):Prop where
 early:∀(c:Int) tm W,tm.getD 2 undef=.int .i64 c->Below w.heap.size w W->EC x=c->Q .ret {tmps:=tm,defers:=[]} W
 done:∀(c:Int) D1 D2 tm W,tm.getD 2 undef=.int .i64 c->Below w.heap.size w W->EC x=c->D1≠D2->w.heap.size<=D1->w.heap.size<=D2->W.heap[D1]?=some (.deferred (some []))->W.heap[D2]?=some (.deferred (some []))->Q .ret {tmps:=tm,defers:=[Le D2,Le D1]} W
theorem Uz(w:World)(x:AA):Sp (bodyPostM Fence.wide 10 Try.prog Try.f14 (fun e w'=>e=.returned (.int .i64 (EC x))∧Below w.heap.size w w')) w x:=by
 have a:∀(tm:Array Value) (c:Int) (W:World),tm.getD 2 undef=.int .i64 c->(results Try.f14 tm).run Try.prog W=.ok (.int .i64 c) W:=fun tm c W h=>by
  rw[yH] at h
  simp[results,Try.results14,h]
 refine ⟨fun c tm W h2 hb hc=>?_,fun c D1 j tm W h2 hb hc f h1 i d g=>?_⟩
 ·subst hc
  exact ⟨_,a tm _ W h2,rfl,hb⟩
 ·subst hc
  have e1:(W.putObj j (.deferred none)).heap[D1]?=some (.deferred (some [])):=(World.putObj_heap_other f).trans d
  refine ⟨by simp,.inl ⟨_,_,rfl,run_takeDeferred g,⟨by simp,.inl ⟨_,_,rfl,run_takeDeferred e1,⟨_,a tm _ _ h2,rfl,hb.trans ⟨rfl,rfl,rfl,by simp,fun b hb=>?_⟩⟩⟩⟩⟩⟩
  rw[World.putObj_heap_other (by omega),World.putObj_heap_other (by omega)]
structure FQ (V:World) (base B4 B5:Nat) (la lb:List Rf) (wr:World):Prop where
 os:wr.os=V.os
 tape:wr.tape=V.tape
 output:wr.output=V.output
 size:V.heap.size<=wr.heap.size
 low:base<=V.heap.size
 keep:∀(k:Nat) (o:Obj),k≠B4->k≠B5->V.heap[k]?=some o->(∀c f,o≠Obj.cells c 23 f)->wr.heap[k]?=some o
 block:∀b,b < base->b≠B4->b≠B5->wr.heap[b]?=V.heap[b]?
 rows:∃va vb,wr.heap[B4]?=some (.cells #[va] 127 (0,0))∧wr.heap[B5]?=some (.cells #[vb] 127 (0,0))∧N7 wr base wr va la vb lb
theorem FQ.put{V wr w1:World}{base B4 B5:Nat}{la lb:List Rf}(h:FQ V base B4 B5 la lb wr)(h4:B4 < base)(h5:B5 < base)(p:B4≠B5){f j:Value}{r1 r2:Rf}(c:N7 wr base w1 f (la++[r1]) j (lb++[r2])):FQ V base B4 B5 (la++[r1]) (lb++[r2]) ((w1.setCell ⟨B4,0,none⟩ f).setCell ⟨B5,0,none⟩ j):=by
 obtain ⟨va,vb,w,u,z⟩:=h.rows
 have y:w1.heap[B4]?=some (.cells #[va] 127 (0,0)):=(c.below.block B4 h4).trans w
 have t:w1.heap[B5]?=some (.cells #[vb] 127 (0,0)):=(c.below.block B5 h5).trans u
 have d:∀b,b≠B4->b≠B5->((w1.setCell ⟨B4,0,none⟩ f).setCell ⟨B5,0,none⟩ j).heap[b]?=w1.heap[b]?:=fun b m i=>(zf _ _ _ _ i).trans (zf _ _ _ _ m)
 have s:∀ {v:Value} {l:List Rf},Dl base w1 v l->Dl base ((w1.setCell ⟨B4,0,none⟩ f).setCell ⟨B5,0,none⟩ j) v l:=fun q=>q.up (fun g x _=>by
  have:=(q.lt x).1
  exact d g (by omega) (by omega))
 have n:((w1.setCell ⟨B4,0,none⟩ f).setCell ⟨B5,0,none⟩ j).heap.size=w1.heap.size:=by simp
 refine ⟨c.below.os.trans h.os,c.below.tape.trans h.tape,c.below.output.trans h.output,by rw[n];exact yo h.size c.below.size,h.low,fun k o m i q r=>(d k m i).trans (c.keep k o (h.keep k o m i q r) r),fun b hb m i=>?_,f,j,?_,?_,yc _ _,by rw[n];exact c.size,s c.a,s c.b,c.apart,fun _ _ h _=>h⟩
 ·rw[d b m i,c.below.block b hb];exact h.block b hb m i
 ·rw[zf _ _ _ _ p,zk w1 B4 0 #[va] 127 f y];rfl
 ·have e:(w1.setCell ⟨B4,0,none⟩ f).heap[B5]?=some (.cells #[vb] 127 (0,0)):=(zf _ _ _ _ (fun e=>p e.symm)).trans t
  rw[zk (w1.setCell ⟨B4,0,none⟩ f) B5 0 #[vb] 127 j e];rfl
theorem FQ.drew{V wr:World}{base B4 B5:Nat}{la lb:List Rf}(h:FQ V base B4 B5 la lb wr):FQ V base B4 B5 la lb wr.drew:=by
 obtain ⟨va,vb,e,d,c⟩:=h.rows
 exact ⟨h.os,h.tape,h.output,h.size,h.low,h.keep,h.block,va,vb,e,d,yc _ _,c.size,c.a,c.b,c.apart,fun _ _ h _=>h⟩
theorem Dl.rf{B:Nat}{w:World}{v:Value}{l:List Rf}(h:Dl B w v l)(hl:l.length<=1000000000):∃h:AF,v=h.v∧Uv w h l:=by
 obtain ⟨h1,⟨rfl,h2⟩|⟨g,cap,c,rfl,h4,h5,h6,m,o,k⟩⟩:=h
 ·obtain rfl:=yX.1 h2
  exact ⟨⟨none,0,0⟩,rfl,rfl,by simp,fun i hi=>absurd hi (by simp)⟩
 ·have hc:∀j u,(l.flatMap Ad)[j]?=some u->w.cell? ⟨g,j,none⟩=some u:=by
   intro j u a
   rw[<-k] at a
   have b:=(yA.1 a).1
   rw[yP] at b
   rw[zJ,yu (by omega)] at a
   simp only[World.cell?,h5]
   simpa using a
  have d:∀(l:List Rf) (i:Nat) (hi:i < l.length),(l.flatMap Ad)[i*2]?=some (.string l[i].name)∧(l.flatMap Ad)[i*2+1]?=some (.int .i64 l[i].n):=by
   intro l
   induction l with
   |nil=>intro i hi;simp at hi
   |cons x r ih=>
    intro i hi
    cases i with
    |zero=>exact ⟨rfl,rfl⟩
    |succ i=>
     have:=ih i (by simpa using hi)
     have e:((x::r).flatMap Ad)=Ad x++r.flatMap Ad:=rfl
     rw[e,yJ (by simp[Ad];omega),yJ (by simp[Ad];omega)]
     have hl:(Ad x).length=2:=rfl
     rw[hl,show (i+1)*2 - 2=i*2 by omega,show (i+1)*2+1 - 2=i*2+1 by omega]
     exact this
  refine ⟨⟨some ⟨g,0,none⟩,l.length,cap⟩,rfl,rfl,by omega,fun i hi=>?_⟩
  obtain ⟨f,g1⟩:=d l i hi
  refine ⟨g,0,rfl,(yd.1 h5).1,?_,?_⟩
  ·rw[yD];exact hc _ _ f
  ·rw[yD];exact hc _ _ g1
theorem Jn{α:Type}{l:List α}{i:Nat}{a:α}(h:l[i]?=some a):l.take i++[a]=l.take (i+1):=by
 rw[List.take_add_one,h];rfl
theorem WU{Q:QT}{w V:World}{x:AA}{L1 L2:BL}{ar ah:LV}{N1 N2:NP}{base B3 B4 B5 D1 D:Nat}(hQ:Sp Q w x)(hw:AK x=0)
 (h1:DK V w.heap.size B4 x L1 ar N1)(h2:DK V B3 B4 (Ao x) L2 ah N2)(ag:B4 < B5)(h5:B5 < base)(hb:Below w.heap.size w V)(hL:FQ V base B4 B5 (BB x) (BB (Ao x)) V)
 (hD:D1≠D∧w.heap.size<=D1∧w.heap.size<=D)(m:V.heap[D1]?=some (.deferred (some [])))(p:V.heap[D]?=some (.deferred (some [])))(I:(CJ x).length<=900000000)(u:(CJ (Ao x)).length<=900000000)
 (u0 u6 u7 u8 u9 u10 u11 u12 u13 u14 u15 u16 u17 u18 u19 u20 u21 u22 u23 u24 u25 u26 u27 u28 u29 u30 u31 u32 u33 u34 u35 u36 u37 u38 u39 u40 u41 u42 u43 u44 u45 u46 u47 u48 u49 u50 u51 u52 u53 u54 u55 u56 u57 u58 u59 u60 u61 u62 u63:Value):
  I3 14 Try.prog (DM 6 (Try.f14.body.getD .skip)) Q {tmps:=#[u0,.pointer (some ⟨w.heap.size,0,none⟩),.int .i64 0,.pointer (some ⟨B3,0,none⟩),.pointer (some ⟨B4,0,none⟩),.pointer (some ⟨B5,0,none⟩),u6,u7,u8,u9,u10,u11,u12,u13,u14,u15,u16,u17,u18,u19,u20,u21,u22,u23,u24,u25,u26,u27,u28,u29,u30,u31,u32,u33,u34,u35,u36,u37,u38,u39,u40,u41,u42,u43,u44,u45,u46,u47,u48,u49,u50,u51,u52,u53,u54,u55,u56,u57,u58,u59,u60,u61,u62,u63],defers:=[Le D,Le D1]} V:=by
 have G:w.heap.size < B4:=h1.lt _ (.inl rfl)
 have J:B3 < B4:=h2.lt _ (.inl rfl)
 have F:=hL.low
 have l:Hid (∀la lb wr,FQ V base B4 B5 la lb wr->∀b,b < B4->wr.heap[b]?=V.heap[b]?):=ya (fun la lb wr h b hb=>h.block b (by omega) (by omega) (by omega))
 have g:Hid (∀la lb wr,FQ V base B4 B5 la lb wr->wr.heap[D1]?=some (.deferred (some []))∧wr.heap[D]?=some (.deferred (some []))):=ya (fun la lb wr h=>by
  obtain ⟨va,vb,r4,r5,_⟩:=hL.rows
  exact ⟨h.keep D1 _ (fun e=>by rw[e,r4] at m;cases m) (fun e=>by rw[e,r5] at m;cases m) m (fun _ _ e=>by cases e),h.keep D _ (fun e=>by rw[e,r4] at p;cases p) (fun e=>by rw[e,r5] at p;cases p) p (fun _ _ e=>by cases e)⟩)
 have C:Hid (∀la lb wr,FQ V base B4 B5 la lb wr->Below w.heap.size w wr):=ya (fun la lb wr h=>hb.trans ⟨h.os,h.tape,h.output,h.size,fun b P=>h.block b (by omega) (by omega) (by omega)⟩)
 have hc:=h1.head
 have S:=ya h2.head
 have N:Hid (∀i (hi:i < x.reaches.length),∃b o,L1.reaches.a=some ⟨b,o,none⟩∧b < B4∧V.cell? ⟨b,o+i*51+1,none⟩=some (.string x.reaches[i].frm.name)∧V.cell? ⟨b,o+i*51+1+1,none⟩=some (.int .i64 x.reaches[i].frm.n)):=ya (fun i hi=>h1.frm hi)
 have K:Hid (∀i (hi:i < (Ao x).reaches.length),∃b o,L2.reaches.a=some ⟨b,o,none⟩∧b < B4∧V.cell? ⟨b,o+i*51+1,none⟩=some (.string (Ao x).reaches[i].frm.name)∧V.cell? ⟨b,o+i*51+1+1,none⟩=some (.int .i64 (Ao x).reaches[i].frm.n)):=ya (fun i hi=>h2.frm hi)
 have z:Hid (L1.reaches.n=x.reaches.length):=ya h1.src.reaches.1
 have T:Hid (L2.reaches.n=x.reaches.length):=ya (h2.src.reaches.1.trans (IX x))
 have E:L1.reaches.n<=140737488355328:=by rw[z.o];exact h1.src.reaches.2.1
 have L:=ya hc
 have HQ:=ya hQ
 have c:Hid (w.heap.size < B4∧B3 < B4∧B4 < B5∧B5 < base∧base<=V.heap.size):=ya ⟨G,J,ag,h5,F⟩
 have X:=ya hD
 have H:=ya I;have q:=ya u
 have HC:Hid (EC x=if CJ x=CJ (Ao x) then 0 else 170):=ya (by unfold EC;rw[yu hw])
 have aa:Hid (FQ V base B4 B5 (BB x++(x.reaches.map fun d:AI=>d.frm).take 0) (BB (Ao x)++((Ao x).reaches.map fun d:AI=>d.frm).take 0) V):=ya (by rw[zN,zN,yG,yG];exact hL)
 generalize L1.reaches=au at hc N z E L
 obtain ⟨ra,rn,rc⟩:=au
 generalize L2.reaches=an at S K T
 obtain ⟨U,ae,ao⟩:=an
 simp only at hc N z E L S K T
 clear hQ hw h1 h2 ag h5 hb hL hD m p I u G J F
 unfold Le
 refine Aq (Af ?_)
 go_wp2
 clear hc
 go_loopw [38] (fun iv wr=>∃i:Nat,iv=.int .i64 i∧i<=rn∧Hid (FQ V base B4 B5 (BB x++(x.reaches.map fun d:AI=>d.frm).take i) (BB (Ao x)++((Ao x).reaches.map fun d:AI=>d.frm).take i) wr)) (fun iv _=>rn - (intOf iv).toNat)
 case atStart=>exact ⟨0,rfl,yv _,aa⟩
 case round=>
  clear aa
  obtain ⟨i,rfl,hi,A⟩:=hrel
  by_cases P:i < rn
  ·have ak:(i:Int) < (rn:Int):=by omega
   have y:i < x.reaches.length:=by rw[<-z.o];exact P
   have M:i < (Ao x).reaches.length:=by rw[IX];exact y
   obtain ⟨b1,o1,rfl,g1,x1,y1⟩:=N.o i y
   obtain ⟨b2,o2,rfl,g2,x2,y2⟩:=K.o i M
   have a6:(x.reaches.map fun d:AI=>d.frm)[i]?=some x.reaches[i].frm:=by simp[y]
   have a8:((Ao x).reaches.map fun d:AI=>d.frm)[i]?=some (Ao x).reaches[i].frm:=by simp[M]
   have j:Hid (∀wr,FQ V base B4 B5 ((BB x++(x.reaches.map fun d:AI=>d.frm).take i)++[x.reaches[i].frm]) ((BB (Ao x)++((Ao x).reaches.map fun d:AI=>d.frm).take i)++[(Ao x).reaches[i].frm]) wr->FQ V base B4 B5 (BB x++(x.reaches.map fun d:AI=>d.frm).take (i+1)) (BB (Ao x)++((Ao x).reaches.map fun d:AI=>d.frm).take (i+1)) wr):=ya (fun wr h=>by
    rw[yg,yg] at h
    rw[Jn a6,Jn a8] at h
    exact h)
   have av:Hid ((BB x++(x.reaches.map fun d:AI=>d.frm).take i).length+1<=1000000000):=ya (by
    have:=H.o
    unfold CJ at this
    simp only[yi,yP,yI] at this ⊢
    omega)
   have am:Hid ((BB (Ao x)++((Ao x).reaches.map fun d:AI=>d.frm).take i).length+1<=1000000000):=ya (by
    have:=q.o
    unfold CJ at this
    simp only[yi,yP,yI] at this ⊢
    omega)
   generalize x.reaches[i].frm=r1 at x1 y1 j
   generalize (Ao x).reaches[i].frm=r2 at x2 y2 j
   obtain ⟨va,vb,Z,q5,W⟩:=A.o.rows
   have HT:=ya W;have ac:=ya Z;have a7:=ya q5
   have ai:Hid (wr.cell? ⟨b1,o1+i*51+1,none⟩=some (.string r1.name)):=ya ((Ap (l.o _ _ _ A.o b1 g1)).trans x1)
   have al:Hid (wr.cell? ⟨b1,o1+i*51+1+1,none⟩=some (.int .i64 r1.n)):=ya ((Ap (l.o _ _ _ A.o b1 g1)).trans y1)
   have aq:Hid (wr.cell? ⟨b2,o2+i*51+1,none⟩=some (.string r2.name)):=ya ((Ap (l.o _ _ _ A.o b2 g2)).trans x2)
   have ap:Hid (wr.cell? ⟨b2,o2+i*51+1+1,none⟩=some (.int .i64 r2.n)):=ya ((Ap (l.o _ _ _ A.o b2 g2)).trans y2)
   have HG:Hid (b1 < B4∧b2 < B4∧i < rn∧i < ae):=ya ⟨g1,g2,P,by rw[T.o];exact y⟩
   clear y M x1 y1 x2 y2 a6 a8 Z q5 W g1 g2
   go_wp2_with fail
   refine WS (base:=base) (B:=w.heap.size) (B3:=B3) (B4:=B4) (B5:=B5) (b1:=b1) (o1:=o1) (n1:=rn) (c1:=rc) (b2:=b2) (o2:=o2) (n2:=ae) (c2:=ao) (i:=i) (va:=va) (vb:=vb) (la:=BB x++(x.reaches.map fun d:AI=>d.frm).take i) (lb:=BB (Ao x)++((Ao x).reaches.map fun d:AI=>d.frm).take i) (r1:=r1) (r2:=r2) _ ?_ ?_ ?_ ?_ ?_ ?_ ?_ ?_ ?_ ?_ ?_ ?_ ?_ ?_ ?_ ?_ ?_ ?_ ?_ ?_ ?_ ?_ ?_ ?_ ?_ ?_ ?_ ?_ ?_ ?_
   ·rfl
   ·rfl
   ·rfl
   ·rfl
   ·rfl
   ·rfl
   ·rfl
   ·have:=c.o;omega
   ·have:=c.o;omega
   ·have:=c.o;omega
   ·have:=c.o;omega
   ·have:=c.o;have:=HG.o;omega
   ·have:=c.o;have:=HG.o;omega
   ·have:=c.o;omega
   ·exact HG.o.2.2.1
   ·exact HG.o.2.2.2
   ·exact ⟨_,ac.o⟩
   ·exact ⟨_,a7.o⟩
   ·simp[World.cell?,ac.o]
   ·simp[World.cell?,a7.o]
   ·exact (Ap (l.o _ _ _ A.o _ c.o.1)).trans L.o
   ·exact (Ap (l.o _ _ _ A.o _ c.o.2.1)).trans S.o
   ·exact ai.o
   ·exact al.o
   ·exact aq.o
   ·exact ap.o
   ·exact HT.o
   ·exact av.o
   ·exact am.o
   ·intro a w1 v1 v2 af ad ab hp
    have aj:=ya (j.o _ (A.o.put (by have:=c.o;omega) c.o.2.2.2.1 (by have:=c.o;omega) hp))
    obtain ⟨v41,v42,v43,v44,v45,v46,v47,v48,v49,v50,v51,v52,v53,v54,v55,v56,v57,v58,rfl⟩:∃v41 v42 v43 v44 v45 v46 v47 v48 v49 v50 v51 v52 v53 v54 v55 v56 v57 v58:Value,a={tmps:=#[u0,.pointer (some ⟨w.heap.size,0,none⟩),.int .i64 0,.pointer (some ⟨B3,0,none⟩),.pointer (some ⟨B4,0,none⟩),.pointer (some ⟨B5,0,none⟩),u6,u7,.int .i64 i,u9,u10,u11,u12,u13,u14,u15,u16,u17,u18,u19,u20,u21,u22,u23,u24,u25,u26,u27,u28,u29,u30,u31,u32,u33,u34,.pointer (some ⟨w.heap.size,21,none⟩),.slice (some ⟨b1,o1,none⟩) rn rc,.int .i64 rn,.int .i64 i,.bool true,.int .i64 i,v41,v42,v43,v44,v45,v46,v47,v48,v49,v50,v51,v52,v53,v54,v55,v56,v57,v58,u59,u60,u61,u62,u63],defers:=[Le D,Le D1]}:=by
     refine ⟨a.tmps.getD 41 undef,a.tmps.getD 42 undef,a.tmps.getD 43 undef,a.tmps.getD 44 undef,a.tmps.getD 45 undef,a.tmps.getD 46 undef,a.tmps.getD 47 undef,a.tmps.getD 48 undef,a.tmps.getD 49 undef,a.tmps.getD 50 undef,a.tmps.getD 51 undef,a.tmps.getD 52 undef,a.tmps.getD 53 undef,a.tmps.getD 54 undef,a.tmps.getD 55 undef,a.tmps.getD 56 undef,a.tmps.getD 57 undef,a.tmps.getD 58 undef,(Lu [41,42,43,44,45,46,47,48,49,50,51,52,53,54,55,56,57,58] (af.trans rfl) ad (fun t ht=>ab t ?_)).trans (by kernel_rfl)⟩
     simp at ht;omega
    clear af ad ab hp
    unfold Le
    go_wp2
    exact ⟨⟨i+1,by push_cast;rfl,by omega,aj⟩,by simp[intOf];omega⟩
  ·obtain rfl:i=rn:=by omega
   have ak:decide ((i:Int) < (i:Int))=false:=by simp
   have f:Hid (FQ V base B4 B5 (CJ x) (CJ (Ao x)) wr):=ya (by
    have h:=A.o
    rw[z.o] at h
    have e1:(x.reaches.map fun d:AI=>d.frm).take x.reaches.length=x.reaches.map fun d:AI=>d.frm:=by
     rw[zX (by simp)]
    have e2:((Ao x).reaches.map fun d:AI=>d.frm).take x.reaches.length=(Ao x).reaches.map fun d:AI=>d.frm:=by
     rw[zX (by rw[yI,IX];exact ye _)]
    rw[e1,e2] at h
    exact h)
   obtain ⟨va,vb,Z,q5,W⟩:=f.o.rows
   obtain ⟨⟨a1,n1,k1⟩,ea,a0⟩:=W.a.rf (by have:=H.o;omega)
   obtain ⟨⟨a2,n2,k2⟩,eb,U⟩:=W.b.rf (by have:=q.o;omega)
   unfold AF.v at ea eb
   simp only at ea eb
   subst ea eb
   have RA:=ya a0;have RB:=ya U
   have c4:wr.cell? ⟨B4,0,none⟩=some (.slice a1 n1 k1):=by simp[World.cell?,Z]
   have c5:wr.cell? ⟨B5,0,none⟩=some (.slice a2 n2 k2):=by simp[World.cell?,q5]
   clear Z q5 W a0 U A
   go_wp2
   by_cases Y:CJ x=CJ (Ao x)
   ·have O:Hid (decide (CJ x=CJ (Ao x))=true):=ya (xS Y)
    have R:Hid (EC x=0):=ya (by rw[HC.o,yu Y])
    clear Y
    refine Aq (Af ?_)
    go_wp2_with (first|(go_at_call 64;refine (Mt (h1:=⟨a1,n1,k1⟩) (h2:=⟨a2,n2,k2⟩) RA.o RB.o).mono ?_;rintro e w5 ⟨s,r⟩;rw[O.o] at s;subst s;have k:=ya r;clear r))
    refine Af ?_
    go_wp2
    exact HQ.o.done 0 D1 D _ _ rfl ((C.o _ _ _ f.o).trans (k.o.mono (C.o _ _ _ f.o).size)) R.o X.o.1 X.o.2.1 X.o.2.2 ((k.o.block _ (yd.1 (g.o _ _ _ f.o).1).1).trans (g.o _ _ _ f.o).1) ((k.o.block _ (yd.1 (g.o _ _ _ f.o).2).1).trans (g.o _ _ _ f.o).2)
   ·have O:Hid (decide (CJ x=CJ (Ao x))=false):=ya (zH Y)
    have R:Hid (EC x=170):=ya (by rw[HC.o,yq Y])
    clear Y
    refine Aq (Af ?_)
    go_wp2_with (first|(go_at_call 64;refine (Mt (h1:=⟨a1,n1,k1⟩) (h2:=⟨a2,n2,k2⟩) RA.o RB.o).mono ?_;rintro e w5 ⟨s,r⟩;rw[O.o] at s;subst s;have k:=ya r;clear r))
    exact HQ.o.done 170 D1 D _ _ rfl ((C.o _ _ _ f.o).trans (k.o.mono (C.o _ _ _ f.o).size)) R.o X.o.1 X.o.2.1 X.o.2.2 ((k.o.block _ (yd.1 (g.o _ _ _ f.o).1).1).trans (g.o _ _ _ f.o).1) ((k.o.block _ (yd.1 (g.o _ _ _ f.o).2).1).trans (g.o _ _ _ f.o).2)
end Go.Proofs.Ytghepahgkcigpaa
