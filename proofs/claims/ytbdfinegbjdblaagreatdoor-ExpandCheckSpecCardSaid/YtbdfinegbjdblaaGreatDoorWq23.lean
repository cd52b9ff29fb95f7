/- expand.rotation (printed by gen_ko.py). -/
import Derived.Test.YtbdfinegbjdblaaGreatDoorWq0
import Derived.Test.YtbdfinegbjdblaaGreatDoorWq18
import Derived.Test.YtbdfinegbjdblaaGreatDoorWq16
import Derived.Test.YtbdfinegbjdblaaGreatDoorWq14
import Derived.Test.YtbdfinegbjdblaaGreatDoorWq10
set_option maxRecDepth 100000
set_option maxHeartbeats 16000000
set_option linter.unusedSimpArgs false
namespace Go.Proofs.YtbdfinegbjdblaaGreatDoor
open Go.RowKit
theorem Dn{o:Oper}{a:Act}{K:Act->World->Prop}{Q:QT}{W:World}{t e:TypeId}(y:Tryz.prog.underlying t=some (.slice e))(s x:Operand)(F:o.op=.call {callee:=.builtin .append,args:=#[s,x],argTypes:=#[t,t]})
 (size:Nat)(b:((Tryz.prog.info? e).bind λi=>i.zero.map λz=>(i.size,z.cells.size,decide (i.bytes<=128)))=some (size,size,true))(r:0 < size)
 (B:Nat)(v:Value)(n:Nat)(xs:LV)(hs:a.eval s=v)(l:W.ownsRow B e size v n xs)(g c:Nat)(row:LV)(G:a.eval x=.slice (some ⟨g,0,none⟩) 1 c)(hg:W.heap[g]?=some (.cells row.toArray e (0,0)))(A:row.length=size)(f:∀u∈row,u.oneCell'=true)(q:(n+1)*128<=140737488355328)(p:B<=W.heap.size)
 (h:∀v' w',w'.ownsRow B e size v' (n+1) (xs++row)->W.grownBy w' v.ownBlock->(v'.ownBlock=v.ownBlock\/v'.ownBlock=some W.heap.size)->K (a.put o.dst v') w'):Oper.wp Tryz.prog o a W K Q:=by
 cases d:Tryz.prog.info? e with
 |none=>simp[d] at b
 |some i0=>
  cases w:i0.zero with
  |none=>simp[d,w] at b
  |some z=>
   simp only[d,w,zS,zR,zs,qg,yM] at b
   obtain ⟨h1,h2,h3⟩:=b
   have k:(n+1)*i0.bytes<=140737488355328:=yG (Nat.mul_le_mul_left _ h3) q
   have m:∀j u,row[j]?=some u->W.cell? (((aV g 0):Addr).add j)=some u:=λj u D=>by
    rw[zO]
    simp only[World.cell?,hg]
    simpa using D
   obtain ⟨v',w',hr,C,E,_⟩:=run_append_own (P:=Tryz.prog) W B t o.type e i0 z size i0.bytes y d w h1 rfl h2 r v n xs l (aV g 0) 1 c row (by rw[A,qS]) m f (by unfold maxLen;omega) k p
   have hb:=Rh (ty:=o.type) y d w h1 l hg A f k (by omega) hr
   unfold Oper.wp
   simp[execOp,F,resolve,invoke,builtin,hs,G,hr,Result.andThen]
   exact h v' w' C E hb
theorem CJ.drew{X B:Nat}{w w':World}(h:CJ X B w w'):CJ X B w w'.drew:=⟨h.os,h.tape,h.output,h.size,h.block⟩
theorem Ik.drew{w W:World}{Cb Rb:Nat}{vs:List Rt}(h:Ik w Cb Rb vs W):Ik w Cb Rb vs W.drew:=⟨h.cur,h.bel.drew,h.ne,h.lt⟩
structure NQ (w:World) (Cb Rb:Nat) (vs:List Rt) (ss xs:List Value) (W:World):Prop where
 cu:Ik w Cb Rb vs W
 s:W.heap[w.heap.size]?=some (.cells ss.toArray 49 (0,0))
 x:W.heap[w.heap.size+1]?=some (.cells xs.toArray 56 (0,0))
theorem NQ.keep{w W W':World}{Cb Rb:Nat}{vs vs':List Rt}{ss xs:LV}(h:NQ w Cb Rb vs ss xs W)(hc:Ik w Cb Rb vs' W')(hb:∀b,b < W.heap.size->b≠Cb->b < w.heap.size+2->W'.heap[b]?=W.heap[b]?):NQ w Cb Rb vs' ss xs W':=by
 have h1:=(yd.1 h.s).1
 have h2:=(yd.1 h.x).1
 have h3:=h.cu.lt.1
 exact ⟨hc,(hb _ h1 (by omega) (by omega)).trans h.s,(hb _ h2 (by omega) (by omega)).trans h.x⟩
theorem NQ.call{w W W':World}{Cb Rb:Nat}{vs vs':List Rt}{ss xs:LV}(h:NQ w Cb Rb vs ss xs W)(hc:Ik w Cb Rb vs' W')(hb:CJ Cb W.heap.size W W'):NQ w Cb Rb vs' ss xs W':=h.keep hc λb h1 h2 _=>hb.block b h1 h2
theorem NQ.up{w W W':World}{Cb Rb:Nat}{vs:List Rt}{ss xs:LV}(h:NQ w Cb Rb vs ss xs W)(hb:Below W.heap.size W W'):NQ w Cb Rb vs ss xs W':=h.keep (h.cu.up hb) λb h1 _ _=>hb.block b h1
theorem NQ.drew{w W:World}{Cb Rb:Nat}{vs:List Rt}{ss xs:LV}(h:NQ w Cb Rb vs ss xs W):NQ w Cb Rb vs ss xs W.drew:=⟨h.cu.drew,h.s,h.x⟩
theorem Ik.grown{w W W':World}{Cb Rb:Nat}{vs:List Rt}{ob:Option Nat}(h:Ik w Cb Rb vs W)(hg:W.grownBy W' ob)(a:∀k,ob=some k->w.heap.size<=k):Ik w Cb Rb vs W':=by
 have hb:Below w.heap.size W W':=⟨hg.os,hg.tape,hg.output,hg.size,λb hb=>hg.block b (by have:=h.bel.size;omega) (λe=>by have:=a b e.symm;omega)⟩
 exact h.up2 hb
theorem NQ.grown{w W W':World}{Cb Rb:Nat}{vs:List Rt}{ss xs:LV}{ob:Option Nat}(h:NQ w Cb Rb vs ss xs W)(hg:W.grownBy W' ob)(a:∀k,ob=some k->w.heap.size+2<=k):NQ w Cb Rb vs ss xs W':=
 h.keep (h.cu.grown hg λk c=>yG (by omega) (a k c)) λb h1 _ h3=>hg.block b h1 λe=>by have:=a b e.symm;omega
def aW(o:Option (List CA × List Rt))(w:World)(Cb Rb:Nat)(e:Ending)(w':World):Prop:=match o with
 |some (l,vs)=>∃v,e=.returned v/\w'.ownsRow w.heap.size 62 10 v l.length (l.flatMap AZ)/\Ik w Cb Rb vs w'
 |none=>e=.panicked (It 190)/\CJ Cb w.heap.size w w'
theorem YH(fs:List BG)(x:Bq)(c a b:Rt)(r:List Rt):Is fs x (c::a::b::r)=if c.d<=1/\a.d<=1/\b.d<=1 then (if x.turns.length=0 then none else
  match Cr fs x c.n b.n a.n x.turns r with
  |none=>none
  |some (q,l)=>if q.2<=b.n+1 then some (q.1.map (JQ (q.2 - a.n)),l) else none) else none:=by
 unfold Is
 by_cases h0:c.d<=1
 ·by_cases h1:a.d<=1
  ·by_cases h2:b.d<=1
   ·simp only[BE,h0,h1,h2,xi,and_self,bind,Option.bind]
    split
    ·rfl
    cases Cr fs x c.n b.n a.n x.turns r with
    |none=>rfl
    |some p=>rfl
   simp[BE,h0,h1,h2]
  simp[BE,h0,h1]
 simp[BE,h0]
def ZV(x:Bq)(flow tt st:Int)(k:C6)(n:Int):CA:=⟨x.name,1,k.farm.n,0,x.rank,flow,st,tt,0,n⟩
def US(fs:List BG)(x:Bq)(k:C6)(n:Int):Bool:=decide (1<=n)&&decide ((fs[k.farm.n.toNat]?).map (·.on.n)=some x.on.n)
theorem J1(fs:List BG)(x:Bq)(flow tt st:Int)(k:C6)(a:List C6)(v:Rt)(r:List Rt):Cr fs x flow tt st (k::a) (v::r)=if v.d<=1 then (if US fs x k v.n=true then (Cr fs x flow tt (st+v.n) a r).map (λq=>((ZV x flow tt st k v.n::q.1.1,q.1.2),q.2)) else none) else none:=by
 rw[Cr]
 by_cases hd:v.d<=1
 ·simp only[BE,yz hd]
  unfold US
  by_cases hc:1<=v.n/\(fs[k.farm.n.toNat]?).map (·.on.n)=some x.on.n
  ·rw[yz hc,yz (by simp only[yw,yM];exact hc)]
   cases Cr fs x flow tt (st+v.n) a r with
   |none=>rfl
   |some p=>rfl
  rw[ym hc,ym (by simp only[yw,yM];exact hc)]
 simp only[BE,ym hd]
structure WX (fs:List BG) (x:Bq) (flow tt frm:Int) (r:List Rt) (i:Nat) (st:Int) (acc:List CA) (rest:List Rt):Prop where
 len:acc.length=i
 eq:Cr fs x flow tt frm x.turns r=(Cr fs x flow tt st (x.turns.drop i) rest).map (λq=>((acc++q.1.1,q.1.2),q.2))
 many:rest.length+i=r.length
 small:∀v∈rest, -1073741824<=v.n/\v.n<=1073741824
 near: -(1073741824*(i:Int))<=st - frm/\st - frm<=1073741824*(i:Int)
theorem WX.start{fs:List BG}{x:Bq}{flow tt frm:Int}{r:List Rt}(h:∀v∈r, -1073741824<=v.n/\v.n<=1073741824):WX fs x flow tt frm r 0 frm [] r:=⟨rfl,by
 rw[xA]
 cases Cr fs x flow tt frm x.turns r with
 |none=>rfl
 |some p=>rfl,by simp,h,by simp⟩
section
variable{fs:List BG}{x:Bq}{flow tt frm:Int}{r:List Rt}{i:Nat}{st:Int}{acc:List CA}{v:Rt}{rest:List Rt}
theorem WX.bad(h:WX fs x flow tt frm r i st acc (v::rest))(hi:i < x.turns.length)(hb:¬ v.d<=1\/US fs x x.turns[i] v.n=false):Cr fs x flow tt frm x.turns r=none:=by
 rw[h.eq,zy hi,J1]
 rcases hb with hb|hb
 ·rw[ym hb];rfl
 split
 ·rw[hb];rfl
 rfl
theorem WX.next(h:WX fs x flow tt frm r i st acc (v::rest))(hi:i < x.turns.length)(hd:v.d<=1)(a:US fs x x.turns[i] v.n=true):WX fs x flow tt frm r (i+1) (st+v.n) (acc++[ZV x flow tt st x.turns[i] v.n]) rest:=by
 have e:=h.small v (by simp)
 have c:=h.near
 refine ⟨by simp[h.len],?_,by have:=h.many;simp at this;omega,λu b=>h.small u (by simp[b]),by push_cast;omega⟩
 rw[h.eq,zy hi,J1,yz hd,yz a,Option.map_map]
 congr 1
 funext q
 simp
end
theorem I5:∀l:List CA,(l.flatMap AZ).length=l.length*10
 |[]=>rfl
 |a::l=>by rw[yY,yn,I5 l,yr];simp[AZ];omega
def UT(n:Int)(acc:List CA)(j:Nat):List CA:=(acc.take j).map (JQ n)++acc.drop j
theorem WY(n:Int)(acc:List CA)(j:Nat)(a:j < acc.length):((UT n acc j).flatMap AZ).set (j*10+8) (.int .i64 n)=(UT n acc (j+1)).flatMap AZ:=by
 unfold UT
 rw[zy a,yP a,xx,zN,qc,yX,zJ,zJ,yY,zJ,yY,List.flatMap_nil,yE]
 have b:(((acc.take j).map (JQ n)).flatMap AZ).length=j*10:=by rw[I5,zh,zM];congr 1;omega
 rw[List.set_append_right _ _ (by omega),b,xk]
 rfl
theorem MZ{w:World}{base size n:Nat}{e:TypeId}{v:Value}{xs:LV}(h:w.ownsRow base e size v n xs)(a:0 < n):∃g cap,v=.slice (some ⟨g,0,none⟩) n cap:=by
 rcases h.2 with ⟨-,h0⟩|⟨g,cap, -,h1, -⟩
 ·omega
 exact ⟨g,cap,h1⟩
theorem N0{w:World}{base a size n:Nat}{e:TypeId}{v:Value}{xs:LV}(h:w.ownsRow base e size v n xs)(hb:a<=base):w.ownsRow a e size v n xs:=
 ⟨h.1,h.2.imp id λ⟨g,cap,cur,c,b,a3⟩=>⟨g,cap,cur,c,yG hb b,a3⟩⟩
theorem WZ(n:Int)(acc:List CA):UT n acc 0=acc:=by simp[UT]
theorem Yc(n:Int)(acc:List CA):UT n acc acc.length=acc.map (JQ n):=by simp[UT]
theorem Yd(n:Int)(acc:List CA)(j:Nat)(a:j<=acc.length):(UT n acc j).length=acc.length:=by simp[UT];omega
theorem ZW(a b c:Int):(a<=1/\b<=1/\c<=1)\/1 < a\/(a<=1/\1 < b)\/(a<=1/\b<=1/\1 < c):=by omega
theorem Pu{N:NP}{W0:World}{Cb Rb:Nat}{L:BQ}{src:AM}{ss:LV}(ak:CQ N W0 L ss src){x:Bq}{t:AA}{xs:LV}(hx:Ip N W0 t xs x)(hN:∀b,N b->b < W0.heap.size/\b≠Cb)(I y u:Rt)(r:List Rt)
 (hc:Hb W0 Cb Rb (I::y::u::r))(cb:Rb≠Cb)(z:Cb < W0.heap.size/\Rb < W0.heap.size)(H:x.turns.length<=r.length)(ch:∀v∈I::y::u::r, -1073741824<=v.n/\v.n<=1073741824)(cd:∀k∈x.turns,0<=k.farm.n/\k.farm.n < src.farms.length)(b5:x.turns.length<=1000000):
  Calls Tryz.prog 61 #[.agg ss.toArray,.agg xs.toArray,Lo Cb] W0 (aW (Is src.farms x (I::y::u::r)) W0 Cb Rb):=by
 obtain ⟨F,O⟩:∃o,o=Is src.farms x (I::y::u::r):=⟨_,rfl⟩
 rw[<-O]
 rw[YH] at O
 have c:=yb O
 clear O
 have d9:=ak.cells
 obtain ⟨e0,R,e2,Y,m0,m1,m2⟩:=d9
 obtain ⟨f0,q0,rfl, -⟩:=m0.cells
 obtain ⟨f1,q1,rfl, -⟩:=m1.cells
 obtain ⟨f2,q2,rfl, -⟩:=m2.cells
 obtain ⟨-, -,c0,c1,c2,ab,g0,g1,g2,C⟩:=hx
 obtain ⟨a0,p0,rfl, -⟩:=g0.cells
 obtain ⟨a1,p1,rfl, -⟩:=g1.cells
 obtain ⟨a2,p2,rfl, -⟩:=g2.cells
 have bp:=yb Y
 have co:=yb ab
 have bw:=yb C
 have an:=yb ak.farms
 have a6:=yb hN
 have aa:=yb ch
 have b8:=yb cd
 have a7:=yb b5
 have az:=yb H
 have b4:=yb z
 have bk:Below W0.heap.size W0 ((W0.alloc (.cells ss.toArray 49)).alloc (.cells xs.toArray 56)):=((yg _ _).alloc (yi _) _).alloc (by simp) _
 have hW:=World.alloc_heap_new (W0.alloc (.cells ss.toArray 49)) (.cells xs.toArray 56)
 rw[ze] at hW
 have a:Hid (NQ W0 Cb Rb (I::y::u::r) ss xs ((W0.alloc (.cells ss.toArray 49)).alloc (.cells xs.toArray 56))):=yb
  ⟨(⟨hc,CJ.refl _ _ _,cb,z⟩:Ik W0 Cb Rb (I::y::u::r) W0).up bk,(yp _ _ _ (by simp)).trans (World.alloc_heap_new _ _),hW⟩
 clear hc cb z ak C hN ch cd b5 H bk hW g0 g1 g2 m0 m1 m2
 rw[Y,ab]
 unfold B6 AA.v
 simp only[yQ,yS]
 go_enter Tryz.func61,Tryz.ntmps61
 refine Ai λK B=>?_
 go_wp2
 refine B.o _ _ ?_
 clear B K
 generalize hE:(W0.alloc _).alloc _=W1
 replace a:Hid (NQ W0 Cb Rb (I::y::u::r) ss xs W1):=yb (by
  rw[<-hE]
  have h:=a.o
  rw[Y,ab] at h |-
  exact h)
 clear hE Y ab
 refine Ai λK B=>?_
 rcases ZW I.d y.d u.d with ⟨d0,d1,d2⟩|d0|⟨d0,d1⟩|⟨d0,d1,d2⟩
 rotate_left 1
 iterate 3
  ·have hr:F=none:=by rw[c.o,ym (by omega)]
   subst hr
   go_wp2_with (first
   |(go_at_call 59;refine (a.o.cu.yes (by assumption)).mono ?_;rintro R w2 ⟨rfl,G,f⟩;have H2:=yb (a.o.call G f);clear G f a;have a:=H2;clear H2)
   |(go_at_call 59;refine (a.o.cu.no (by assumption)).mono ?_;rintro R w2 ⟨rfl,f⟩))
   exact ⟨rfl,rfl,f⟩
 replace c:Hid (F=_):=yb (c.o.trans (yz ⟨d0,d1,d2⟩))
 go_wp2_with (first
  |(go_at_call 59;refine (a.o.cu.yes (by assumption)).mono ?_;rintro R w2 ⟨rfl,G,f⟩;have H2:=yb (a.o.call G f);clear G f a;have a:=H2;clear H2))
 refine B.o _ _ ?_
 clear B K d0 d1 d2
 generalize w2=wr at a |-
 have p:Hid (WX src.farms x I.n u.n y.n r 0 y.n [] r):=yb (WX.start λv hv=>aa.o v (by simp[hv]))
 have bd:Hid ((-1073741824<=y.n/\y.n<=1073741824)/\(-1073741824<=u.n/\u.n<=1073741824)):=yb ⟨aa.o y (by simp),aa.o u (by simp)⟩
 obtain ⟨lf,cc⟩:∃h,h=L.farms:=⟨_,rfl⟩
 rw[<-cc] at an bp
 clear cc aa
 obtain ⟨fa,fn,fc⟩:=lf
 obtain ⟨ta,tn,tc⟩:=t
 have HX:Hid (∀V vs,NQ W0 Cb Rb vs ss xs V->V.cell? (aV (W0.heap.size+1) 0)=some (.string x.name)/\V.cell? (aV (W0.heap.size+1) 2)=some (iV x.on.n)/\V.cell? (aV (W0.heap.size+1) 3)=some (iV x.rank)/\V.cell? (aV (W0.heap.size+1) 22)=some (.slice ta tn tc)/\V.cell? (aV W0.heap.size 22)=some (.slice fa fn fc)):=yb (λV vs hV=>by
  have h1:=hV.x
  have h2:=hV.s
  rw[co.o] at h1
  rw[bp.o] at h2
  simp[World.cell?,h1,h2,B6,AA.v])
 have J:Hid (tn=x.turns.length):=yb bw.o.1
 obtain ⟨y0,y2,y3,U,P⟩:=HX.o _ _ a.o
 refine Ai λK B=>?_
 obtain ⟨bt,ck⟩:∃b,decide (0 < tn)=b:=⟨_,rfl⟩
 have aq:=yb ck
 have HY:=yb (λw=>Ei 190 w)
 have b3:=yb (λw=>Fa 190 w)
 cases bt
 ·have hr:F=none:=by rw[c.o,yz (by have h:=aq.o;have h2:=J.o;simp at h;omega)]
  subst hr
  go_wp2_with (go_at_call 29;with_reducible refine (b3.o _).mono ?_;rintro R w3 ⟨rfl,rfl⟩)
  exact ⟨rfl,rfl,a.o.cu.bel⟩
 replace c:Hid (F=_):=yb (c.o.trans (ym (by have h:=aq.o;have h2:=J.o;simp at h;omega)))
 go_wp2_with (go_at_call 29;with_reducible refine (HY.o _).mono ?_;rintro R w3 ⟨rfl,hw⟩;obtain rfl:wr=w3:=hw.symm)
 refine B.o _ _ ?_
 clear B K ck
 refine Ai λK B=>?_
 go_wp2
 refine B.o _ _ ?_
 clear B K
 refine Ai λK B=>?_
 go_wp2_with fail
 clear y0 y2 y3 U P
 have l:Hid (wr.ownsRow (W0.heap.size+2) 62 10 (.slice none 0 0) ([]:List CA).length (([]:List CA).flatMap AZ)):=yb (zU _ _ _ _)
 go_loopw [31,6,10,11] (λiv lv sv ev wr=>∃(i:Nat) (st:Int) (acc:List CA) (rest:List Rt) (vv:Value),i<=tn/\iv=iV i/\lv=vv/\sv=iV st/\ev=iV (st - y.n)/\Hid (NQ W0 Cb Rb rest ss xs wr)/\Hid (wr.ownsRow (W0.heap.size+2) 62 10 vv acc.length (acc.flatMap AZ))/\Hid (WX src.farms x I.n u.n y.n r i st acc rest)) (λiv _ _ _ _=>tn - (intOf iv).toNat)
 case atStart=>exact ⟨0,y.n,[],r,_,yC _,rfl,rfl,rfl,by simp,a,l,p⟩
 clear a l p
 obtain ⟨i,st,acc,rest,vv,hi,rfl,cq,rfl,rfl,a,l,p⟩:=hrel
 obtain rfl:=cq.symm
 by_cases z:i < tn
 ·have X:i < x.turns.length:=by rw[<-J.o];exact z
  have c9:wrap64 ((i:Int)+1)=((i+1:Nat):Int):=by rw[Ay (by have:=a7.o;omega)];push_cast;rfl
  have d8:=yb c9
  clear c9
  obtain ⟨v,M,au⟩:∃v r2,rest=v::r2:=by
   have h1:=p.o.many
   have h2:=az.o
   cases rest with
   |nil=>simp at h1;omega
   |cons v r2=>exact ⟨v,r2,rfl⟩
  subst au
  obtain ⟨b,o,row,bg,ap,H,c8,ax⟩:=bw.o.2.2 i X
  dsimp only at bg
  subst bg
  obtain ⟨k,hk⟩:∃k,x.turns[i]'X=k:=⟨_,rfl⟩
  rw[hk] at ax
  have E:Hid (∃h:i < x.turns.length,x.turns[i]'h=k):=yb ⟨X,hk⟩
  obtain ⟨-,ce,C,cg⟩:=ax
  obtain ⟨ae,pe,rfl, -⟩:=cg.cells
  clear cg
  have bj:Hid (wr.rangeAt b (o+i*8) row):=yb (A8 c8 (a.o.cu.bel.block _ (a6.o b ap).1 (a6.o b ap).2))
  have HL:=yb H
  have ag:=yb C
  have ac:Hid (∀v∈row,v.oneCell'=true):=yb (by rw[C];simp[B6,Value.oneCell'])
  have ci:Hid (NQ W0 Cb Rb (v::M) ss xs (wr.alloc (.cells row.toArray 65))):=yb (a.o.up ((yg _ _).alloc (yi _) _))
  have cj:Hid ((wr.alloc (.cells row.toArray 65)).ownsRow (W0.heap.size+2) 62 10 vv acc.length (acc.flatMap AZ)):=yb (l.o.alloc _)
  have m:Hid ((wr.alloc (.cells row.toArray 65)).heap[wr.heap.size]?=some (.cells row.toArray 65 (0,0))):=yb (World.alloc_heap_new _ _)
  have bb:Hid (W0.heap.size<=wr.heap.size):=yb a.o.cu.bel.size
  have am:(i:Int) < (tn:Int):=by omega
  clear hk c8 ap H C hi z X
  go_upto_region 7 with (first
   |(with_reducible refine yj rfl 65 _ rfl b (o+i*8) (by kernel_rfl) row _ bj.o jx (by kernel_rfl) (by rw[HL.o];kernel_rfl) ?_)
   |(with_reducible refine yt rfl 65 _ _ rfl wr.heap.size row.toArray (by kernel_rfl) (by kernel_rfl) 65 _ (World.alloc_heap_new _ _) (by rw[yA,HL.o];kernel_rfl) (by simp[HL.o]) (yL ac.o) ?_;rw[World.setRow_alloc_new]))
  generalize f:wr.heap.size=bx at m bb |-
  clear f a l bj ac
  have a:=ci
  have l:=cj
  clear ci cj
  generalize wr.alloc _=wr at a l m |-
  rcases (by omega:v.d<=1\/1 < v.d) with dv|dv
  rotate_left 1
  ·have hr:F=none:=by
    obtain ⟨h,h2⟩:=E.o
    rw[c.o,p.o.bad h (.inl (by omega))]
   subst hr
   go_wp2_with ((go_at_call 59;refine (a.o.cu.no (by assumption)).mono ?_;rintro R w2 ⟨rfl,f⟩))
   exact ⟨rfl,rfl,f⟩
  go_upto_region 8 with ((go_at_call 59;refine (a.o.cu.yes (by assumption)).mono ?_;rintro R w2 ⟨rfl,G,f⟩;have H2:=yb (a.o.call G f);have b0:=yb f;clear G f a;have a:=H2;clear H2))
  have T:=b0.o
  have S:Hid (w2.ownsRow (W0.heap.size+2) 62 10 vv acc.length (acc.flatMap AZ)):=yb (Da l.o λk hk=>by
   have:=El l.o k hk
   exact T.block k this.2 (by have:=b4.o.1;omega))
  have A:Hid (w2.heap[bx]?=some (.cells row.toArray 65 (0,0))):=yb ((T.block bx (yd.1 m.o).1 (by have:=b4.o.1;have:=bb.o;omega)).trans m.o)
  have ai:bx < w2.heap.size:=(yd.1 A.o).1
  clear T l m
  have l:=S
  have m:=A
  clear S A b0
  generalize w2=wr at a l m ai |-
  obtain ⟨fi,Z⟩:∃fi:Nat,k.farm.n=(fi:Int):=by
   obtain ⟨h,h2⟩:=E.o
   have:=b8.o k (by rw[<-h2];exact yR h)
   exact ⟨k.farm.n.toNat,by omega⟩
  have av:fi < src.farms.length:=by
   obtain ⟨h,h2⟩:=E.o
   have:=b8.o k (by rw[<-h2];exact yR h)
   omega
  have cr:fn=src.farms.length:=an.o.1
  obtain ⟨fb,fo,dz,bq,aw,ay,af,cv⟩:=an.o.2.2 fi av
  dsimp only at bq
  subst bq
  obtain ⟨-, -, -,fe,aj, -⟩:=cv
  have cf:wr.cell? (aV fb (fo+fi*12+2))=some (iV (src.farms[fi]).on.n):=by
   have h:=A8 af (a.o.cu.bel.block _ (a6.o fb aw).1 (a6.o fb aw).2)
   exact h 2 _ (by rw[aj];rfl)
  have ao:wr.cell? (aV bx 1)=some (iV fi):=by
   have h:=m.o
   rw[ag.o] at h
   simp[World.cell?,h,B6,Z]
  obtain ⟨q1,al⟩:∃q,decide (1<=v.n)=q:=⟨_,rfl⟩
  obtain ⟨q2,a8⟩:∃q,((src.farms[fi]).on.n==x.on.n)=q:=⟨_,rfl⟩
  have bu:Hid (US src.farms x k v.n=(q1&&q2)):=yb (by
   unfold US
   rw[al,Z,Int.toNat_natCast,yk av,<-a8,Hz]
   simp)
  have bm:(fi:Int) < (fn:Int):=by omega
  have bi:(0:Int)<=(fi:Int):=by omega
  have db:=yb Z
  generalize (src.farms[fi]).on.n=fon at cf a8
  clear Z av cr af aj ay aw
  obtain ⟨y0,y2,y3,U,P⟩:=HX.o _ _ a.o
  refine aU (s:=W0.heap.size) (xb:=W0.heap.size+1) (bx:=bx) (fb:=fb) (fo:=fo) (fi:=fi) (fn:=fn) (fc:=fc) (n:=v.n) (fon:=fon) (xon:=x.on.n) (q1:=q1) (q2:=q2) _ rfl rfl rfl rfl rfl rfl P ao cf y2 bm al a8 (λW D ba b9 bo=>?_) (λW D cp=>?_)
  rotate_left 1
  ·have hr:F=none:=by
    obtain ⟨h,h2⟩:=E.o
    rw[c.o,p.o.bad h (.inr (by rw[h2,bu.o];exact W))]
   subst hr
   exact ⟨cp,rfl,a.o.cu.bel.drew⟩
  have e:=Kg [37,38,39,40,41,42,43,44,45,46,47,48,49,50,51,52,53,54] (ba.trans rfl) b9 bo
  simp only[List.foldl_cons,List.foldl_nil,zT,zX,zY] at e
  generalize D.tmps.getD 37 undef=dn at e
  generalize D.tmps.getD 38 undef=du at e
  generalize D.tmps.getD 39 undef=de at e
  generalize D.tmps.getD 40 undef=dj at e
  generalize D.tmps.getD 41 undef=dd at e
  generalize D.tmps.getD 42 undef=dp at e
  generalize D.tmps.getD 43 undef=e3 at e
  generalize D.tmps.getD 44 undef=dk at e
  generalize D.tmps.getD 45 undef=dx at e
  generalize D.tmps.getD 46 undef=v46 at e
  generalize D.tmps.getD 47 undef=di at e
  generalize D.tmps.getD 48 undef=dg at e
  generalize D.tmps.getD 49 undef=dm at e
  generalize D.tmps.getD 50 undef=dc at e
  generalize D.tmps.getD 51 undef=v51 at e
  generalize D.tmps.getD 52 undef=dw at e
  generalize D.tmps.getD 53 undef=dr at e
  generalize D.tmps.getD 54 undef=dh at e
  subst e
  have cz:Hid (WX src.farms x I.n u.n y.n r (i+1) (st+v.n) (acc++[ZV x I.n u.n st k v.n]) M):=yb (by
   obtain ⟨h,h2⟩:=E.o
   have:=p.o.next h dv (by rw[h2,bu.o];exact W)
   rwa [h2] at this)
  have d5:Hid (-1073741824<=v.n/\v.n<=1073741824):=yb (p.o.small v (by simp))
  clear ba b9 bo W ao cf y0 y2 y3 U P al a8 bm bi dv
  have be:=yb a.o.drew
  have S:Hid (wr.drew.ownsRow (W0.heap.size+2) 62 10 vv acc.length (acc.flatMap AZ)):=yb l.o.drew
  have A:Hid (wr.drew.heap[bx]?=some (.cells row.toArray 65 (0,0))):=m
  clear a l m ai
  have a:=be
  have l:=S
  have m:=A
  clear be S A
  generalize wr.drew=wr at a l m |-
  obtain ⟨y0,y2,y3,U,P⟩:=HX.o _ _ a.o
  have ao:wr.cell? (aV bx 1)=some (iV k.farm.n):=by
   have h:=m.o
   rw[ag.o] at h
   simp[World.cell?,h,B6]
  clear y2 U P
  have b7:Hid (W0.heap.size+1 < wr.heap.size):=yb (yd.1 a.o.x).1
  have d6:Hid ((acc.length+1)*128<=140737488355328):=yb (by
   obtain ⟨h, -⟩:=E.o
   have h1:=p.o.len
   have h2:=a7.o
   omega)
  have cm:Hid (∀o:Obj,W0.heap.size+2<=(wr.alloc o).heap.size):=yb (λo=>by have:=b7.o;simp;omega)
  have bh:IntKind.i64.wrap (st+v.n)=st+v.n/\IntKind.i64.wrap (st - y.n+v.n)=st+v.n - y.n:=by
   obtain ⟨h, -⟩:=E.o
   have h1:=p.o.near
   have h2:=a7.o
   have h3:=d5.o
   have h4:=bd.o
   rw[zF,zF]
   omega
  obtain ⟨dl,dq⟩:=bh
  have dt:W0.heap.size+1≠wr.heap.size:=by have:=b7.o;omega
  go_wp2_with (refine yZ rfl λK9 cl=>?_;refine Dn jc (.tmp 55) (.tmp 68) rfl 10 (by kernel_rfl) (by decide) (W0.heap.size+2) vv acc.length (acc.flatMap AZ) (by kernel_rfl) (l.o.alloc _) wr.heap.size 1 (AZ (ZV x I.n u.n st k v.n)) (by kernel_rfl) (World.alloc_heap_new _ _) rfl (by simp[AZ,Value.oneCell']) d6.o (cm.o _) ?_;intro v9 w9 ah bv da;refine cl _ _ ?_;clear cl;have cx:=yb ((a.o.up ((yg _ _).alloc (yi _) _)).grown bv (λk hk=>(El l.o k (by unfold ob;rw[hk];simp)).1));have d7:=yb ah;clear ah bv da)
  rw[d8.o]
  refine ⟨⟨i+1,st+v.n,acc++[ZV x I.n u.n st k v.n],M,v9,?_,rfl,rfl,rfl,rfl,cx,yb ?_,cz⟩,?_⟩
  ·obtain ⟨h, -⟩:=E.o
   have:=J.o
   omega
  ·have h:=d7.o
   simpa using h
  obtain ⟨h, -⟩:=E.o
  have:=J.o
  simp[intOf];omega
 obtain rfl:i=tn:=by omega
 have am:decide ((i:Int) < (i:Int))=false:=by simp
 have HEq:Hid (Cr src.farms x I.n u.n y.n x.turns r=some ((acc,st),rest)):=yb (by
  rw[p.o.eq,List.drop_eq_nil_of_le (by have:=J.o;omega)]
  unfold Cr
  simp)
 clear z hi
 go_wp2
 refine B.o _ _ ?_
 clear B
 refine Ai λK B=>?_
 have dy:IntKind.i64.wrap (u.n+1)=u.n+1:=by
  have:=bd.o
  rw[zF];omega
 rcases (by omega:st<=u.n+1\/u.n+1 < st) with Q|Q
 rotate_left 1
 ·have hr:F=none:=by rw[c.o,HEq.o];exact ym (by omega)
  have R:decide (st<=u.n+1)=false:=by simpa using Q
  subst hr
  clear Q
  go_wp2_with (go_at_call 29;with_reducible refine (b3.o _).mono ?_;rintro R w3 ⟨rfl,hw⟩;obtain rfl:=hw.symm)
  exact ⟨rfl,rfl,a.o.cu.bel⟩
 have hr:F=some (acc.map (JQ (st - y.n)),rest):=by rw[c.o,HEq.o];exact yz Q
 have R:decide (st<=u.n+1)=true:=by simpa using Q
 subst hr
 clear Q
 have ad:Hid (acc.length<=1000000/\0 < acc.length):=yb (by have h1:=p.o.len;have h2:=a7.o;have h3:=J.o;have h4:=aq.o;simp at h4;omega)
 generalize st - y.n=ev at*
 obtain ⟨g,cap,cn⟩:=MZ l.o ad.o.2
 subst cn
 go_wp2_with (go_at_call 29;with_reducible refine (HY.o _).mono ?_;rintro R w3 ⟨rfl,hw⟩;obtain rfl:=hw.symm)
 refine B.o _ _ ?_
 clear B
 replace l:Hid (wr.ownsRow (W0.heap.size+2) 62 10 (.slice (some (aV g 0)) acc.length cap) acc.length ((UT ev acc 0).flatMap AZ)):=yb (by rw[WZ];exact l.o)
 refine Ai λK B=>?_
 go_wp2_with fail
 go_loopw [84] (λiv wr=>∃j:Nat,j<=acc.length/\iv=iV j/\Hid (NQ W0 Cb Rb rest ss xs wr)/\Hid (wr.ownsRow (W0.heap.size+2) 62 10 (.slice (some (aV g 0)) acc.length cap) acc.length ((UT ev acc j).flatMap AZ))) (λiv _=>acc.length - (intOf iv).toNat)
 case atStart=>exact ⟨0,yC _,rfl,a,l⟩
 clear a l
 obtain ⟨j,hj,rfl,a,l⟩:=hrel
 by_cases z:j < acc.length
 ·have bn:wrap64 ((j:Int)+1)=((j+1:Nat):Int):=by rw[Ay (by have:=ad.o;omega)];push_cast;rfl
  have am:(j:Int) < (acc.length:Int):=by omega
  have c1:wr.cell? (aV g (j*10+8))=some (((UT ev acc j).flatMap AZ)[j*10+8]'(by rw[I5,Yd _ _ _ hj];omega)):=by
   rw[l.o.cellAt _ (by omega),yk]
  have f1:=l.o.frozenAt (j*10+8)
  have ca:=yb (l.o.stored (j*10+8) (iV ev))
  have cw:Hid (W0.heap.size+2<=g):=yb (El l.o g (by simp[ob,Value.ownBlock])).1
  generalize ((UT ev acc j).flatMap AZ)[j*10+8]'_=old at c1
  have cy:=yb bn
  clear bn
  go_wp2
  rw[cy.o]
  refine ⟨⟨j+1,by omega,rfl,yb (a.o.grown ca.o.2 λk hk=>by cases hk;exact cw.o),yb ?_⟩,by simp[intOf];omega⟩
  have h:=ca.o.1
  rwa [WY _ _ _ z] at h
 obtain rfl:j=acc.length:=by omega
 have am:decide ((acc.length:Int) < (acc.length:Int))=false:=by simp
 clear z hj
 go_wp2
 refine B.o _ _ ?_
 clear B
 go_wp2
 go_ret
 refine ⟨_,rfl,?_,a.o.cu⟩
 have h:=l.o
 rw[Yc] at h
 rw[zh]
 exact N0 h (by omega)
end Go.Proofs.YtbdfinegbjdblaaGreatDoor
