/- The reference's Top: the expressions that are no argument (printed by gen_vb.py). -/
import Derived.Test.YtghepahgkcigpaaQ0
import Derived.Test.YtghepahgkcigpaaQ3
import Derived.Test.YtghepahgkcigpaaQ8
import Derived.Test.YtghepahgkcigpaaQ12
set_option maxRecDepth 100000
set_option maxHeartbeats 32000000
set_option linter.unusedSimpArgs false
namespace Go.Proofs.Ytghepahgkcigpaa
open Go.RowKit
def Hx(B:Nat)(w:World)(v:Value)(rows:List LV):Prop:=w.ownsRow B 26 6 v rows.length rows.flatten
theorem Tc(B:Nat)(w:World):Hx B w (.slice none 0 0) []:=⟨rfl,.inl ⟨rfl,rfl⟩⟩
theorem Hx.up{B:Nat}{w w':World}{v:Value}{l:List LV}(h:Hx B w v l)(hb:Below w.heap.size w w'):Hx B w' v l:=by
 obtain ⟨h1,h2⟩:=h
 refine ⟨h1,h2.imp id ?_⟩
 rintro ⟨g,cap,a,h3,h4,h5,h6⟩
 exact ⟨g,cap,a,h3,h4,(hb.block g (yd.1 h5).1).trans h5,h6⟩
theorem EX{B:Nat}{c w w':World}{v:Value}{l:List LV}(d:Below B c w)(i:B<=w.heap.size)(f:Hx B w v l)(a:w.grownBy w' v.ownBlock):Below B c w':=by
 refine d.trans ⟨a.os,a.tape,a.output,a.size,fun b hb=>a.block b (by omega) (fun e=>?_)⟩
 rcases f.2 with ⟨rfl,_⟩|⟨g,cap,h,rfl,h4,_⟩
 ·cases e
 ·simp only[Value.ownBlock,yZ] at e
  omega
theorem BU{ops:Array Oper}{rest:List Oper}{o:Oper}{a:Act}{Q:QT}{W:World}(B:Nat)(G:o.guard=none)(s x:Operand)(H:o.op=.call {callee:=.builtin .append,args:=#[s,x],argTypes:=#[24,24]})
 (v:Value)(rows:List LV)(hs:a.eval s=v)(b:Hx B W v rows)(g m c:Nat)(f:List LV)(row:Array Value)(E:a.eval x=.slice (some ⟨g,0,none⟩) m c)(M:m=f.length)(P:W.heap[g]?=some (.cells row 26 (0,0)))(d:row.toList=f.flatten)(r:∀u∈row.toList,u.oneCell'=true)(z:row.toList.length=f.length*6)
 (J:rows.length+f.length<=1000000000)(k:B<=W.heap.size)
 (h:∀(L:Option Addr) (n c:Nat) w',Hx B w' (.slice L n c) (rows++f)->W.grownBy w' v.ownBlock->wpList Try.prog ops Q rest (a.put o.dst (.slice L n c)) w'):wpList Try.prog ops Q (o::rest) a W:=by
 subst M
 refine yF G fun K I=>?_
 have l:(Try.prog.info? 26).map (fun i=>(i.zero,i.size,i.bytes))=some (some (.agg #[iV 0,iV 0,iV 0,.string ⟨#[]⟩,iV 0,.slice none 0 0]),6,72):=by kernel_rfl
 obtain ⟨N,hi,C,t,A⟩:=info_parts l
 by_cases h0:f=[]
 ·subst h0
  have q:=FZ qE hi W B o.type v rows.length _ (by have:=b;unfold Hx at this;rw[<-t] at this;exact this) (some (aV g 0)) c
  obtain ⟨va,F,w,rfl⟩:∃a n c,v=.slice a n c:=by
   rcases b.2 with ⟨rfl,O⟩|⟨g,cap,D,rfl,_⟩
   ·exact ⟨_,_,_,rfl⟩
   ·exact ⟨_,_,_,rfl⟩
  unfold Oper.wp
  simp only[yK] at E
  simp[execOp,H,resolve,invoke,builtin,hs,E,q,Result.andThen]
  exact I _ _ (h va F w W (by simpa using b) ⟨rfl,rfl,rfl,ye _,fun _ _ _=>rfl⟩)
 ·have p:∀j u,f.flatten[j]?=some u->W.cell? (((aV g 0):Addr).add j)=some u:=fun j u R=>by
   rw[zx,<-d] at*
   simp only[World.cell?,P]
   simpa using R
  refine qt W s x 24 H B 26 N _ 6 72 qE hi C t A rfl (by decide) v rows.length _ hs b (aV g 0) f.length c f.flatten E (by rw[<-d];exact z) p (by rw[<-d];exact r) (by unfold maxLen;omega) (by omega) k ?_
  intro v' w' e y _
  obtain ⟨va,F,w,rfl⟩:∃a n c,v'=.slice a n c:=by
   rcases e.2 with ⟨rfl,O⟩|⟨g,cap,D,rfl,_⟩
   ·exact ⟨_,_,_,rfl⟩
   ·exact ⟨_,_,_,rfl⟩
  exact I _ _ (h va F w w' (by unfold Hx;rw[yi,List.flatten_append];exact e) y)
def DZ(d:AI):List Ex:=[d.delay,d.cap,d.bank,d.siphon,d.evap0,d.evap1,d.seep0,d.seep1]
def FT(d:AS):List Ex:=[d.flow,d.frm,d.to]++d.turns.flatMap fun k=> [k.len]
def E0(d:AJ):List Ex:=[d.flow,d.frm,d.to,d.every,d.len]
def OI(x:AA):List Ex:=x.lets.flatMap fun d=> [d.value]
def IY(x:AA):List Ex:=OI x++[x.season,x.cap,x.start]
def Ju(x:AA):List Ex:=IY x++x.crops.flatMap fun d=> [d.need]
def Jv(x:AA):List Ex:=Ju x++x.reaches.flatMap DZ
def Ha(x:AA):List Ex:=Jv x++x.farms.flatMap fun d=> [d.area]
def Jw(x:AA):List Ex:=Ha x++x.rots.flatMap FT
def Jy(x:AA):List Ex:=Jw x++x.rights.flatMap E0
def BJ(x:AA):List Ex:=Jy x++x.duties.flatMap fun d=> [d.due]
theorem Ck{α β:Type}{l:List α}{f:α->List β}{i:Nat}(h:i < l.length):(l.take (i+1)).flatMap f=(l.take i).flatMap f++f l[i]:=by
 rw[yr h,zD];simp
theorem CO{α β:Type}{l:List α}{f:α->List β}{c i:Nat}(h:∀a∈l,(f a).length<=c):((l.take i).flatMap f).length<=l.length*c:=by
 have h1:=B6 (l:=l.take i) (f:=f) (c:=c) (fun a b=>h a (xw b))
 have h2:(l.take i).length<=l.length:=by simp;omega
 exact yo h1 (Nat.mul_le_mul_right _ h2)
structure Fw (x:AA):Prop where
 lets:x.lets.length<=100
 crops:x.crops.length<=100
 reaches:x.reaches.length<=100
 farms:x.farms.length<=100
 rots:x.rots.length<=70
 rights:x.rights.length<=300
 duties:x.duties.length<=300
 turns:∀d∈x.rots,d.turns.length<=70
structure Xf (x:AA):Prop where
 t1:(OI x).length<=100
 t2:(IY x).length<=103
 t3:(Ju x).length<=203
 t4:(Jv x).length<=1003
 t5:(Ha x).length<=1103
 t6:(Jw x).length<=6213
 t7:(Jy x).length<=7713
 tE:(BJ x).length<=8013
theorem Fw.top{x:AA}(h:Fw x):Xf x:=by
 have e1:(OI x).length<=x.lets.length*1:=B6 fun _ _=>by simp
 have o:(x.crops.flatMap fun d=> [d.need]).length<=x.crops.length*1:=B6 fun _ _=>by simp
 have n:(x.reaches.flatMap DZ).length<=x.reaches.length*8:=B6 fun _ _=>by simp[DZ]
 have a:(x.farms.flatMap fun d=> [d.area]).length<=x.farms.length*1:=B6 fun _ _=>by simp
 have e:(x.rots.flatMap FT).length<=x.rots.length*73:=B6 fun d hd=>by
  have h1:(d.turns.flatMap fun k:BM=> [k.len]).length<=d.turns.length*1:=B6 fun _ _=>by simp
  have:=h.turns d hd
  simp only[FT,yi,yC,yK];omega
 have i:(x.rights.flatMap E0).length<=x.rights.length*5:=B6 fun _ _=>by simp[E0]
 have l:(x.duties.flatMap fun d=> [d.due]).length<=x.duties.length*1:=B6 fun _ _=>by simp
 have:=h.lets;have:=h.crops;have:=h.reaches;have:=h.farms;have:=h.rots;have:=h.rights;have:=h.duties
 have b:(IY x).length=(OI x).length+3:=by unfold IY;simp
 have m:(Ju x).length=(IY x).length+(x.crops.flatMap fun d=> [d.need]).length:=by unfold Ju;rw[yi]
 have c:(Jv x).length=(Ju x).length+(x.reaches.flatMap DZ).length:=by unfold Jv;rw[yi]
 have j:(Ha x).length=(Jv x).length+(x.farms.flatMap fun d=> [d.area]).length:=by unfold Ha;rw[yi]
 have g:(Jw x).length=(Ha x).length+(x.rots.flatMap FT).length:=by unfold Jw;rw[yi]
 have f:(Jy x).length=(Jw x).length+(x.rights.flatMap E0).length:=by unfold Jy;rw[yi]
 have p:(BJ x).length=(Jy x).length+(x.duties.flatMap fun d=> [d.due]).length:=by unfold BJ;rw[yi]
 constructor<;>omega
structure L3 (B:Nat) (N:Nat->Prop) (w0:World) (es:List Ex) (wr:World) (v:Value):Prop where
 below:Below B w0 wr
 size:B<=wr.heap.size
 own:∃rows,Hx B wr v rows∧AW (fun cs e=>Bh N w0 e cs) rows es
theorem AW.len{α β:Type}{R:α->β->Prop}{l:List α}{m:List β}(h:AW R l m):l.length=m.length:=h.length
def UA(N:NP)(w:World)(b o:Nat)(e:Ex):Prop:=N b∧∃c,w.rangeAt b o c∧Bh N w e c
theorem Lw{N:NP}{w:World}{b o:Nat}{p c q:LV}{e:Ex}{off:Nat}(hN:N b)(d:w.rangeAt b o (p++(c++q)))(a:p.length=off)(f:Bh N w e c):UA N w b (o+off) e:=by
 have:=Bn d
 rw[a] at this
 exact ⟨hN,c,this,f⟩
structure Xg (N:Nat->Prop) (w:World) (L:BL) (x:AA):Prop where
 lets:∀i (hi:i < x.lets.length),∃b o,L.lets.a=some ⟨b,o,none⟩∧UA N w b (o+i*7+1) x.lets[i].value
 crops:∀i (hi:i < x.crops.length),∃b o,L.crops.a=some ⟨b,o,none⟩∧UA N w b (o+i*7+1) x.crops[i].need
 farms:∀i (hi:i < x.farms.length),∃b o,L.farms.a=some ⟨b,o,none⟩∧UA N w b (o+i*12+4) x.farms[i].area
 duties:∀i (hi:i < x.duties.length),∃b o,L.duties.a=some ⟨b,o,none⟩∧UA N w b (o+i*11+5) x.duties[i].due
theorem Ba.XM{N:NP}{w:World}{L:BL}{cs:LV}{x:AA}(h:Ba N w L cs x):Xg N w L x:=by
 refine ⟨fun i hi=>?_,fun i hi=>?_,fun i hi=>?_,fun i hi=>?_⟩
 ·obtain ⟨b,o,c,g1,e,f,a,_,c1,rfl,d⟩:=h.lets.2.2 i hi
  exact ⟨b,o,g1,Lw (p:=[.string (x.lets[i]).name]) (q:=[]) e (by simpa using a) rfl d⟩
 ·obtain ⟨b,o,c,g1,e,f,a,_,c1,rfl,d⟩:=h.crops.2.2 i hi
  exact ⟨b,o,g1,Lw (p:=[.string (x.crops[i]).name]) (q:=[]) e (by simpa using a) rfl d⟩
 ·obtain ⟨b,o,c,g1,e,f,a,_,_,_,c1,rfl,d⟩:=h.farms.2.2 i hi
  exact ⟨b,o,g1,Lw (p:=.string (x.farms[i]).name::(Ad (x.farms[i]).on++[.bool (x.farms[i]).river])) (q:=Ad (x.farms[i]).crop) e (by simpa using a) rfl d⟩
 ·obtain ⟨b,o,c,g1,e,f,a,_,_,_,c1,rfl,d⟩:=h.duties.2.2 i hi
  exact ⟨b,o,g1,Lw (p:=.string (x.duties[i]).name::(Ad (x.duties[i]).farm++Ad (x.duties[i]).reach)) (q:=[]) e (by simpa using a) rfl d⟩
def F4(N:NP)(w W:World)(b o:Nat)(e:Ex):Prop:=∃c,W.rangeAt b o c∧Bh N w e c
theorem CU{N:NP}{w W:World}{b o:Nat}{p c q:LV}{e:Ex}(off:Nat)(d:W.rangeAt b o (p++(c++q)))(a:p.length=off)(f:Bh N w e c):F4 N w W b (o+off) e:=by
 have:=Bn d
 rw[a] at this
 exact ⟨c,this,f⟩
theorem Q7{N:NP}{w W:World}{b:Nat}{R:LV}{d:AI}(a:W.rangeAt b 0 R)(C:CY N w R d):F4 N w W b 3 d.delay∧F4 N w W b 9 d.cap∧F4 N w W b 15 d.bank∧F4 N w W b 21 d.siphon∧F4 N w W b 27 d.evap0∧F4 N w W b 33 d.evap1∧F4 N w W b 39 d.seep0∧F4 N w W b 45 d.seep1:=by
 obtain ⟨_,_,c0,c1,c2,j,l,s,A,E,rfl,n,v,r,t,u,x,y,B⟩:=C
 have c:=n.len;have f:=v.len;have g:=r.len;have i:=t.len;have m:=u.len;have o:=x.len;have D:=y.len
 have z:∀ {k:Nat} {e:Ex},F4 N w W b (0+k) e->F4 N w W b k e:=fun h=>by rwa [yD] at h
 refine ⟨z ?_,z ?_,z ?_,z ?_,z ?_,z ?_,z ?_,z ?_⟩
 ·exact CU (p:=.string d.name::Ad d.frm) _ (by simpa using a) rfl n
 ·exact CU (p:=.string d.name::(Ad d.frm++c0)) _ (by simpa using a) (by simp[A9,c]) v
 ·exact CU (p:=.string d.name::(Ad d.frm++(c0++c1))) _ (by simpa using a) (by simp[A9,c,f]) r
 ·exact CU (p:=.string d.name::(Ad d.frm++(c0++(c1++c2)))) _ (by simpa using a) (by simp[A9,c,f,g]) t
 ·exact CU (p:=.string d.name::(Ad d.frm++(c0++(c1++(c2++j))))) _ (by simpa using a) (by simp[A9,c,f,g,i]) u
 ·exact CU (p:=.string d.name::(Ad d.frm++(c0++(c1++(c2++(j++l)))))) _ (by simpa using a) (by simp[A9,c,f,g,i,m]) x
 ·exact CU (p:=.string d.name::(Ad d.frm++(c0++(c1++(c2++(j++(l++s))))))) _ (by simpa using a) (by simp[A9,c,f,g,i,m,o]) y
 ·exact CU (p:=.string d.name::(Ad d.frm++(c0++(c1++(c2++(j++(l++(s++A)))))))) (q:=[]) _ (by simpa using a) (by simp[A9,c,f,g,i,m,o,D]) B
theorem Q8{N:NP}{w W:World}{b:Nat}{R:LV}{d:AJ}(a:W.rangeAt b 0 R)(o:CQ N w R d):F4 N w W b 7 d.flow∧F4 N w W b 13 d.frm∧F4 N w W b 19 d.to∧F4 N w W b 25 d.every∧F4 N w W b 31 d.len:=by
 obtain ⟨_,_,_,c0,c1,c2,s,t,rfl,g,m,j,l,r⟩:=o
 have c:=g.len;have f:=m.len;have i:=j.len;have n:=l.len
 have z:∀ {k:Nat} {e:Ex},F4 N w W b (0+k) e->F4 N w W b k e:=fun h=>by rwa [yD] at h
 refine ⟨z ?_,z ?_,z ?_,z ?_,z ?_⟩
 ·exact CU (p:=iV d.kind::.string d.name::(Ad d.farm++(Ad d.reach++[iV d.rank]))) _ (by simpa using a) rfl g
 ·exact CU (p:=iV d.kind::.string d.name::(Ad d.farm++(Ad d.reach++(iV d.rank::c0)))) _ (by simpa using a) (by simp[A9,c]) m
 ·exact CU (p:=iV d.kind::.string d.name::(Ad d.farm++(Ad d.reach++(iV d.rank::(c0++c1))))) _ (by simpa using a) (by simp[A9,c,f]) j
 ·exact CU (p:=iV d.kind::.string d.name::(Ad d.farm++(Ad d.reach++(iV d.rank::(c0++(c1++c2)))))) _ (by simpa using a) (by simp[A9,c,f,i]) l
 ·exact CU (p:=iV d.kind::.string d.name::(Ad d.farm++(Ad d.reach++(iV d.rank::(c0++(c1++(c2++s))))))) (q:=[]) _ (by simpa using a) (by simp[A9,c,f,i,n]) r
theorem Td{N:NP}{w W:World}{b:Nat}{R:LV}{h:AF}{d:AS}(g:W.rangeAt b 0 R)(o:I6 N w h R d):F4 N w W b 4 d.flow∧F4 N w W b 10 d.frm∧F4 N w W b 16 d.to∧R[22]?=some h.v∧B7 N w 8 (Fv N w) h d.turns:=by
 obtain ⟨_,_,c0,c1,c2,rfl,i,m,l,n⟩:=o
 have c:=i.len;have f:=m.len;have j:=l.len
 have z:∀ {k:Nat} {e:Ex},F4 N w W b (0+k) e->F4 N w W b k e:=fun h=>by rwa [yD] at h
 have a:(Value.string d.name::(Ad d.on++(iV d.rank::(c0++(c1++(c2++[h.v]))))))[22]?=some h.v:=by
  have e:(Value.string d.name::(Ad d.on++(iV d.rank::(c0++(c1++(c2++[h.v]))))))=(Value.string d.name::(Ad d.on++(iV d.rank::(c0++(c1++c2)))))++[h.v]:=by simp
  rw[e,yJ (by simp[A9,c,f,j])]
  simp[A9,c,f,j]
 refine ⟨z ?_,z ?_,z ?_,a,n⟩
 ·exact CU (p:=.string d.name::(Ad d.on++[iV d.rank])) _ (by simpa using g) rfl i
 ·exact CU (p:=.string d.name::(Ad d.on++(iV d.rank::c0))) _ (by simpa using g) (by simp[A9,c]) m
 ·exact CU (p:=.string d.name::(Ad d.on++(iV d.rank::(c0++c1)))) _ (by simpa using g) (by simp[A9,c,f]) l
theorem Rn{N:NP}{w W:World}{L:BL}{b:Nat}{R:LV}{x:AA}(a:W.rangeAt b 0 R)(i:Ba N w L R x):F4 N w W b 1 x.season∧F4 N w W b 7 x.cap∧F4 N w W b 13 x.start:=by
 obtain ⟨c0,c1,c2,rfl,c,f,j⟩:=i.cells
 have d:=c.len;have g:=f.len
 have z:∀ {k:Nat} {e:Ex},F4 N w W b (0+k) e->F4 N w W b k e:=fun h=>by rwa [yD] at h
 refine ⟨z ?_,z ?_,z ?_⟩
 ·exact CU (p:=[.string x.name]) _ (by simpa using a) rfl c
 ·exact CU (p:=.string x.name::c0) _ (by simpa using a) (by simp[d]) f
 ·exact CU (p:=.string x.name::(c0++c1)) _ (by simpa using a) (by simp[d,g]) j
theorem UB{B:Nat}{w:World}{v:Value}{rows:List LV}(h:Hx B w v rows){g:Nat}{c:Array Value}{ty:TypeId}(d:w.heap[g]?=some (.cells c ty (0,0)))(f:ty≠26):v.ownBlock≠some g:=fun e=>by
 rcases h.2 with ⟨rfl,_⟩|⟨k,cap,b,rfl,_,a,_⟩
 ·cases e
 ·cases e
  rw[d] at a
  cases a
  exact f rfl
theorem Te{B b:Nat}{w:World}{v:Value}{l:List LV}(h:Hx B w v l)(hb:b<=B):Hx b w v l:=by
 obtain ⟨h1,h2⟩:=h
 refine ⟨h1,h2.imp id ?_⟩
 rintro ⟨g,cap,a,e,h4,h5⟩
 exact ⟨g,cap,a,e,by omega,h5⟩
structure Vv (L:BL) (x:AA):Prop where
 lets:L.lets.n=x.lets.length
 crops:L.crops.n=x.crops.length
 reaches:L.reaches.n=x.reaches.length
 farms:L.farms.n=x.farms.length
 rots:L.rots.n=x.rots.length
 rights:L.rights.n=x.rights.length
 duties:L.duties.n=x.duties.length
theorem Lx{N:NP}{w:World}{L:BL}{cs:LV}{x:AA}(h:Ba N w L cs x)(hN:∀b,N b->b < w.heap.size)(ca:Fw x):
  Calls Try.prog 22 #[.agg cs.toArray] w fun e w'=>∃v,e=.returned v∧L3 w.heap.size N w (BJ x) w' v:=by
 have af:Hid (Vv L x):=ya ⟨h.lets.1,h.crops.1,h.reaches.1,h.farms.1,h.rots.1,h.rights.1,h.duties.1⟩
 have bg:=ya h.ok
 have b8:=ya ca.top
 have ax:=ya ca
 have ay:=ya h.at
 obtain ⟨w0,bo⟩:∃w0,w0=w.alloc (.cells cs.toArray 35):=⟨_,rfl⟩
 have cg:Below w.heap.size w w0:=by rw[bo];exact (yc _ _).alloc (ye _) _
 have cq:w0.heap.size=w.heap.size+1:=by rw[bo];simp
 have c9:w0.heap[w.heap.size]?=some (.cells cs.toArray 35 (0,0)):=by rw[bo];exact World.alloc_heap_new _ _
 have h0:Ba N w0 L cs x:=h.same (fun _ h=>h) (fun b hb=>cg.block b (hN b hb))
 have bv:=ya h0.XM
 have bk:=ya h0
 have cl:=ya cg;have df:=ya cq;have d5:=ya hN
 have ba:Hid (∀wr,Below (w.heap.size+1) w0 wr->∀q v,cs[q]?=some v->wr.cell? (aV w.heap.size q)=some v):=ya (fun wr c8 q v hq=>by
  have e:=c8.block w.heap.size (by omega)
  simp only[World.cell?,e,c9]
  simpa using hq)
 have b3:Hid (∀wr,Below (w.heap.size+1) w0 wr->∀b,N b->wr.heap[b]?=w0.heap[b]?):=ya (fun wr c8 b hb=>c8.block b (by have:=hN b hb;omega))
 have ch:Hid (w0.rangeAt w.heap.size 0 cs):=ya (by
  have:=yV c9 0 cs.length
  simpa using this)
 have X:Hid (L3 (w.heap.size+1) N w0 ([]++(x.lets.take 0).flatMap (fun d=> [d.value])) w0 (.slice none 0 0)):=ya ⟨yc _ _,by omega,[],Tc _ _,trivial⟩
 have cv:=ya bo
 clear cg cq c9 h0 hN ca bo
 obtain ⟨ks,ce⟩:∃ks,ks=cs:=⟨_,rfl⟩
 rw[<-ce] at ay bk ba ch
 have HK:=ya ce
 obtain ⟨c0,c1,c2,rfl,g0,g1,g2⟩:=h.cells
 obtain ⟨a0,p0,rfl,e0⟩:=g0.cells
 obtain ⟨a1,p1,rfl,e1⟩:=g1.cells
 obtain ⟨a2,p2,rfl,e2⟩:=g2.cells
 clear h g0 g1 g2 e0 e1 e2 ce
 unfold AF.v at*
 simp only[yL,yE] at cv HK ⊢
 go_enter Try.func22,Try.ntmps22
 go_upto_region 2 with fail
 rw[<-cv.o]
 go_wp2
 go_loopw [3,4] (fun v3 iv wr=>∃i:Nat,i<=L.lets.n∧iv=iV i∧Hid (L3 (w.heap.size+1) N w0 (([]:List Ex)++(x.lets.take i).flatMap (fun d=> [d.value])) wr v3)) (fun _ iv _=>L.lets.n - (intOf iv).toNat)
 case atStart=>exact ⟨0,yv _,rfl,X⟩
 case round=>
  clear X
  obtain ⟨i,hi,rfl,H⟩:=hrel
  have hf:wr.cell? (aV w.heap.size 19)=some (.slice L.lets.a L.lets.n L.lets.c):=ba.o wr H.o.below 19 _ ay.o.lets
  have ar:L.lets.n<=140737488355328:=bg.o.lets.1
  by_cases ag:i < L.lets.n
  ·have U:i < x.lets.length:=by rw[<-af.o.lets];exact ag
   have Z:(i:Int) < (L.lets.n:Int):=by omega
   obtain ⟨b,o,he,Y,c,V,aa⟩:=bv.o.lets i U
   rw[he] at hf
   have t:Hid (([]:List Ex)++(x.lets.take (i+1)).flatMap (fun d=> [d.value])=(([]:List Ex)++(x.lets.take i).flatMap (fun d=> [d.value]))++[x.lets[i].value]):=ya (by rw[Ck U,yg])
   have ae:(([]:List Ex)++(x.lets.take i).flatMap (fun d=> [d.value])).length<=20000:=by
    have h1:=CO (l:=x.lets) (f:=(fun d=> [d.value])) (c:=1) (i:=i) (fun _ _=>by simp)
    have h2:=b8.o.t1;have h3:=ax.o.lets
    rw[yi]
    simp only[yK]
    omega
   generalize x.lets[i].value=E at aa t
   have bd:=ya aa
   obtain ⟨a',p',rfl,_⟩:=aa.cells
   have bh:=ya (A1 V ((b3.o wr H.o.below) b Y))
   obtain ⟨rows,G,A⟩:=H.o.own
   have M:=ya G;have O:=ya A
   have K:Hid (rows.length+1<=1000000000):=ya (by rw[A.length];omega)
   clear V aa he G A ae Y
   have F:Hid (Below wr.heap.size wr (wr.alloc (.cells #[iV E.op,iV E.n,iV E.u,.string E.rn,iV E.ri,.slice a' E.args.length p'] 26))):=ya ((yc _ _).alloc (ye _) _)
   have I:=ya (M.o.up F.o)
   have a8:=ya (H.o.below.trans (F.o.mono H.o.size))
   have J:Hid ((wr.alloc (.cells #[iV E.op,iV E.n,iV E.u,.string E.rn,iV E.ri,.slice a' E.args.length p'] 26)).heap[wr.heap.size]?=some (.cells #[iV E.op,iV E.n,iV E.u,.string E.rn,iV E.ri,.slice a' E.args.length p'] 26 (0,0))):=ya (by
    have h:=World.alloc_heap_new wr (.cells #[iV E.op,iV E.n,iV E.u,.string E.rn,iV E.ri,.slice a' E.args.length p'] 26)
    exact h)
   have r:Hid ((w.heap.size+1)<=(wr.alloc (.cells #[iV E.op,iV E.n,iV E.u,.string E.rn,iV E.ri,.slice a' E.args.length p'] 26)).heap.size):=ya (yo H.o.size F.o.size)
   go_wp2_with (first|(refine yf rfl 26 _ rfl b (o+i*7+1) rfl [iV E.op,iV E.n,iV E.u,.string E.rn,iV E.ri,.slice a' E.args.length p'] _ bh.o qF rfl (by kernel_rfl) ?_)|(at_builtin;refine BU (w.heap.size+1) rfl _ _ rfl u3 rows rfl I.o (wr.heap.size) 1 1 [[iV E.op,iV E.n,iV E.u,.string E.rn,iV E.ri,.slice a' E.args.length p']] #[iV E.op,iV E.n,iV E.u,.string E.rn,iV E.ri,.slice a' E.args.length p'] rfl rfl J.o rfl (by simp[Value.oneCell']) rfl K.o r.o ?_;intro aw n5 c5 w5 y C;have ad:=ya y;have ac:=ya (EX a8.o r.o I.o C);have ab:Hid ((w.heap.size+1)<=w5.heap.size):=ya (yo r.o C.size);have aq:=ya C;clear y C))
   exact ⟨⟨i+1,by omega,by push_cast;rfl,ya ⟨ac.o,ab.o,_,ad.o,by rw[t.o];exact O.o.append ⟨bd.o,trivial⟩⟩⟩,by simp[intOf];omega⟩
  ·obtain rfl:i=L.lets.n:=by omega
   have Z:decide ((L.lets.n:Int) < (L.lets.n:Int))=false:=by simp
   have P:Hid (L3 (w.heap.size+1) N w0 (([]:List Ex)++x.lets.flatMap (fun d=> [d.value])) wr u3):=ya (by
    have h:=H.o
    rw[af.o.lets,yx] at h
    exact h)
   obtain ⟨⟨C0,r0,k0⟩,⟨C1,r1,k1⟩,⟨C2,r2,k2⟩⟩:=Rn (W:=wr) (A1 ch.o (P.o.below.block _ (zK _))) bk.o
   have bz:Hid (IY x=OI x++[x.season,x.cap,x.start]):=ya rfl
   generalize x.season=m at k0 bz
   generalize x.cap=g at k1 bz
   generalize x.start=j at k2 bz
   have ak:=ya k0;have ai:=ya k1;have aj:=ya k2
   obtain ⟨a0,p0,rfl,_⟩:=k0.cells
   obtain ⟨a1,p1,rfl,_⟩:=k1.cells
   obtain ⟨a2,p2,rfl,_⟩:=k2.cells
   have ap:=ya r0;have al:=ya r1;have am:=ya r2
   obtain ⟨rows,G,A⟩:=P.o.own
   have M:=ya G;have O:=ya A
   have K:Hid (rows.length+3<=1000000000):=ya (by
    have h2:=b8.o.t1
    have h3:rows.length=(OI x).length:=A.length
    omega)
   clear r0 r1 r2 G A
   have F:Hid (Below wr.heap.size wr (wr.alloc (.cells #[iV m.op,iV m.n,iV m.u,.string m.rn,iV m.ri,.slice a0 m.args.length p0,iV g.op,iV g.n,iV g.u,.string g.rn,iV g.ri,.slice a1 g.args.length p1,iV j.op,iV j.n,iV j.u,.string j.rn,iV j.ri,.slice a2 j.args.length p2] 26))):=ya ((yc _ _).alloc (ye _) _)
   have I:=ya (M.o.up F.o)
   have a8:=ya (P.o.below.trans (F.o.mono P.o.size))
   have J:Hid ((wr.alloc (.cells #[iV m.op,iV m.n,iV m.u,.string m.rn,iV m.ri,.slice a0 m.args.length p0,iV g.op,iV g.n,iV g.u,.string g.rn,iV g.ri,.slice a1 g.args.length p1,iV j.op,iV j.n,iV j.u,.string j.rn,iV j.ri,.slice a2 j.args.length p2] 26)).heap[wr.heap.size]?=some (.cells #[iV m.op,iV m.n,iV m.u,.string m.rn,iV m.ri,.slice a0 m.args.length p0,iV g.op,iV g.n,iV g.u,.string g.rn,iV g.ri,.slice a1 g.args.length p1,iV j.op,iV j.n,iV j.u,.string j.rn,iV j.ri,.slice a2 j.args.length p2] 26 (0,0))):=ya (by
    have h:=World.alloc_heap_new wr (.cells #[iV m.op,iV m.n,iV m.u,.string m.rn,iV m.ri,.slice a0 m.args.length p0,iV g.op,iV g.n,iV g.u,.string g.rn,iV g.ri,.slice a1 g.args.length p1,iV j.op,iV j.n,iV j.u,.string j.rn,iV j.ri,.slice a2 j.args.length p2] 26)
    exact h)
   have r:Hid ((w.heap.size+1)<=(wr.alloc (.cells #[iV m.op,iV m.n,iV m.u,.string m.rn,iV m.ri,.slice a0 m.args.length p0,iV g.op,iV g.n,iV g.u,.string g.rn,iV g.ri,.slice a1 g.args.length p1,iV j.op,iV j.n,iV j.u,.string j.rn,iV j.ri,.slice a2 j.args.length p2] 26)).heap.size):=ya (yo P.o.size F.o.size)
   go_wp2_with (first|(refine yf rfl 26 _ rfl w.heap.size (1) rfl [iV m.op,iV m.n,iV m.u,.string m.rn,iV m.ri,.slice a0 m.args.length p0] _ ap.o qF rfl (by kernel_rfl) ?_)|(refine yf rfl 26 _ rfl w.heap.size (7) rfl [iV g.op,iV g.n,iV g.u,.string g.rn,iV g.ri,.slice a1 g.args.length p1] _ al.o qF rfl (by kernel_rfl) ?_)|(refine yf rfl 26 _ rfl w.heap.size (13) rfl [iV j.op,iV j.n,iV j.u,.string j.rn,iV j.ri,.slice a2 j.args.length p2] _ am.o qF rfl (by kernel_rfl) ?_)|(at_builtin;refine BU (w.heap.size+1) rfl _ _ rfl u3 rows rfl I.o (wr.heap.size) 3 3 [[iV m.op,iV m.n,iV m.u,.string m.rn,iV m.ri,.slice a0 m.args.length p0],[iV g.op,iV g.n,iV g.u,.string g.rn,iV g.ri,.slice a1 g.args.length p1],[iV j.op,iV j.n,iV j.u,.string j.rn,iV j.ri,.slice a2 j.args.length p2]] #[iV m.op,iV m.n,iV m.u,.string m.rn,iV m.ri,.slice a0 m.args.length p0,iV g.op,iV g.n,iV g.u,.string g.rn,iV g.ri,.slice a1 g.args.length p1,iV j.op,iV j.n,iV j.u,.string j.rn,iV j.ri,.slice a2 j.args.length p2] rfl rfl J.o rfl (by simp[Value.oneCell']) rfl K.o r.o ?_;intro aw n5 c5 w5 y C;have ad:=ya y;have ac:=ya (EX a8.o r.o I.o C);have ab:Hid ((w.heap.size+1)<=w5.heap.size):=ya (yo r.o C.size);have aq:=ya C;clear y C))
   have X:Hid (L3 (w.heap.size+1) N w0 (IY x++(x.crops.take 0).flatMap (fun d=> [d.need])) w5 (.slice aw n5 c5)):=ya ⟨ac.o,ab.o,_,ad.o,by
    rw[zN,zB,yG,bz.o]
    exact O.o.append ⟨ak.o,ai.o,aj.o,trivial⟩⟩
   clear hf Z H P ad ac ab aq O M K J r a8 I F
   go_loopw [3,5] (fun v3 iv wr=>∃i:Nat,i<=L.crops.n∧iv=iV i∧Hid (L3 (w.heap.size+1) N w0 (IY x++(x.crops.take i).flatMap (fun d=> [d.need])) wr v3)) (fun _ iv _=>L.crops.n - (intOf iv).toNat)
   case atStart=>exact ⟨0,yv _,rfl,X⟩
   case round=>
    clear X
    obtain ⟨i,hi,rfl,H⟩:=hrel
    have hf:wr.cell? (aV w.heap.size 20)=some (.slice L.crops.a L.crops.n L.crops.c):=ba.o wr H.o.below 20 _ ay.o.crops
    have ar:L.crops.n<=140737488355328:=bg.o.crops.1
    by_cases ag:i < L.crops.n
    ·have U:i < x.crops.length:=by rw[<-af.o.crops];exact ag
     have Z:(i:Int) < (L.crops.n:Int):=by omega
     obtain ⟨b,o,he,Y,c,V,aa⟩:=bv.o.crops i U
     rw[he] at hf
     have t:Hid (IY x++(x.crops.take (i+1)).flatMap (fun d=> [d.need])=(IY x++(x.crops.take i).flatMap (fun d=> [d.need]))++[x.crops[i].need]):=ya (by rw[Ck U,yg])
     have ae:(IY x++(x.crops.take i).flatMap (fun d=> [d.need])).length<=20000:=by
      have h1:=CO (l:=x.crops) (f:=(fun d=> [d.need])) (c:=1) (i:=i) (fun _ _=>by simp)
      have h2:=b8.o.t2;have h3:=ax.o.crops
      rw[yi]
      skip
      omega
     generalize x.crops[i].need=E at aa t
     have bd:=ya aa
     obtain ⟨a',p',rfl,_⟩:=aa.cells
     have bh:=ya (A1 V ((b3.o wr H.o.below) b Y))
     obtain ⟨rows,G,A⟩:=H.o.own
     have M:=ya G;have O:=ya A
     have K:Hid (rows.length+1<=1000000000):=ya (by rw[A.length];omega)
     clear V aa he G A ae Y
     have F:Hid (Below wr.heap.size wr (wr.alloc (.cells #[iV E.op,iV E.n,iV E.u,.string E.rn,iV E.ri,.slice a' E.args.length p'] 26))):=ya ((yc _ _).alloc (ye _) _)
     have I:=ya (M.o.up F.o)
     have a8:=ya (H.o.below.trans (F.o.mono H.o.size))
     have J:Hid ((wr.alloc (.cells #[iV E.op,iV E.n,iV E.u,.string E.rn,iV E.ri,.slice a' E.args.length p'] 26)).heap[wr.heap.size]?=some (.cells #[iV E.op,iV E.n,iV E.u,.string E.rn,iV E.ri,.slice a' E.args.length p'] 26 (0,0))):=ya (by
      have h:=World.alloc_heap_new wr (.cells #[iV E.op,iV E.n,iV E.u,.string E.rn,iV E.ri,.slice a' E.args.length p'] 26)
      exact h)
     have r:Hid ((w.heap.size+1)<=(wr.alloc (.cells #[iV E.op,iV E.n,iV E.u,.string E.rn,iV E.ri,.slice a' E.args.length p'] 26)).heap.size):=ya (yo H.o.size F.o.size)
     go_wp2_with (first|(refine yf rfl 26 _ rfl b (o+i*7+1) rfl [iV E.op,iV E.n,iV E.u,.string E.rn,iV E.ri,.slice a' E.args.length p'] _ bh.o qF rfl (by kernel_rfl) ?_)|(at_builtin;refine BU (w.heap.size+1) rfl _ _ rfl u3 rows rfl I.o (wr.heap.size) 1 1 [[iV E.op,iV E.n,iV E.u,.string E.rn,iV E.ri,.slice a' E.args.length p']] #[iV E.op,iV E.n,iV E.u,.string E.rn,iV E.ri,.slice a' E.args.length p'] rfl rfl J.o rfl (by simp[Value.oneCell']) rfl K.o r.o ?_;intro aw n5 c5 w5 y C;have ad:=ya y;have ac:=ya (EX a8.o r.o I.o C);have ab:Hid ((w.heap.size+1)<=w5.heap.size):=ya (yo r.o C.size);have aq:=ya C;clear y C))
     exact ⟨⟨i+1,by omega,by push_cast;rfl,ya ⟨ac.o,ab.o,_,ad.o,by rw[t.o];exact O.o.append ⟨bd.o,trivial⟩⟩⟩,by simp[intOf];omega⟩
    ·obtain rfl:i=L.crops.n:=by omega
     have Z:decide ((L.crops.n:Int) < (L.crops.n:Int))=false:=by simp
     have P:Hid (L3 (w.heap.size+1) N w0 (IY x++x.crops.flatMap (fun d=> [d.need])) wr u3):=ya (by
      have h:=H.o
      rw[af.o.crops,yx] at h
      exact h)
     go_wp2
     obtain ⟨d6,rfl⟩:∃z:World,z=wr:=⟨_,rfl⟩
     obtain ⟨dd,rfl⟩:∃z:Value,z=u3:=⟨_,rfl⟩
     have X:Hid (L3 (w.heap.size+1) N w0 (Ju x++(x.reaches.take 0).flatMap DZ) d6 dd):=ya (by
      rw[zN,zB,yG];exact P.o)
     clear hf Z H P
     go_loopw [3,6] (fun v3 iv wr=>∃i:Nat,i<=L.reaches.n∧iv=iV i∧Hid (L3 (w.heap.size+1) N w0 (Ju x++(x.reaches.take i).flatMap DZ) wr v3)) (fun _ iv _=>L.reaches.n - (intOf iv).toNat)
     case atStart=>exact ⟨0,yv _,rfl,X⟩
     case round=>
      clear X
      obtain ⟨i,hi,rfl,H⟩:=hrel
      have hf:wr.cell? (aV w.heap.size 21)=some (.slice L.reaches.a L.reaches.n L.reaches.c):=ba.o wr H.o.below 21 _ ay.o.reaches
      have ar:L.reaches.n<=140737488355328:=bg.o.reaches.1
      by_cases ag:i < L.reaches.n
      ·have U:i < x.reaches.length:=by rw[<-af.o.reaches];exact ag
       have Z:(i:Int) < (L.reaches.n:Int):=by omega
       obtain ⟨b,o,R,he,Y,ao,V,hv⟩:=bk.o.reaches.2.2 i U
       rw[he] at hf
       have t:Hid (Ju x++(x.reaches.take (i+1)).flatMap DZ=(Ju x++(x.reaches.take i).flatMap DZ)++[x.reaches[i].delay,x.reaches[i].cap,x.reaches[i].bank,x.reaches[i].siphon,x.reaches[i].evap0,x.reaches[i].evap1,x.reaches[i].seep0,x.reaches[i].seep1]):=ya (by rw[Ck U,yg];rfl)
       have ae:(Ju x++(x.reaches.take i).flatMap DZ).length<=20000:=by
        have h1:=CO (l:=x.reaches) (f:=DZ) (c:=8) (i:=i) (fun _ _=>by simp[DZ])
        have h2:=b8.o.t3;have h3:=ax.o.reaches
        rw[yi]
        omega
       have b7:=ya (A1 V ((b3.o wr H.o.below) b Y))
       have an:=ya (yy (Ks _ _ hv))
       have b9:Hid ((Try.prog.info? 51).map (·.size)=some R.length):=ya (by rw[ao];kernel_rfl)
       have az:Hid ((Try.prog.info? 51).map (·.size)=some R.toArray.size):=ya (by rw[yp];exact b9.o)
       have bt:=ya ao
       have bb:(wr.alloc (.cells R.toArray 51)).rangeAt wr.heap.size 0 R:=by
        have:=yV (World.alloc_heap_new wr (.cells R.toArray 51)) 0 R.length
        simpa using this
       obtain ⟨⟨C0,r0,k0⟩,⟨C1,r1,k1⟩,⟨C2,r2,k2⟩,⟨C3,r3,k3⟩,⟨C4,r4,k4⟩,⟨C5,r5,k5⟩,⟨C6,r6,k6⟩,⟨C7,r7,k7⟩⟩:=Q7 bb hv
       generalize x.reaches[i].delay=m at k0 t
       generalize x.reaches[i].cap=g at k1 t
       generalize x.reaches[i].bank=j at k2 t
       generalize x.reaches[i].siphon=s at k3 t
       generalize x.reaches[i].evap0=B at k4 t
       generalize x.reaches[i].evap1=Q at k5 t
       generalize x.reaches[i].seep0=T at k6 t
       generalize x.reaches[i].seep1=S at k7 t
       have ak:=ya k0
       have ai:=ya k1
       have aj:=ya k2
       have b5:=ya k3
       have bn:=ya k4
       have ci:=ya k5
       have d2:=ya k6
       have cw:=ya k7
       obtain ⟨a0,p0,rfl,_⟩:=k0.cells
       obtain ⟨a1,p1,rfl,_⟩:=k1.cells
       obtain ⟨a2,p2,rfl,_⟩:=k2.cells
       obtain ⟨a3,p3,rfl,_⟩:=k3.cells
       obtain ⟨a4,p4,rfl,_⟩:=k4.cells
       obtain ⟨a5,p5,rfl,_⟩:=k5.cells
       obtain ⟨a6,p6,rfl,_⟩:=k6.cells
       obtain ⟨a7,p7,rfl,_⟩:=k7.cells
       have ap:=ya r0
       have al:=ya r1
       have am:=ya r2
       have b4:=ya r3
       have bq:=ya r4
       have cn:=ya r5
       have cr:=ya r6
       have cy:=ya r7
       obtain ⟨rows,G,A⟩:=H.o.own
       have O:=ya A
       have K:Hid (rows.length+8<=1000000000):=ya (by rw[A.length];omega)
       have ah:Hid (Below wr.heap.size wr (wr.alloc (.cells R.toArray 51))):=ya ((yc _ _).alloc (ye _) _)
       have M:=ya (G.up ah.o)
       have bj:=ya (H.o.below.trans (ah.o.mono H.o.size))
       have av:Hid ((w.heap.size+1)<=(wr.alloc (.cells R.toArray 51)).heap.size):=ya (yo H.o.size ah.o.size)
       clear V he G A ae Y ao hv bb r0 r1 r2 r3 r4 r5 r6 r7
       have F:Hid (Below (wr.alloc (.cells R.toArray 51)).heap.size (wr.alloc (.cells R.toArray 51)) ((wr.alloc (.cells R.toArray 51)).alloc (.cells #[iV m.op,iV m.n,iV m.u,.string m.rn,iV m.ri,.slice a0 m.args.length p0,iV g.op,iV g.n,iV g.u,.string g.rn,iV g.ri,.slice a1 g.args.length p1,iV j.op,iV j.n,iV j.u,.string j.rn,iV j.ri,.slice a2 j.args.length p2,iV s.op,iV s.n,iV s.u,.string s.rn,iV s.ri,.slice a3 s.args.length p3,iV B.op,iV B.n,iV B.u,.string B.rn,iV B.ri,.slice a4 B.args.length p4,iV Q.op,iV Q.n,iV Q.u,.string Q.rn,iV Q.ri,.slice a5 Q.args.length p5,iV T.op,iV T.n,iV T.u,.string T.rn,iV T.ri,.slice a6 T.args.length p6,iV S.op,iV S.n,iV S.u,.string S.rn,iV S.ri,.slice a7 S.args.length p7] 26))):=ya ((yc _ _).alloc (ye _) _)
       have I:=ya (M.o.up F.o)
       have a8:=ya (bj.o.trans (F.o.mono av.o))
       have J:Hid (((wr.alloc (.cells R.toArray 51)).alloc (.cells #[iV m.op,iV m.n,iV m.u,.string m.rn,iV m.ri,.slice a0 m.args.length p0,iV g.op,iV g.n,iV g.u,.string g.rn,iV g.ri,.slice a1 g.args.length p1,iV j.op,iV j.n,iV j.u,.string j.rn,iV j.ri,.slice a2 j.args.length p2,iV s.op,iV s.n,iV s.u,.string s.rn,iV s.ri,.slice a3 s.args.length p3,iV B.op,iV B.n,iV B.u,.string B.rn,iV B.ri,.slice a4 B.args.length p4,iV Q.op,iV Q.n,iV Q.u,.string Q.rn,iV Q.ri,.slice a5 Q.args.length p5,iV T.op,iV T.n,iV T.u,.string T.rn,iV T.ri,.slice a6 T.args.length p6,iV S.op,iV S.n,iV S.u,.string S.rn,iV S.ri,.slice a7 S.args.length p7] 26)).heap[wr.heap.size+1]?=some (.cells #[iV m.op,iV m.n,iV m.u,.string m.rn,iV m.ri,.slice a0 m.args.length p0,iV g.op,iV g.n,iV g.u,.string g.rn,iV g.ri,.slice a1 g.args.length p1,iV j.op,iV j.n,iV j.u,.string j.rn,iV j.ri,.slice a2 j.args.length p2,iV s.op,iV s.n,iV s.u,.string s.rn,iV s.ri,.slice a3 s.args.length p3,iV B.op,iV B.n,iV B.u,.string B.rn,iV B.ri,.slice a4 B.args.length p4,iV Q.op,iV Q.n,iV Q.u,.string Q.rn,iV Q.ri,.slice a5 Q.args.length p5,iV T.op,iV T.n,iV T.u,.string T.rn,iV T.ri,.slice a6 T.args.length p6,iV S.op,iV S.n,iV S.u,.string S.rn,iV S.ri,.slice a7 S.args.length p7] 26 (0,0))):=ya (by
        have h:=World.alloc_heap_new (wr.alloc (.cells R.toArray 51)) (.cells #[iV m.op,iV m.n,iV m.u,.string m.rn,iV m.ri,.slice a0 m.args.length p0,iV g.op,iV g.n,iV g.u,.string g.rn,iV g.ri,.slice a1 g.args.length p1,iV j.op,iV j.n,iV j.u,.string j.rn,iV j.ri,.slice a2 j.args.length p2,iV s.op,iV s.n,iV s.u,.string s.rn,iV s.ri,.slice a3 s.args.length p3,iV B.op,iV B.n,iV B.u,.string B.rn,iV B.ri,.slice a4 B.args.length p4,iV Q.op,iV Q.n,iV Q.u,.string Q.rn,iV Q.ri,.slice a5 Q.args.length p5,iV T.op,iV T.n,iV T.u,.string T.rn,iV T.ri,.slice a6 T.args.length p6,iV S.op,iV S.n,iV S.u,.string S.rn,iV S.ri,.slice a7 S.args.length p7] 26)
        rw[zv] at h;exact h)
       have r:Hid ((w.heap.size+1)<=((wr.alloc (.cells R.toArray 51)).alloc (.cells #[iV m.op,iV m.n,iV m.u,.string m.rn,iV m.ri,.slice a0 m.args.length p0,iV g.op,iV g.n,iV g.u,.string g.rn,iV g.ri,.slice a1 g.args.length p1,iV j.op,iV j.n,iV j.u,.string j.rn,iV j.ri,.slice a2 j.args.length p2,iV s.op,iV s.n,iV s.u,.string s.rn,iV s.ri,.slice a3 s.args.length p3,iV B.op,iV B.n,iV B.u,.string B.rn,iV B.ri,.slice a4 B.args.length p4,iV Q.op,iV Q.n,iV Q.u,.string Q.rn,iV Q.ri,.slice a5 Q.args.length p5,iV T.op,iV T.n,iV T.u,.string T.rn,iV T.ri,.slice a6 T.args.length p6,iV S.op,iV S.n,iV S.u,.string S.rn,iV S.ri,.slice a7 S.args.length p7] 26)).heap.size):=ya (yo av.o F.o.size)
       go_wp2_with (first|(refine yf rfl 51 _ rfl b (o+i*51) rfl R _ b7.o qS rfl b9.o ?_)|(refine z6 rfl 51 _ _ rfl wr.heap.size R.toArray rfl rfl 51 _ (World.alloc_heap_new _ _) az.o (by simp[bt.o]) an.o ?_;rw[World.setRow_alloc_new])|(refine yf rfl 26 _ rfl wr.heap.size (3) rfl [iV m.op,iV m.n,iV m.u,.string m.rn,iV m.ri,.slice a0 m.args.length p0] _ ap.o qF rfl (by kernel_rfl) ?_)|(refine yf rfl 26 _ rfl wr.heap.size (9) rfl [iV g.op,iV g.n,iV g.u,.string g.rn,iV g.ri,.slice a1 g.args.length p1] _ al.o qF rfl (by kernel_rfl) ?_)|(refine yf rfl 26 _ rfl wr.heap.size (15) rfl [iV j.op,iV j.n,iV j.u,.string j.rn,iV j.ri,.slice a2 j.args.length p2] _ am.o qF rfl (by kernel_rfl) ?_)|(refine yf rfl 26 _ rfl wr.heap.size (21) rfl [iV s.op,iV s.n,iV s.u,.string s.rn,iV s.ri,.slice a3 s.args.length p3] _ b4.o qF rfl (by kernel_rfl) ?_)|(refine yf rfl 26 _ rfl wr.heap.size (27) rfl [iV B.op,iV B.n,iV B.u,.string B.rn,iV B.ri,.slice a4 B.args.length p4] _ bq.o qF rfl (by kernel_rfl) ?_)|(refine yf rfl 26 _ rfl wr.heap.size (33) rfl [iV Q.op,iV Q.n,iV Q.u,.string Q.rn,iV Q.ri,.slice a5 Q.args.length p5] _ cn.o qF rfl (by kernel_rfl) ?_)|(refine yf rfl 26 _ rfl wr.heap.size (39) rfl [iV T.op,iV T.n,iV T.u,.string T.rn,iV T.ri,.slice a6 T.args.length p6] _ cr.o qF rfl (by kernel_rfl) ?_)|(refine yf rfl 26 _ rfl wr.heap.size (45) rfl [iV S.op,iV S.n,iV S.u,.string S.rn,iV S.ri,.slice a7 S.args.length p7] _ cy.o qF rfl (by kernel_rfl) ?_)|(at_builtin;refine BU (w.heap.size+1) rfl _ _ rfl u3 rows rfl I.o (wr.heap.size+1) 8 8 [[iV m.op,iV m.n,iV m.u,.string m.rn,iV m.ri,.slice a0 m.args.length p0],[iV g.op,iV g.n,iV g.u,.string g.rn,iV g.ri,.slice a1 g.args.length p1],[iV j.op,iV j.n,iV j.u,.string j.rn,iV j.ri,.slice a2 j.args.length p2],[iV s.op,iV s.n,iV s.u,.string s.rn,iV s.ri,.slice a3 s.args.length p3],[iV B.op,iV B.n,iV B.u,.string B.rn,iV B.ri,.slice a4 B.args.length p4],[iV Q.op,iV Q.n,iV Q.u,.string Q.rn,iV Q.ri,.slice a5 Q.args.length p5],[iV T.op,iV T.n,iV T.u,.string T.rn,iV T.ri,.slice a6 T.args.length p6],[iV S.op,iV S.n,iV S.u,.string S.rn,iV S.ri,.slice a7 S.args.length p7]] #[iV m.op,iV m.n,iV m.u,.string m.rn,iV m.ri,.slice a0 m.args.length p0,iV g.op,iV g.n,iV g.u,.string g.rn,iV g.ri,.slice a1 g.args.length p1,iV j.op,iV j.n,iV j.u,.string j.rn,iV j.ri,.slice a2 j.args.length p2,iV s.op,iV s.n,iV s.u,.string s.rn,iV s.ri,.slice a3 s.args.length p3,iV B.op,iV B.n,iV B.u,.string B.rn,iV B.ri,.slice a4 B.args.length p4,iV Q.op,iV Q.n,iV Q.u,.string Q.rn,iV Q.ri,.slice a5 Q.args.length p5,iV T.op,iV T.n,iV T.u,.string T.rn,iV T.ri,.slice a6 T.args.length p6,iV S.op,iV S.n,iV S.u,.string S.rn,iV S.ri,.slice a7 S.args.length p7] rfl rfl J.o rfl (by simp[Value.oneCell']) rfl K.o r.o ?_;intro aw n5 c5 w5 y C;have ad:=ya y;have ac:=ya (EX a8.o r.o I.o C);have ab:Hid ((w.heap.size+1)<=w5.heap.size):=ya (yo r.o C.size);have aq:=ya C;clear y C))
       exact ⟨⟨i+1,by omega,by push_cast;rfl,ya ⟨ac.o,ab.o,_,ad.o,by rw[t.o];exact O.o.append ⟨ak.o,ai.o,aj.o,b5.o,bn.o,ci.o,d2.o,cw.o,trivial⟩⟩⟩,by simp[intOf];omega⟩
      ·obtain rfl:i=L.reaches.n:=by omega
       have Z:decide ((L.reaches.n:Int) < (L.reaches.n:Int))=false:=by simp
       have P:Hid (L3 (w.heap.size+1) N w0 (Ju x++x.reaches.flatMap DZ) wr u3):=ya (by
        have h:=H.o
        rw[af.o.reaches,yx] at h
        exact h)
       go_wp2
       obtain ⟨dg,rfl⟩:∃z:World,z=wr:=⟨_,rfl⟩
       obtain ⟨db,rfl⟩:∃z:Value,z=u3:=⟨_,rfl⟩
       have X:Hid (L3 (w.heap.size+1) N w0 (Jv x++(x.farms.take 0).flatMap (fun d=> [d.area])) dg db):=ya (by
        rw[zN,zB,yG];exact P.o)
       clear hf Z H P
       go_loopw [3,8] (fun v3 iv wr=>∃i:Nat,i<=L.farms.n∧iv=iV i∧Hid (L3 (w.heap.size+1) N w0 (Jv x++(x.farms.take i).flatMap (fun d=> [d.area])) wr v3)) (fun _ iv _=>L.farms.n - (intOf iv).toNat)
       case atStart=>exact ⟨0,yv _,rfl,X⟩
       case round=>
        clear X
        obtain ⟨i,hi,rfl,H⟩:=hrel
        have hf:wr.cell? (aV w.heap.size 22)=some (.slice L.farms.a L.farms.n L.farms.c):=ba.o wr H.o.below 22 _ ay.o.farms
        have ar:L.farms.n<=140737488355328:=bg.o.farms.1
        by_cases ag:i < L.farms.n
        ·have U:i < x.farms.length:=by rw[<-af.o.farms];exact ag
         have Z:(i:Int) < (L.farms.n:Int):=by omega
         obtain ⟨b,o,he,Y,c,V,aa⟩:=bv.o.farms i U
         rw[he] at hf
         have t:Hid (Jv x++(x.farms.take (i+1)).flatMap (fun d=> [d.area])=(Jv x++(x.farms.take i).flatMap (fun d=> [d.area]))++[x.farms[i].area]):=ya (by rw[Ck U,yg])
         have ae:(Jv x++(x.farms.take i).flatMap (fun d=> [d.area])).length<=20000:=by
          have h1:=CO (l:=x.farms) (f:=(fun d=> [d.area])) (c:=1) (i:=i) (fun _ _=>by simp)
          have h2:=b8.o.t4;have h3:=ax.o.farms
          rw[yi]
          skip
          omega
         generalize x.farms[i].area=E at aa t
         have bd:=ya aa
         obtain ⟨a',p',rfl,_⟩:=aa.cells
         have bh:=ya (A1 V ((b3.o wr H.o.below) b Y))
         obtain ⟨rows,G,A⟩:=H.o.own
         have M:=ya G;have O:=ya A
         have K:Hid (rows.length+1<=1000000000):=ya (by rw[A.length];omega)
         clear V aa he G A ae Y
         have F:Hid (Below wr.heap.size wr (wr.alloc (.cells #[iV E.op,iV E.n,iV E.u,.string E.rn,iV E.ri,.slice a' E.args.length p'] 26))):=ya ((yc _ _).alloc (ye _) _)
         have I:=ya (M.o.up F.o)
         have a8:=ya (H.o.below.trans (F.o.mono H.o.size))
         have J:Hid ((wr.alloc (.cells #[iV E.op,iV E.n,iV E.u,.string E.rn,iV E.ri,.slice a' E.args.length p'] 26)).heap[wr.heap.size]?=some (.cells #[iV E.op,iV E.n,iV E.u,.string E.rn,iV E.ri,.slice a' E.args.length p'] 26 (0,0))):=ya (by
          have h:=World.alloc_heap_new wr (.cells #[iV E.op,iV E.n,iV E.u,.string E.rn,iV E.ri,.slice a' E.args.length p'] 26)
          exact h)
         have r:Hid ((w.heap.size+1)<=(wr.alloc (.cells #[iV E.op,iV E.n,iV E.u,.string E.rn,iV E.ri,.slice a' E.args.length p'] 26)).heap.size):=ya (yo H.o.size F.o.size)
         go_wp2_with (first|(refine yf rfl 26 _ rfl b (o+i*12+4) rfl [iV E.op,iV E.n,iV E.u,.string E.rn,iV E.ri,.slice a' E.args.length p'] _ bh.o qF rfl (by kernel_rfl) ?_)|(at_builtin;refine BU (w.heap.size+1) rfl _ _ rfl u3 rows rfl I.o (wr.heap.size) 1 1 [[iV E.op,iV E.n,iV E.u,.string E.rn,iV E.ri,.slice a' E.args.length p']] #[iV E.op,iV E.n,iV E.u,.string E.rn,iV E.ri,.slice a' E.args.length p'] rfl rfl J.o rfl (by simp[Value.oneCell']) rfl K.o r.o ?_;intro aw n5 c5 w5 y C;have ad:=ya y;have ac:=ya (EX a8.o r.o I.o C);have ab:Hid ((w.heap.size+1)<=w5.heap.size):=ya (yo r.o C.size);have aq:=ya C;clear y C))
         exact ⟨⟨i+1,by omega,by push_cast;rfl,ya ⟨ac.o,ab.o,_,ad.o,by rw[t.o];exact O.o.append ⟨bd.o,trivial⟩⟩⟩,by simp[intOf];omega⟩
        ·obtain rfl:i=L.farms.n:=by omega
         have Z:decide ((L.farms.n:Int) < (L.farms.n:Int))=false:=by simp
         have P:Hid (L3 (w.heap.size+1) N w0 (Jv x++x.farms.flatMap (fun d=> [d.area])) wr u3):=ya (by
          have h:=H.o
          rw[af.o.farms,yx] at h
          exact h)
         go_wp2
         obtain ⟨d4,rfl⟩:∃z:World,z=wr:=⟨_,rfl⟩
         obtain ⟨d9,rfl⟩:∃z:Value,z=u3:=⟨_,rfl⟩
         have X:Hid (L3 (w.heap.size+1) N w0 (Ha x++(x.rots.take 0).flatMap FT) d4 d9):=ya (by
          rw[zN,zB,yG];exact P.o)
         clear hf Z H P
         go_loopw [3,9] (fun v3 iv wr=>∃i:Nat,i<=L.rots.n∧iv=iV i∧Hid (L3 (w.heap.size+1) N w0 (Ha x++(x.rots.take i).flatMap FT) wr v3)) (fun _ iv _=>L.rots.n - (intOf iv).toNat)
         case atStart=>exact ⟨0,yv _,rfl,X⟩
         case round=>
          clear X
          obtain ⟨i,hi,rfl,H⟩:=hrel
          have hf:wr.cell? (aV w.heap.size 23)=some (.slice L.rots.a L.rots.n L.rots.c):=ba.o wr H.o.below 23 _ ay.o.rots
          have ar:L.rots.n<=140737488355328:=bg.o.rots.1
          by_cases ag:i < L.rots.n
          ·have U:i < x.rots.length:=by rw[<-af.o.rots];exact ag
           have Z:(i:Int) < (L.rots.n:Int):=by omega
           obtain ⟨b,o,R,he,Y,ao,V,hv⟩:=bk.o.rots.2.2 i U
           rw[he] at hf
           have t:Hid (Ha x++(x.rots.take (i+1)).flatMap FT=(Ha x++(x.rots.take i).flatMap FT)++([x.rots[i].flow,x.rots[i].frm,x.rots[i].to]++x.rots[i].turns.flatMap (fun k:BM=> [k.len]))):=ya (by rw[Ck U,yg];rfl)
           have ae:(Ha x++(x.rots.take i).flatMap FT).length<=20000:=by
            have h1:=CO (l:=x.rots) (f:=FT) (c:=73) (i:=i) (fun d hd=>by
             have h1:(d.turns.flatMap (fun k:BM=> [k.len])).length<=d.turns.length*1:=B6 fun _ _=>by simp
             have:=ax.o.turns d hd
             simp only[FT,yi,yC,yK];omega)
            have h2:=b8.o.t5;have h3:=ax.o.rots
            rw[yi]
            omega
           have cc:x.rots[i].turns.length<=70:=ax.o.turns _ (yw U)
           have b7:=ya (A1 V ((b3.o wr H.o.below) b Y))
           have an:=ya (yy (K4 hv))
           have b9:Hid ((Try.prog.info? 64).map (·.size)=some R.length):=ya (by rw[ao];kernel_rfl)
           have az:Hid ((Try.prog.info? 64).map (·.size)=some R.toArray.size):=ya (by rw[yp];exact b9.o)
           have bt:=ya ao
           have bb:(wr.alloc (.cells R.toArray 64)).rangeAt wr.heap.size 0 R:=by
            have:=yV (World.alloc_heap_new wr (.cells R.toArray 64)) 0 R.length
            simpa using this
           obtain ⟨⟨C0,r0,k0⟩,⟨C1,r1,k1⟩,⟨C2,r2,k2⟩,cp,bw⟩:=Td bb hv
           have dj:=ya cp
           have c3:=ya bw
           have dq:(A5 L i).n<=140737488355328:=by rw[bw.1];exact bw.2.1
           generalize x.rots[i].flow=m at k0 t
           generalize x.rots[i].frm=g at k1 t
           generalize x.rots[i].to=j at k2 t
           generalize x.rots[i].turns=D at c3 cc t
           have ak:=ya k0;have ai:=ya k1;have aj:=ya k2
           obtain ⟨a0,p0,rfl,_⟩:=k0.cells
           obtain ⟨a1,p1,rfl,_⟩:=k1.cells
           obtain ⟨a2,p2,rfl,_⟩:=k2.cells
           have ap:=ya r0;have al:=ya r1;have am:=ya r2
           obtain ⟨rows,G,A⟩:=H.o.own
           have O:=ya A
           have K:Hid (rows.length+3<=1000000000):=ya (by rw[A.length];omega)
           have ah:Hid (Below wr.heap.size wr (wr.alloc (.cells R.toArray 64))):=ya ((yc _ _).alloc (ye _) _)
           have M:=ya (G.up ah.o)
           have bj:=ya (H.o.below.trans (ah.o.mono H.o.size))
           have av:Hid ((w.heap.size+1)<=(wr.alloc (.cells R.toArray 64)).heap.size):=ya (yo H.o.size ah.o.size)
           have bu:Hid ((wr.alloc (.cells R.toArray 64)).heap[wr.heap.size]?=some (.cells R.toArray 64 (0,0))):=ya (World.alloc_heap_new _ _)
           have dp:=ya cc;have cz:=ya ae
           clear V he G A ae Y ao hv bb r0 r1 r2 cp bw cc
           obtain ⟨gb,cx⟩:∃gb,gb=wr.heap.size:=⟨_,rfl⟩
           have dt:=ya cx
           clear cx
           have F:Hid (Below (wr.alloc (.cells R.toArray 64)).heap.size (wr.alloc (.cells R.toArray 64)) ((wr.alloc (.cells R.toArray 64)).alloc (.cells #[iV m.op,iV m.n,iV m.u,.string m.rn,iV m.ri,.slice a0 m.args.length p0,iV g.op,iV g.n,iV g.u,.string g.rn,iV g.ri,.slice a1 g.args.length p1,iV j.op,iV j.n,iV j.u,.string j.rn,iV j.ri,.slice a2 j.args.length p2] 26))):=ya ((yc _ _).alloc (ye _) _)
           have I:=ya (M.o.up F.o)
           have a8:=ya (bj.o.trans (F.o.mono av.o))
           have J:Hid (((wr.alloc (.cells R.toArray 64)).alloc (.cells #[iV m.op,iV m.n,iV m.u,.string m.rn,iV m.ri,.slice a0 m.args.length p0,iV g.op,iV g.n,iV g.u,.string g.rn,iV g.ri,.slice a1 g.args.length p1,iV j.op,iV j.n,iV j.u,.string j.rn,iV j.ri,.slice a2 j.args.length p2] 26)).heap[wr.heap.size+1]?=some (.cells #[iV m.op,iV m.n,iV m.u,.string m.rn,iV m.ri,.slice a0 m.args.length p0,iV g.op,iV g.n,iV g.u,.string g.rn,iV g.ri,.slice a1 g.args.length p1,iV j.op,iV j.n,iV j.u,.string j.rn,iV j.ri,.slice a2 j.args.length p2] 26 (0,0))):=ya (by
            have h:=World.alloc_heap_new (wr.alloc (.cells R.toArray 64)) (.cells #[iV m.op,iV m.n,iV m.u,.string m.rn,iV m.ri,.slice a0 m.args.length p0,iV g.op,iV g.n,iV g.u,.string g.rn,iV g.ri,.slice a1 g.args.length p1,iV j.op,iV j.n,iV j.u,.string j.rn,iV j.ri,.slice a2 j.args.length p2] 26)
            rw[zv] at h;exact h)
           have r:Hid ((w.heap.size+1)<=((wr.alloc (.cells R.toArray 64)).alloc (.cells #[iV m.op,iV m.n,iV m.u,.string m.rn,iV m.ri,.slice a0 m.args.length p0,iV g.op,iV g.n,iV g.u,.string g.rn,iV g.ri,.slice a1 g.args.length p1,iV j.op,iV j.n,iV j.u,.string j.rn,iV j.ri,.slice a2 j.args.length p2] 26)).heap.size):=ya (yo av.o F.o.size)
           go_wp2_with (first|(refine yf rfl 64 _ rfl b (o+i*23) rfl R _ b7.o qX rfl b9.o ?_)|(refine z6 rfl 64 _ _ rfl wr.heap.size R.toArray rfl rfl 64 _ (World.alloc_heap_new _ _) az.o (by simp[bt.o]) an.o ?_;rw[World.setRow_alloc_new])|(refine yf rfl 26 _ rfl wr.heap.size (4) rfl [iV m.op,iV m.n,iV m.u,.string m.rn,iV m.ri,.slice a0 m.args.length p0] _ ap.o qF rfl (by kernel_rfl) ?_)|(refine yf rfl 26 _ rfl wr.heap.size (10) rfl [iV g.op,iV g.n,iV g.u,.string g.rn,iV g.ri,.slice a1 g.args.length p1] _ al.o qF rfl (by kernel_rfl) ?_)|(refine yf rfl 26 _ rfl wr.heap.size (16) rfl [iV j.op,iV j.n,iV j.u,.string j.rn,iV j.ri,.slice a2 j.args.length p2] _ am.o qF rfl (by kernel_rfl) ?_)|(at_builtin;refine BU (w.heap.size+1) rfl _ _ rfl u3 rows rfl I.o (wr.heap.size+1) 3 3 [[iV m.op,iV m.n,iV m.u,.string m.rn,iV m.ri,.slice a0 m.args.length p0],[iV g.op,iV g.n,iV g.u,.string g.rn,iV g.ri,.slice a1 g.args.length p1],[iV j.op,iV j.n,iV j.u,.string j.rn,iV j.ri,.slice a2 j.args.length p2]] #[iV m.op,iV m.n,iV m.u,.string m.rn,iV m.ri,.slice a0 m.args.length p0,iV g.op,iV g.n,iV g.u,.string g.rn,iV g.ri,.slice a1 g.args.length p1,iV j.op,iV j.n,iV j.u,.string j.rn,iV j.ri,.slice a2 j.args.length p2] rfl rfl J.o rfl (by simp[Value.oneCell']) rfl K.o r.o ?_;intro aw n5 c5 w5 y C;have ad:=ya y;have ac:=ya (EX a8.o r.o I.o C);have ab:Hid ((w.heap.size+1)<=w5.heap.size):=ya (yo r.o C.size);have aq:=ya C;clear y C))
           have au:Hid (w5.heap[wr.heap.size]?=some (.cells R.toArray 64 (0,0))):=ya (by
            have e1:((wr.alloc (.cells R.toArray 64)).alloc (.cells #[iV m.op,iV m.n,iV m.u,.string m.rn,iV m.ri,.slice a0 m.args.length p0,iV g.op,iV g.n,iV g.u,.string g.rn,iV g.ri,.slice a1 g.args.length p1,iV j.op,iV j.n,iV j.u,.string j.rn,iV j.ri,.slice a2 j.args.length p2] 26)).heap[wr.heap.size]?=some (.cells R.toArray 64 (0,0)):=(F.o.block _ (by simp)).trans bu.o
            exact (aq.o.block _ (yd.1 e1).1 (fun e=>UB I.o e1 (by decide) e.symm)).trans e1)
           have cm:Hid (L3 (w.heap.size+1) N w0 ((Ha x++(x.rots.take i).flatMap FT)++([m,g,j]++(D.take 0).flatMap (fun k:BM=> [k.len]))) w5 (.slice aw n5 c5)):=ya ⟨ac.o,ab.o,_,ad.o,by
            rw[zN,zB,yG]
            exact O.o.append ⟨ak.o,ai.o,aj.o,trivial⟩⟩
           clear ad ac ab aq O M K J r a8 I F bj av ah bu H hf
           obtain ⟨wo,rfl⟩:∃z:World,z=wr:=⟨_,rfl⟩
           obtain ⟨vo,rfl⟩:∃z:Value,z=u3:=⟨_,rfl⟩
           go_loopw [3,11] (fun v3 iv wr=>∃k:Nat,k<=(A5 L i).n∧iv=iV k∧Hid (L3 (w.heap.size+1) N w0 ((Ha x++(x.rots.take i).flatMap FT)++([m,g,j]++(D.take k).flatMap (fun k:BM=> [k.len]))) wr v3)∧Hid (wr.heap[wo.heap.size]?=some (.cells R.toArray 64 (0,0)))) (fun _ iv _=>(A5 L i).n - (intOf iv).toNat)
           case atStart=>exact ⟨0,yv _,rfl,cm,au⟩
           case round=>
            clear cm au
            obtain ⟨k,hk,rfl,bi,cf⟩:=hrel
            have dn:wr.cell? (aV wo.heap.size 22)=some (.slice (A5 L i).a (A5 L i).n (A5 L i).c):=by
             simp only[World.cell?,cf.o]
             have h:=dj.o
             unfold AF.v at h
             simpa using h
            by_cases d8:k < (A5 L i).n
            ·have cj:k < D.length:=by rw[<-c3.o.1];exact d8
             have dc:(k:Int) < ((A5 L i).n:Int):=by omega
             obtain ⟨b2,o2,c2,co,d1,d7,c4,ck,ct,rfl,bs⟩:=c3.o.2.2 k cj
             rw[co] at dn
             have d0:w0.rangeAt b2 (o2+k*8+2) ct:=by
              have:=Bn (p:=Ad D[k].farm) (c:=ct) (q:=[]) (by simpa using c4)
              exact this
             have c7:Hid (((Ha x++(x.rots.take i).flatMap FT)++([m,g,j]++(D.take (k+1)).flatMap (fun k:BM=> [k.len])))=((Ha x++(x.rots.take i).flatMap FT)++([m,g,j]++(D.take k).flatMap (fun k:BM=> [k.len])))++[D[k].len]):=ya (by rw[Ck cj];simp only[yg])
             generalize D[k].len=s at bs c7
             have b5:=ya bs
             obtain ⟨a3,p3,rfl,_⟩:=bs.cells
             have b4:=ya (A1 d0 ((b3.o wr bi.o.below) b2 d1))
             obtain ⟨bm,bp,be⟩:=bi.o.own
             have cd:=ya bp;have cb:=ya be
             have K:Hid (bm.length+1<=1000000000):=ya (by
              have h1:=CO (l:=D) (f:=(fun k:BM=> [k.len])) (c:=1) (i:=k) (fun _ _=>by simp)
              have h2:=dp.o;have h3:=cz.o
              rw[be.length]
              simp only[yi,yC,yK] at h3 ⊢
              omega)
             clear c4 d0 bp be d1 d7 ck co
             have F:Hid (Below wr.heap.size wr (wr.alloc (.cells #[iV s.op,iV s.n,iV s.u,.string s.rn,iV s.ri,.slice a3 s.args.length p3] 26))):=ya ((yc _ _).alloc (ye _) _)
             have I:=ya (cd.o.up F.o)
             have a8:=ya (bi.o.below.trans (F.o.mono bi.o.size))
             have J:Hid ((wr.alloc (.cells #[iV s.op,iV s.n,iV s.u,.string s.rn,iV s.ri,.slice a3 s.args.length p3] 26)).heap[wr.heap.size]?=some (.cells #[iV s.op,iV s.n,iV s.u,.string s.rn,iV s.ri,.slice a3 s.args.length p3] 26 (0,0))):=ya (by
              have h:=World.alloc_heap_new wr (.cells #[iV s.op,iV s.n,iV s.u,.string s.rn,iV s.ri,.slice a3 s.args.length p3] 26)
              exact h)
             have r:Hid ((w.heap.size+1)<=(wr.alloc (.cells #[iV s.op,iV s.n,iV s.u,.string s.rn,iV s.ri,.slice a3 s.args.length p3] 26)).heap.size):=ya (yo bi.o.size F.o.size)
             go_wp2_with (first|(refine yf rfl 26 _ rfl b2 (o2+k*8+2) rfl [iV s.op,iV s.n,iV s.u,.string s.rn,iV s.ri,.slice a3 s.args.length p3] _ b4.o qF rfl (by kernel_rfl) ?_)|(at_builtin;refine BU (w.heap.size+1) rfl _ _ rfl u3 bm rfl I.o (wr.heap.size) 1 1 [[iV s.op,iV s.n,iV s.u,.string s.rn,iV s.ri,.slice a3 s.args.length p3]] #[iV s.op,iV s.n,iV s.u,.string s.rn,iV s.ri,.slice a3 s.args.length p3] rfl rfl J.o rfl (by simp[Value.oneCell']) rfl K.o r.o ?_;intro du n6 c6 w6 y C;have dm:=ya y;have dl:=ya (EX a8.o r.o I.o C);have dk:Hid ((w.heap.size+1)<=w6.heap.size):=ya (yo r.o C.size);have d3:=ya C;clear y C))
             have au:Hid (w6.heap[wo.heap.size]?=some (.cells R.toArray 64 (0,0))):=ya (by
              have e1:=(F.o.block _ (yd.1 cf.o).1).trans cf.o
              exact (d3.o.block _ (yd.1 e1).1 (fun e=>UB I.o e1 (by decide) e.symm)).trans e1)
             exact ⟨⟨k+1,by omega,by push_cast;rfl,ya ⟨dl.o,dk.o,_,dm.o,by rw[c7.o];exact cb.o.append ⟨b5.o,trivial⟩⟩,au⟩,by simp[intOf];omega⟩
            ·obtain rfl:k=(A5 L i).n:=by omega
             have dc:decide (((A5 L i).n:Int) < ((A5 L i).n:Int))=false:=by simp
             have cu:Hid (L3 (w.heap.size+1) N w0 (Ha x++(x.rots.take (i+1)).flatMap FT) wr u3):=ya (by
              rw[t.o]
              have h:=bi.o
              rw[c3.o.1,yx] at h
              exact h)
             go_wp2
             exact ⟨⟨i+1,by omega,by push_cast;rfl,cu⟩,by simp[intOf];omega⟩
          ·obtain rfl:i=L.rots.n:=by omega
           have Z:decide ((L.rots.n:Int) < (L.rots.n:Int))=false:=by simp
           have P:Hid (L3 (w.heap.size+1) N w0 (Ha x++x.rots.flatMap FT) wr u3):=ya (by
            have h:=H.o
            rw[af.o.rots,yx] at h
            exact h)
           go_wp2
           obtain ⟨di,rfl⟩:∃z:World,z=wr:=⟨_,rfl⟩
           obtain ⟨dh,rfl⟩:∃z:Value,z=u3:=⟨_,rfl⟩
           have X:Hid (L3 (w.heap.size+1) N w0 (Jw x++(x.rights.take 0).flatMap E0) di dh):=ya (by
            rw[zN,zB,yG];exact P.o)
           clear hf Z H P
           go_loopw [3,12] (fun v3 iv wr=>∃i:Nat,i<=L.rights.n∧iv=iV i∧Hid (L3 (w.heap.size+1) N w0 (Jw x++(x.rights.take i).flatMap E0) wr v3)) (fun _ iv _=>L.rights.n - (intOf iv).toNat)
           case atStart=>exact ⟨0,yv _,rfl,X⟩
           case round=>
            clear X
            obtain ⟨i,hi,rfl,H⟩:=hrel
            have hf:wr.cell? (aV w.heap.size 24)=some (.slice L.rights.a L.rights.n L.rights.c):=ba.o wr H.o.below 24 _ ay.o.rights
            have ar:L.rights.n<=140737488355328:=bg.o.rights.1
            by_cases ag:i < L.rights.n
            ·have U:i < x.rights.length:=by rw[<-af.o.rights];exact ag
             have Z:(i:Int) < (L.rights.n:Int):=by omega
             obtain ⟨b,o,R,he,Y,ao,V,hv⟩:=bk.o.rights.2.2 i U
             rw[he] at hf
             have t:Hid (Jw x++(x.rights.take (i+1)).flatMap E0=(Jw x++(x.rights.take i).flatMap E0)++[x.rights[i].flow,x.rights[i].frm,x.rights[i].to,x.rights[i].every,x.rights[i].len]):=ya (by rw[Ck U,yg];rfl)
             have ae:(Jw x++(x.rights.take i).flatMap E0).length<=20000:=by
              have h1:=CO (l:=x.rights) (f:=E0) (c:=5) (i:=i) (fun _ _=>by simp[E0])
              have h2:=b8.o.t6;have h3:=ax.o.rights
              rw[yi]
              omega
             have b7:=ya (A1 V ((b3.o wr H.o.below) b Y))
             have an:=ya (yy (Kt _ _ hv))
             have b9:Hid ((Try.prog.info? 68).map (·.size)=some R.length):=ya (by rw[ao];kernel_rfl)
             have az:Hid ((Try.prog.info? 68).map (·.size)=some R.toArray.size):=ya (by rw[yp];exact b9.o)
             have bt:=ya ao
             have bb:(wr.alloc (.cells R.toArray 68)).rangeAt wr.heap.size 0 R:=by
              have:=yV (World.alloc_heap_new wr (.cells R.toArray 68)) 0 R.length
              simpa using this
             obtain ⟨⟨C0,r0,k0⟩,⟨C1,r1,k1⟩,⟨C2,r2,k2⟩,⟨C3,r3,k3⟩,⟨C4,r4,k4⟩⟩:=Q8 bb hv
             generalize x.rights[i].flow=m at k0 t
             generalize x.rights[i].frm=g at k1 t
             generalize x.rights[i].to=j at k2 t
             generalize x.rights[i].every=s at k3 t
             generalize x.rights[i].len=B at k4 t
             have ak:=ya k0
             have ai:=ya k1
             have aj:=ya k2
             have b5:=ya k3
             have bn:=ya k4
             obtain ⟨a0,p0,rfl,_⟩:=k0.cells
             obtain ⟨a1,p1,rfl,_⟩:=k1.cells
             obtain ⟨a2,p2,rfl,_⟩:=k2.cells
             obtain ⟨a3,p3,rfl,_⟩:=k3.cells
             obtain ⟨a4,p4,rfl,_⟩:=k4.cells
             have ap:=ya r0
             have al:=ya r1
             have am:=ya r2
             have b4:=ya r3
             have bq:=ya r4
             obtain ⟨rows,G,A⟩:=H.o.own
             have O:=ya A
             have K:Hid (rows.length+5<=1000000000):=ya (by rw[A.length];omega)
             have ah:Hid (Below wr.heap.size wr (wr.alloc (.cells R.toArray 68))):=ya ((yc _ _).alloc (ye _) _)
             have M:=ya (G.up ah.o)
             have bj:=ya (H.o.below.trans (ah.o.mono H.o.size))
             have av:Hid ((w.heap.size+1)<=(wr.alloc (.cells R.toArray 68)).heap.size):=ya (yo H.o.size ah.o.size)
             clear V he G A ae Y ao hv bb r0 r1 r2 r3 r4
             have F:Hid (Below (wr.alloc (.cells R.toArray 68)).heap.size (wr.alloc (.cells R.toArray 68)) ((wr.alloc (.cells R.toArray 68)).alloc (.cells #[iV m.op,iV m.n,iV m.u,.string m.rn,iV m.ri,.slice a0 m.args.length p0,iV g.op,iV g.n,iV g.u,.string g.rn,iV g.ri,.slice a1 g.args.length p1,iV j.op,iV j.n,iV j.u,.string j.rn,iV j.ri,.slice a2 j.args.length p2,iV s.op,iV s.n,iV s.u,.string s.rn,iV s.ri,.slice a3 s.args.length p3,iV B.op,iV B.n,iV B.u,.string B.rn,iV B.ri,.slice a4 B.args.length p4] 26))):=ya ((yc _ _).alloc (ye _) _)
             have I:=ya (M.o.up F.o)
             have a8:=ya (bj.o.trans (F.o.mono av.o))
             have J:Hid (((wr.alloc (.cells R.toArray 68)).alloc (.cells #[iV m.op,iV m.n,iV m.u,.string m.rn,iV m.ri,.slice a0 m.args.length p0,iV g.op,iV g.n,iV g.u,.string g.rn,iV g.ri,.slice a1 g.args.length p1,iV j.op,iV j.n,iV j.u,.string j.rn,iV j.ri,.slice a2 j.args.length p2,iV s.op,iV s.n,iV s.u,.string s.rn,iV s.ri,.slice a3 s.args.length p3,iV B.op,iV B.n,iV B.u,.string B.rn,iV B.ri,.slice a4 B.args.length p4] 26)).heap[wr.heap.size+1]?=some (.cells #[iV m.op,iV m.n,iV m.u,.string m.rn,iV m.ri,.slice a0 m.args.length p0,iV g.op,iV g.n,iV g.u,.string g.rn,iV g.ri,.slice a1 g.args.length p1,iV j.op,iV j.n,iV j.u,.string j.rn,iV j.ri,.slice a2 j.args.length p2,iV s.op,iV s.n,iV s.u,.string s.rn,iV s.ri,.slice a3 s.args.length p3,iV B.op,iV B.n,iV B.u,.string B.rn,iV B.ri,.slice a4 B.args.length p4] 26 (0,0))):=ya (by
              have h:=World.alloc_heap_new (wr.alloc (.cells R.toArray 68)) (.cells #[iV m.op,iV m.n,iV m.u,.string m.rn,iV m.ri,.slice a0 m.args.length p0,iV g.op,iV g.n,iV g.u,.string g.rn,iV g.ri,.slice a1 g.args.length p1,iV j.op,iV j.n,iV j.u,.string j.rn,iV j.ri,.slice a2 j.args.length p2,iV s.op,iV s.n,iV s.u,.string s.rn,iV s.ri,.slice a3 s.args.length p3,iV B.op,iV B.n,iV B.u,.string B.rn,iV B.ri,.slice a4 B.args.length p4] 26)
              rw[zv] at h;exact h)
             have r:Hid ((w.heap.size+1)<=((wr.alloc (.cells R.toArray 68)).alloc (.cells #[iV m.op,iV m.n,iV m.u,.string m.rn,iV m.ri,.slice a0 m.args.length p0,iV g.op,iV g.n,iV g.u,.string g.rn,iV g.ri,.slice a1 g.args.length p1,iV j.op,iV j.n,iV j.u,.string j.rn,iV j.ri,.slice a2 j.args.length p2,iV s.op,iV s.n,iV s.u,.string s.rn,iV s.ri,.slice a3 s.args.length p3,iV B.op,iV B.n,iV B.u,.string B.rn,iV B.ri,.slice a4 B.args.length p4] 26)).heap.size):=ya (yo av.o F.o.size)
             go_wp2_with (first|(refine yf rfl 68 _ rfl b (o+i*37) rfl R _ b7.o qZ rfl b9.o ?_)|(refine z6 rfl 68 _ _ rfl wr.heap.size R.toArray rfl rfl 68 _ (World.alloc_heap_new _ _) az.o (by simp[bt.o]) an.o ?_;rw[World.setRow_alloc_new])|(refine yf rfl 26 _ rfl wr.heap.size (7) rfl [iV m.op,iV m.n,iV m.u,.string m.rn,iV m.ri,.slice a0 m.args.length p0] _ ap.o qF rfl (by kernel_rfl) ?_)|(refine yf rfl 26 _ rfl wr.heap.size (13) rfl [iV g.op,iV g.n,iV g.u,.string g.rn,iV g.ri,.slice a1 g.args.length p1] _ al.o qF rfl (by kernel_rfl) ?_)|(refine yf rfl 26 _ rfl wr.heap.size (19) rfl [iV j.op,iV j.n,iV j.u,.string j.rn,iV j.ri,.slice a2 j.args.length p2] _ am.o qF rfl (by kernel_rfl) ?_)|(refine yf rfl 26 _ rfl wr.heap.size (25) rfl [iV s.op,iV s.n,iV s.u,.string s.rn,iV s.ri,.slice a3 s.args.length p3] _ b4.o qF rfl (by kernel_rfl) ?_)|(refine yf rfl 26 _ rfl wr.heap.size (31) rfl [iV B.op,iV B.n,iV B.u,.string B.rn,iV B.ri,.slice a4 B.args.length p4] _ bq.o qF rfl (by kernel_rfl) ?_)|(at_builtin;refine BU (w.heap.size+1) rfl _ _ rfl u3 rows rfl I.o (wr.heap.size+1) 5 5 [[iV m.op,iV m.n,iV m.u,.string m.rn,iV m.ri,.slice a0 m.args.length p0],[iV g.op,iV g.n,iV g.u,.string g.rn,iV g.ri,.slice a1 g.args.length p1],[iV j.op,iV j.n,iV j.u,.string j.rn,iV j.ri,.slice a2 j.args.length p2],[iV s.op,iV s.n,iV s.u,.string s.rn,iV s.ri,.slice a3 s.args.length p3],[iV B.op,iV B.n,iV B.u,.string B.rn,iV B.ri,.slice a4 B.args.length p4]] #[iV m.op,iV m.n,iV m.u,.string m.rn,iV m.ri,.slice a0 m.args.length p0,iV g.op,iV g.n,iV g.u,.string g.rn,iV g.ri,.slice a1 g.args.length p1,iV j.op,iV j.n,iV j.u,.string j.rn,iV j.ri,.slice a2 j.args.length p2,iV s.op,iV s.n,iV s.u,.string s.rn,iV s.ri,.slice a3 s.args.length p3,iV B.op,iV B.n,iV B.u,.string B.rn,iV B.ri,.slice a4 B.args.length p4] rfl rfl J.o rfl (by simp[Value.oneCell']) rfl K.o r.o ?_;intro aw n5 c5 w5 y C;have ad:=ya y;have ac:=ya (EX a8.o r.o I.o C);have ab:Hid ((w.heap.size+1)<=w5.heap.size):=ya (yo r.o C.size);have aq:=ya C;clear y C))
             exact ⟨⟨i+1,by omega,by push_cast;rfl,ya ⟨ac.o,ab.o,_,ad.o,by rw[t.o];exact O.o.append ⟨ak.o,ai.o,aj.o,b5.o,bn.o,trivial⟩⟩⟩,by simp[intOf];omega⟩
            ·obtain rfl:i=L.rights.n:=by omega
             have Z:decide ((L.rights.n:Int) < (L.rights.n:Int))=false:=by simp
             have P:Hid (L3 (w.heap.size+1) N w0 (Jw x++x.rights.flatMap E0) wr u3):=ya (by
              have h:=H.o
              rw[af.o.rights,yx] at h
              exact h)
             go_wp2
             obtain ⟨da,rfl⟩:∃z:World,z=wr:=⟨_,rfl⟩
             obtain ⟨de,rfl⟩:∃z:Value,z=u3:=⟨_,rfl⟩
             have X:Hid (L3 (w.heap.size+1) N w0 (Jy x++(x.duties.take 0).flatMap (fun d=> [d.due])) da de):=ya (by
              rw[zN,zB,yG];exact P.o)
             clear hf Z H P
             go_loopw [3,14] (fun v3 iv wr=>∃i:Nat,i<=L.duties.n∧iv=iV i∧Hid (L3 (w.heap.size+1) N w0 (Jy x++(x.duties.take i).flatMap (fun d=> [d.due])) wr v3)) (fun _ iv _=>L.duties.n - (intOf iv).toNat)
             case atStart=>exact ⟨0,yv _,rfl,X⟩
             case round=>
              clear X
              obtain ⟨i,hi,rfl,H⟩:=hrel
              have hf:wr.cell? (aV w.heap.size 25)=some (.slice L.duties.a L.duties.n L.duties.c):=ba.o wr H.o.below 25 _ ay.o.duties
              have ar:L.duties.n<=140737488355328:=bg.o.duties.1
              by_cases ag:i < L.duties.n
              ·have U:i < x.duties.length:=by rw[<-af.o.duties];exact ag
               have Z:(i:Int) < (L.duties.n:Int):=by omega
               obtain ⟨b,o,he,Y,c,V,aa⟩:=bv.o.duties i U
               rw[he] at hf
               have t:Hid (Jy x++(x.duties.take (i+1)).flatMap (fun d=> [d.due])=(Jy x++(x.duties.take i).flatMap (fun d=> [d.due]))++[x.duties[i].due]):=ya (by rw[Ck U,yg])
               have ae:(Jy x++(x.duties.take i).flatMap (fun d=> [d.due])).length<=20000:=by
                have h1:=CO (l:=x.duties) (f:=(fun d=> [d.due])) (c:=1) (i:=i) (fun _ _=>by simp)
                have h2:=b8.o.t7;have h3:=ax.o.duties
                rw[yi]
                skip
                omega
               generalize x.duties[i].due=E at aa t
               have bd:=ya aa
               obtain ⟨a',p',rfl,_⟩:=aa.cells
               have bh:=ya (A1 V ((b3.o wr H.o.below) b Y))
               obtain ⟨rows,G,A⟩:=H.o.own
               have M:=ya G;have O:=ya A
               have K:Hid (rows.length+1<=1000000000):=ya (by rw[A.length];omega)
               clear V aa he G A ae Y
               have F:Hid (Below wr.heap.size wr (wr.alloc (.cells #[iV E.op,iV E.n,iV E.u,.string E.rn,iV E.ri,.slice a' E.args.length p'] 26))):=ya ((yc _ _).alloc (ye _) _)
               have I:=ya (M.o.up F.o)
               have a8:=ya (H.o.below.trans (F.o.mono H.o.size))
               have J:Hid ((wr.alloc (.cells #[iV E.op,iV E.n,iV E.u,.string E.rn,iV E.ri,.slice a' E.args.length p'] 26)).heap[wr.heap.size]?=some (.cells #[iV E.op,iV E.n,iV E.u,.string E.rn,iV E.ri,.slice a' E.args.length p'] 26 (0,0))):=ya (by
                have h:=World.alloc_heap_new wr (.cells #[iV E.op,iV E.n,iV E.u,.string E.rn,iV E.ri,.slice a' E.args.length p'] 26)
                exact h)
               have r:Hid ((w.heap.size+1)<=(wr.alloc (.cells #[iV E.op,iV E.n,iV E.u,.string E.rn,iV E.ri,.slice a' E.args.length p'] 26)).heap.size):=ya (yo H.o.size F.o.size)
               go_wp2_with (first|(refine yf rfl 26 _ rfl b (o+i*11+5) rfl [iV E.op,iV E.n,iV E.u,.string E.rn,iV E.ri,.slice a' E.args.length p'] _ bh.o qF rfl (by kernel_rfl) ?_)|(at_builtin;refine BU (w.heap.size+1) rfl _ _ rfl u3 rows rfl I.o (wr.heap.size) 1 1 [[iV E.op,iV E.n,iV E.u,.string E.rn,iV E.ri,.slice a' E.args.length p']] #[iV E.op,iV E.n,iV E.u,.string E.rn,iV E.ri,.slice a' E.args.length p'] rfl rfl J.o rfl (by simp[Value.oneCell']) rfl K.o r.o ?_;intro aw n5 c5 w5 y C;have ad:=ya y;have ac:=ya (EX a8.o r.o I.o C);have ab:Hid ((w.heap.size+1)<=w5.heap.size):=ya (yo r.o C.size);have aq:=ya C;clear y C))
               exact ⟨⟨i+1,by omega,by push_cast;rfl,ya ⟨ac.o,ab.o,_,ad.o,by rw[t.o];exact O.o.append ⟨bd.o,trivial⟩⟩⟩,by simp[intOf];omega⟩
              ·obtain rfl:i=L.duties.n:=by omega
               have Z:decide ((L.duties.n:Int) < (L.duties.n:Int))=false:=by simp
               have P:Hid (L3 (w.heap.size+1) N w0 (Jy x++x.duties.flatMap (fun d=> [d.due])) wr u3):=ya (by
                have h:=H.o
                rw[af.o.duties,yx] at h
                exact h)
               go_wp2
               go_ret
               refine ⟨_,rfl,⟨cl.o.trans (P.o.below.mono (by have:=df.o;omega)),by have:=P.o.size;omega,?_⟩⟩
               obtain ⟨rows,G,A⟩:=P.o.own
               exact ⟨rows,Te G (by omega),AW.mono (fun cs e hE=>hE.same (fun _ h=>h) (fun b hb=>(cl.o.block b (d5.o b hb)).symm)) A⟩
end Go.Proofs.Ytghepahgkcigpaa
