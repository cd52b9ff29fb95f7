/- The reference's Top: the expressions that are no argument (printed by gen_vb.py). -/
import Derived.Test.YtjofgpfocadomaaGreatDoorUi0
import Derived.Test.YtjofgpfocadomaaGreatDoorUi4
import Derived.Test.YtjofgpfocadomaaGreatDoorUi7
import Derived.Test.YtjofgpfocadomaaGreatDoorUi9
set_option maxRecDepth 100000
set_option maxHeartbeats 32000000
set_option linter.unusedSimpArgs false
namespace Go.Proofs.YtjofgpfocadomaaGreatDoor
open Go.RowKit
def Ge(B:Nat)(w:World)(v:Value)(rows:List LV):Prop:=w.ownsRow B 26 6 v rows.length rows.flatten
theorem Sh(B:Nat)(w:World):Ge B w (.slice none 0 0) []:=⟨rfl,.inl ⟨rfl,rfl⟩⟩
theorem Ge.up{B:Nat}{w w':World}{v:Value}{l:List LV}(h:Ge B w v l)(hb:Below w.heap.size w w'):Ge B w' v l:=by
 obtain ⟨h1,h2⟩:=h
 refine ⟨h1,h2.imp id ?_⟩
 rintro ⟨g,cap,a,h3,b,h5,h6⟩
 exact ⟨g,cap,a,h3,b,(hb.block g (yd.1 h5).1).trans h5,h6⟩
theorem Ea{B:Nat}{c w w':World}{v:Value}{l:List LV}(f:Below B c w)(j:B<=w.heap.size)(h:Ge B w v l)(a:w.grownBy w' v.ownBlock):Below B c w':=by
 refine f.trans ⟨a.os,a.tape,a.output,a.size,fun b hb=>a.block b (by omega) (fun e=>?_)⟩
 rcases h.2 with ⟨rfl,_⟩|⟨g,cap,d,rfl,i,_⟩
 ·cases e
 ·simp only[Value.ownBlock,za] at e
  omega
theorem B7{ops:Array Oper}{rest:List Oper}{o:Oper}{a:Act}{Q:QT}{W:World}(B:Nat)(D:o.guard=none)(s x:Operand)(L:o.op=.call {callee:=.builtin .append,args:=#[s,x],argTypes:=#[24,24]})
 (v:Value)(rows:List LV)(hs:a.eval s=v)(b:Ge B W v rows)(g m c:Nat)(f:List LV)(row:Array Value)(G:a.eval x=.slice (some ⟨g,0,none⟩) m c)(O:m=f.length)(R:W.heap[g]?=some (.cells row 26 (0,0)))(e:row.toList=f.flatten)(q:∀u∈row.toList,u.oneCell'=true)(w:row.toList.length=f.length*6)
 (J:rows.length+f.length<=1000000000)(l:B<=W.heap.size)
 (h:∀(H:Option Addr) (n c:Nat) w',Ge B w' (.slice H n c) (rows++f)->W.grownBy w' v.ownBlock->wpList Tryz.prog ops Q rest (a.put o.dst (.slice H n c)) w'):wpList Tryz.prog ops Q (o::rest) a W:=by
 subst O
 refine zx D fun K I=>?_
 have p:(Tryz.prog.info? 26).map (fun i=>(i.zero,i.size,i.bytes))=some (some (.agg #[iV 0,iV 0,iV 0,.string ⟨#[]⟩,iV 0,.slice none 0 0]),6,72):=by kernel_rfl
 obtain ⟨P,hi,C,r,F⟩:=info_parts p
 by_cases h0:f=[]
 ·subst h0
  have t:=EP qL hi W B o.type v rows.length _ (by have:=b;unfold Ge at this;rw[<-r] at this;exact this) (some (aV g 0)) c
  obtain ⟨va,A,z,rfl⟩:∃a n c,v=.slice a n c:=by
   rcases b.2 with ⟨rfl,N⟩|⟨g,cap,E,rfl,_⟩
   ·exact ⟨_,_,_,rfl⟩
   ·exact ⟨_,_,_,rfl⟩
  unfold Oper.wp
  simp only[yH] at G
  simp[execOp,L,resolve,invoke,builtin,hs,G,t,Result.andThen]
  exact I _ _ (h va A z W (by simpa using b) ⟨rfl,rfl,rfl,yf _,fun _ _ _=>rfl⟩)
 ·have k:∀j u,f.flatten[j]?=some u->W.cell? (((aV g 0):Addr).add j)=some u:=fun j u M=>by
   rw[zB,<-e] at*
   simp only[World.cell?,R]
   simpa using M
  refine wp_append_own W s x 24 L B 26 P _ 6 72 qL hi C r F rfl (by decide) v rows.length _ hs b (aV g 0) f.length c f.flatten G (by rw[<-e];exact w) k (by rw[<-e];exact q) (by unfold maxLen;omega) (by omega) l ?_
  intro v' w' d y _
  obtain ⟨va,A,z,rfl⟩:∃a n c,v'=.slice a n c:=by
   rcases d.2 with ⟨rfl,N⟩|⟨g,cap,E,rfl,_⟩
   ·exact ⟨_,_,_,rfl⟩
   ·exact ⟨_,_,_,rfl⟩
  exact I _ _ (h va A z w' (by unfold Ge;rw[ym,List.flatten_append];exact d) y)
def Ey(d:AA):List Ex:=[d.delay,d.cap,d.bank,d.siphon,d.evap0,d.evap1,d.seep0,d.seep1]
def GL(d:Br):List Ex:=[d.flow,d.frm,d.to]++d.turns.flatMap fun k=> [k.len]
def Ez(d:AW):List Ex:=[d.flow,d.frm,d.to,d.every,d.len]
def Qf(x:Av):List Ex:=x.lets.flatMap fun d=> [d.value]
def IV(x:Av):List Ex:=Qf x++[x.season,x.cap,x.start]
def Jq(x:Av):List Ex:=IV x++x.crops.flatMap fun d=> [d.need]
def Jr(x:Av):List Ex:=Jq x++x.reaches.flatMap Ey
def GM(x:Av):List Ex:=Jr x++x.farms.flatMap fun d=> [d.area]
def Js(x:Av):List Ex:=GM x++x.rots.flatMap GL
def Jt(x:Av):List Ex:=Js x++x.rights.flatMap Ez
def F6(x:Av):List Ex:=Jt x++x.duties.flatMap fun d=> [d.due]
theorem DW{α β:Type}{l:List α}{f:α->List β}{i:Nat}(h:i < l.length):(l.take (i+1)).flatMap f=(l.take i).flatMap f++f l[i]:=by
 rw[yJ h,zK];simp
theorem EO{α β:Type}{l:List α}{f:α->List β}{c i:Nat}(h:∀a∈l,(f a).length<=c):((l.take i).flatMap f).length<=l.length*c:=by
 have h1:=Be (l:=l.take i) (f:=f) (c:=c) (fun a b=>h a (List.mem_of_mem_take b))
 have h2:(l.take i).length<=l.length:=by simp;omega
 exact yu h1 (xL _ h2)
structure Fw (x:Av):Prop where
 lets:x.lets.length<=100
 crops:x.crops.length<=100
 reaches:x.reaches.length<=100
 farms:x.farms.length<=100
 rots:x.rots.length<=70
 rights:x.rights.length<=300
 duties:x.duties.length<=300
 turns:∀d∈x.rots,d.turns.length<=70
structure Wr (x:Av):Prop where
 t1:(Qf x).length<=100
 t2:(IV x).length<=103
 t3:(Jq x).length<=203
 t4:(Jr x).length<=1003
 t5:(GM x).length<=1103
 t6:(Js x).length<=6213
 t7:(Jt x).length<=7713
 tE:(F6 x).length<=8013
theorem Fw.top{x:Av}(h:Fw x):Wr x:=by
 have o:(Qf x).length<=x.lets.length*1:=Be fun _ _=>by simp
 have b:(x.crops.flatMap fun d=> [d.need]).length<=x.crops.length*1:=Be fun _ _=>by simp
 have f:(x.reaches.flatMap Ey).length<=x.reaches.length*8:=Be fun _ _=>by simp[Ey]
 have l:(x.farms.flatMap fun d=> [d.area]).length<=x.farms.length*1:=Be fun _ _=>by simp
 have e:(x.rots.flatMap GL).length<=x.rots.length*73:=Be fun d hd=>by
  have h1:(d.turns.flatMap fun k:Cb=> [k.len]).length<=d.turns.length*1:=Be fun _ _=>by simp
  have:=h.turns d hd
  simp only[GL,ym,yx,yH];omega
 have n:(x.rights.flatMap Ez).length<=x.rights.length*5:=Be fun _ _=>by simp[Ez]
 have p:(x.duties.flatMap fun d=> [d.due]).length<=x.duties.length*1:=Be fun _ _=>by simp
 have:=h.lets;have:=h.crops;have:=h.reaches;have:=h.farms;have:=h.rots;have:=h.rights;have:=h.duties
 have i:(IV x).length=(Qf x).length+3:=by unfold IV;simp
 have j:(Jq x).length=(IV x).length+(x.crops.flatMap fun d=> [d.need]).length:=by unfold Jq;rw[ym]
 have a:(Jr x).length=(Jq x).length+(x.reaches.flatMap Ey).length:=by unfold Jr;rw[ym]
 have m:(GM x).length=(Jr x).length+(x.farms.flatMap fun d=> [d.area]).length:=by unfold GM;rw[ym]
 have c:(Js x).length=(GM x).length+(x.rots.flatMap GL).length:=by unfold Js;rw[ym]
 have g:(Jt x).length=(Js x).length+(x.rights.flatMap Ez).length:=by unfold Jt;rw[ym]
 have q:(F6 x).length=(Jt x).length+(x.duties.flatMap fun d=> [d.due]).length:=by unfold F6;rw[ym]
 constructor<;>omega
structure K2 (B:Nat) (N:Nat->Prop) (w0:World) (es:List Ex) (wr:World) (v:Value):Prop where
 below:Below B w0 wr
 size:B<=wr.heap.size
 own:∃rows,Ge B wr v rows∧AB (fun cs e=>AG N w0 e cs) rows es
theorem AB.len{α β:Type}{R:α->β->Prop}{l:List α}{m:List β}(h:AB R l m):l.length=m.length:=h.length
def TT(N:NP)(w:World)(b o:Nat)(e:Ex):Prop:=N b∧∃c,w.rangeAt b o c∧AG N w e c
theorem Kl{N:NP}{w:World}{b o:Nat}{p c q:LV}{e:Ex}{a:Nat}(hN:N b)(hr:w.rangeAt b o (p++(c++q)))(d:p.length=a)(f:AG N w e c):TT N w b (o+a) e:=by
 have:=CY hr
 rw[d] at this
 exact ⟨hN,c,this,f⟩
structure Ws (N:Nat->Prop) (w:World) (L:Bt) (x:Av):Prop where
 lets:∀i (hi:i < x.lets.length),∃b o,L.lets.a=some ⟨b,o,none⟩∧TT N w b (o+i*7+1) x.lets[i].value
 crops:∀i (hi:i < x.crops.length),∃b o,L.crops.a=some ⟨b,o,none⟩∧TT N w b (o+i*7+1) x.crops[i].need
 farms:∀i (hi:i < x.farms.length),∃b o,L.farms.a=some ⟨b,o,none⟩∧TT N w b (o+i*12+4) x.farms[i].area
 duties:∀i (hi:i < x.duties.length),∃b o,L.duties.a=some ⟨b,o,none⟩∧TT N w b (o+i*11+5) x.duties[i].due
theorem BH.tops{N:NP}{w:World}{L:Bt}{cs:LV}{x:Av}(h:BH N w L cs x):Ws N w L x:=by
 refine ⟨fun i hi=>?_,fun i hi=>?_,fun i hi=>?_,fun i hi=>?_⟩
 ·obtain ⟨b,o,c,g1,d,f,e,_,c1,rfl,a⟩:=h.lets.2.2 i hi
  exact ⟨b,o,g1,Kl (p:=[.string (x.lets[i]).name]) (q:=[]) d (by simpa using e) rfl a⟩
 ·obtain ⟨b,o,c,g1,d,f,e,_,c1,rfl,a⟩:=h.crops.2.2 i hi
  exact ⟨b,o,g1,Kl (p:=[.string (x.crops[i]).name]) (q:=[]) d (by simpa using e) rfl a⟩
 ·obtain ⟨b,o,c,g1,d,f,e,_,_,_,c1,rfl,a⟩:=h.farms.2.2 i hi
  exact ⟨b,o,g1,Kl (p:=.string (x.farms[i]).name::(AU (x.farms[i]).on++[.bool (x.farms[i]).river])) (q:=AU (x.farms[i]).crop) d (by simpa using e) rfl a⟩
 ·obtain ⟨b,o,c,g1,d,f,e,_,_,_,c1,rfl,a⟩:=h.duties.2.2 i hi
  exact ⟨b,o,g1,Kl (p:=.string (x.duties[i]).name::(AU (x.duties[i]).farm++AU (x.duties[i]).reach)) (q:=[]) d (by simpa using e) rfl a⟩
def Eg(N:NP)(w W:World)(b o:Nat)(e:Ex):Prop:=∃c,W.rangeAt b o c∧AG N w e c
theorem C9{N:NP}{w W:World}{b o:Nat}{p c q:LV}{e:Ex}(a:Nat)(hr:W.rangeAt b o (p++(c++q)))(d:p.length=a)(f:AG N w e c):Eg N w W b (o+a) e:=by
 have:=CY hr
 rw[d] at this
 exact ⟨c,this,f⟩
theorem P2{N:NP}{w W:World}{b:Nat}{R:LV}{d:AA}(hr:W.rangeAt b 0 R)(u:F8 N w R d):Eg N w W b 3 d.delay∧Eg N w W b 9 d.cap∧Eg N w W b 15 d.bank∧Eg N w W b 21 d.siphon∧Eg N w W b 27 d.evap0∧Eg N w W b 33 d.evap1∧Eg N w W b 39 d.seep0∧Eg N w W b 45 d.seep1:=by
 obtain ⟨_,_,c0,c1,c2,c3,c4,c5,c6,c7,rfl,m,o,n,s,l,j,r,t⟩:=u
 have a:=m.len;have c:=o.len;have f:=n.len;have g:=s.len;have i:=l.len;have l5:=j.len;have l6:=r.len
 have z:∀ {k:Nat} {e:Ex},Eg N w W b (0+k) e->Eg N w W b k e:=fun h=>by rwa [yy] at h
 refine ⟨z ?_,z ?_,z ?_,z ?_,z ?_,z ?_,z ?_,z ?_⟩
 ·exact C9 (p:=.string d.name::AU d.frm) _ (by simpa using hr) rfl m
 ·exact C9 (p:=.string d.name::(AU d.frm++c0)) _ (by simpa using hr) (by simp[Aw,a]) o
 ·exact C9 (p:=.string d.name::(AU d.frm++(c0++c1))) _ (by simpa using hr) (by simp[Aw,a,c]) n
 ·exact C9 (p:=.string d.name::(AU d.frm++(c0++(c1++c2)))) _ (by simpa using hr) (by simp[Aw,a,c,f]) s
 ·exact C9 (p:=.string d.name::(AU d.frm++(c0++(c1++(c2++c3))))) _ (by simpa using hr) (by simp[Aw,a,c,f,g]) l
 ·exact C9 (p:=.string d.name::(AU d.frm++(c0++(c1++(c2++(c3++c4)))))) _ (by simpa using hr) (by simp[Aw,a,c,f,g,i]) j
 ·exact C9 (p:=.string d.name::(AU d.frm++(c0++(c1++(c2++(c3++(c4++c5))))))) _ (by simpa using hr) (by simp[Aw,a,c,f,g,i,l5]) r
 ·exact C9 (p:=.string d.name::(AU d.frm++(c0++(c1++(c2++(c3++(c4++(c5++c6)))))))) (q:=[]) _ (by simpa using hr) (by simp[Aw,a,c,f,g,i,l5,l6]) t
theorem P3{N:NP}{w W:World}{b:Nat}{R:LV}{d:AW}(hr:W.rangeAt b 0 R)(m:F9 N w R d):Eg N w W b 7 d.flow∧Eg N w W b 13 d.frm∧Eg N w W b 19 d.to∧Eg N w W b 25 d.every∧Eg N w W b 31 d.len:=by
 obtain ⟨_,_,_,c0,c1,c2,c3,c4,rfl,f,j,g,l,o⟩:=m
 have a:=f.len;have c:=j.len;have i:=g.len;have n:=l.len
 have z:∀ {k:Nat} {e:Ex},Eg N w W b (0+k) e->Eg N w W b k e:=fun h=>by rwa [yy] at h
 refine ⟨z ?_,z ?_,z ?_,z ?_,z ?_⟩
 ·exact C9 (p:=iV d.kind::.string d.name::(AU d.farm++(AU d.reach++[iV d.rank]))) _ (by simpa using hr) rfl f
 ·exact C9 (p:=iV d.kind::.string d.name::(AU d.farm++(AU d.reach++(iV d.rank::c0)))) _ (by simpa using hr) (by simp[Aw,a]) j
 ·exact C9 (p:=iV d.kind::.string d.name::(AU d.farm++(AU d.reach++(iV d.rank::(c0++c1))))) _ (by simpa using hr) (by simp[Aw,a,c]) g
 ·exact C9 (p:=iV d.kind::.string d.name::(AU d.farm++(AU d.reach++(iV d.rank::(c0++(c1++c2)))))) _ (by simpa using hr) (by simp[Aw,a,c,i]) l
 ·exact C9 (p:=iV d.kind::.string d.name::(AU d.farm++(AU d.reach++(iV d.rank::(c0++(c1++(c2++c3))))))) (q:=[]) _ (by simpa using hr) (by simp[Aw,a,c,i,n]) o
theorem Si{N:NP}{w W:World}{b:Nat}{R:LV}{h:Au}{d:Br}(hr:W.rangeAt b 0 R)(m:GW N w h R d):Eg N w W b 4 d.flow∧Eg N w W b 10 d.frm∧Eg N w W b 16 d.to∧R[22]?=some h.v∧BE N w 8 (Ft N w) h d.turns:=by
 obtain ⟨_,_,c0,c1,c2,rfl,g,l,i,n⟩:=m
 have c:=g.len;have f:=l.len;have j:=i.len
 have z:∀ {k:Nat} {e:Ex},Eg N w W b (0+k) e->Eg N w W b k e:=fun h=>by rwa [yy] at h
 have a:(Value.string d.name::(AU d.on++(iV d.rank::(c0++(c1++(c2++[h.v]))))))[22]?=some h.v:=by
  have e:(Value.string d.name::(AU d.on++(iV d.rank::(c0++(c1++(c2++[h.v]))))))=(Value.string d.name::(AU d.on++(iV d.rank::(c0++(c1++c2)))))++[h.v]:=by simp
  rw[e,yU (by simp[Aw,c,f,j])]
  simp[Aw,c,f,j]
 refine ⟨z ?_,z ?_,z ?_,a,n⟩
 ·exact C9 (p:=.string d.name::(AU d.on++[iV d.rank])) _ (by simpa using hr) rfl g
 ·exact C9 (p:=.string d.name::(AU d.on++(iV d.rank::c0))) _ (by simpa using hr) (by simp[Aw,c]) l
 ·exact C9 (p:=.string d.name::(AU d.on++(iV d.rank::(c0++c1)))) _ (by simpa using hr) (by simp[Aw,c,f]) i
theorem Qg{N:NP}{w W:World}{L:Bt}{b:Nat}{R:LV}{x:Av}(hr:W.rangeAt b 0 R)(f:BH N w L R x):Eg N w W b 1 x.season∧Eg N w W b 7 x.cap∧Eg N w W b 13 x.start:=by
 obtain ⟨c0,c1,c2,rfl,a,c,g⟩:=f.cells
 have d:=a.len;have i:=c.len
 have z:∀ {k:Nat} {e:Ex},Eg N w W b (0+k) e->Eg N w W b k e:=fun h=>by rwa [yy] at h
 refine ⟨z ?_,z ?_,z ?_⟩
 ·exact C9 (p:=[.string x.name]) _ (by simpa using hr) rfl a
 ·exact C9 (p:=.string x.name::c0) _ (by simpa using hr) (by simp[d]) c
 ·exact C9 (p:=.string x.name::(c0++c1)) _ (by simpa using hr) (by simp[d,i]) g
theorem TU{B:Nat}{w:World}{v:Value}{rows:List LV}(h:Ge B w v rows){g:Nat}{c:Array Value}{ty:TypeId}(f:w.heap[g]?=some (.cells c ty (0,0)))(d:ty≠26):v.ownBlock≠some g:=fun e=>by
 rcases h.2 with ⟨rfl,_⟩|⟨k,cap,b,rfl,_,a,_⟩
 ·cases e
 ·cases e
  rw[f] at a
  cases a
  exact d rfl
theorem Sj{B b:Nat}{w:World}{v:Value}{l:List LV}(h:Ge B w v l)(hb:b<=B):Ge b w v l:=by
 obtain ⟨h1,h2⟩:=h
 refine ⟨h1,h2.imp id ?_⟩
 rintro ⟨g,cap,a,e,c,h5⟩
 exact ⟨g,cap,a,e,by omega,h5⟩
structure Wb (L:Bt) (x:Av):Prop where
 lets:L.lets.n=x.lets.length
 crops:L.crops.n=x.crops.length
 reaches:L.reaches.n=x.reaches.length
 farms:L.farms.n=x.farms.length
 rots:L.rots.n=x.rots.length
 rights:L.rights.n=x.rights.length
 duties:L.duties.n=x.duties.length
theorem UK{N:NP}{w:World}{L:Bt}{cs:LV}{x:Av}(h:BH N w L cs x)(hN:∀b,N b->b < w.heap.size)(cl:Fw x):
  Calls Tryz.prog 39 #[.agg cs.toArray] w fun e w'=>∃v,e=.returned v∧K2 w.heap.size N w (F6 x) w' v:=by
 have af:Hid (Wb L x):=yb ⟨h.lets.1,h.crops.1,h.reaches.1,h.farms.1,h.rots.1,h.rights.1,h.duties.1⟩
 have bi:=yb h.ok
 have b7:=yb cl.top
 have ay:=yb cl
 have b0:=yb h.at
 obtain ⟨w0,bn⟩:∃w0,w0=w.alloc (.cells cs.toArray 35):=⟨_,rfl⟩
 have cf:Below w.heap.size w w0:=by rw[bn];exact (yg _ _).alloc (yf _) _
 have cp:w0.heap.size=w.heap.size+1:=by rw[bn];simp
 have cj:w0.heap[w.heap.size]?=some (.cells cs.toArray 35 (0,0)):=by rw[bn];exact World.alloc_heap_new _ _
 have h0:BH N w0 L cs x:=h.same (fun _ h=>h) (fun b hb=>cf.block b (hN b hb))
 have bz:=yb h0.tops
 have bo:=yb h0
 have cu:=yb cf;have db:=yb cp;have dw:=yb hN
 have bd:Hid (∀wr,Below (w.heap.size+1) w0 wr->∀q v,cs[q]?=some v->wr.cell? (aV w.heap.size q)=some v):=yb (fun wr ck q v hq=>by
  have e:=ck.block w.heap.size (by omega)
  simp only[World.cell?,e,cj]
  simpa using hq)
 have bb:Hid (∀wr,Below (w.heap.size+1) w0 wr->∀b,N b->wr.heap[b]?=w0.heap[b]?):=yb (fun wr ck b hb=>ck.block b (by have:=hN b hb;omega))
 have d6:Hid (w0.rangeAt w.heap.size 0 cs):=yb (by
  have:=zo cj 0 cs.length
  simpa using this)
 have Y:Hid (K2 (w.heap.size+1) N w0 ([]++(x.lets.take 0).flatMap (fun d=> [d.value])) w0 (.slice none 0 0)):=yb ⟨yg _ _,by omega,[],Sh _ _,trivial⟩
 have d5:=yb bn
 clear cf cp cj h0 hN cl bn
 obtain ⟨ks,ci⟩:∃ks,ks=cs:=⟨_,rfl⟩
 rw[<-ci] at b0 bo bd d6
 have HK:=yb ci
 obtain ⟨c0,c1,c2,rfl,g0,g1,g2⟩:=h.cells
 obtain ⟨a0,p0,rfl,e0⟩:=g0.cells
 obtain ⟨a1,p1,rfl,e1⟩:=g1.cells
 obtain ⟨a2,p2,rfl,e2⟩:=g2.cells
 clear h g0 g1 g2 e0 e1 e2 ci
 unfold Au.v at*
 simp only[yP,yS] at d5 HK ⊢
 go_enter Tryz.func39,Tryz.ntmps39
 go_upto_region 2 with fail
 rw[<-d5.o]
 go_wp2
 go_loopw [3,4] (fun v3 iv wr=>∃i:Nat,i<=L.lets.n∧iv=iV i∧Hid (K2 (w.heap.size+1) N w0 (([]:List Ex)++(x.lets.take i).flatMap (fun d=> [d.value])) wr v3)) (fun _ iv _=>L.lets.n - (intOf iv).toNat)
 case atStart=>exact ⟨0,yK _,rfl,Y⟩
 case round=>
  clear Y
  obtain ⟨i,hi,rfl,H⟩:=hrel
  have hf:wr.cell? (aV w.heap.size 19)=some (.slice L.lets.a L.lets.n L.lets.c):=bd.o wr H.o.below 19 _ b0.o.lets
  have au:L.lets.n<=140737488355328:=bi.o.lets.1
  by_cases ag:i < L.lets.n
  ·have U:i < x.lets.length:=by rw[<-af.o.lets];exact ag
   have aa:(i:Int) < (L.lets.n:Int):=by omega
   obtain ⟨b,o,he,X,c,V,a8⟩:=bz.o.lets i U
   rw[he] at hf
   have t:Hid (([]:List Ex)++(x.lets.take (i+1)).flatMap (fun d=> [d.value])=(([]:List Ex)++(x.lets.take i).flatMap (fun d=> [d.value]))++[x.lets[i].value]):=yb (by rw[DW U,yL])
   have ae:(([]:List Ex)++(x.lets.take i).flatMap (fun d=> [d.value])).length<=20000:=by
    have h1:=EO (l:=x.lets) (f:=(fun d=> [d.value])) (c:=1) (i:=i) (fun _ _=>by simp)
    have h2:=b7.o.t1;have h3:=ay.o.lets
    rw[ym]
    simp only[yH]
    omega
   generalize x.lets[i].value=E at a8 t
   have bh:=yb a8
   obtain ⟨a',p',rfl,_⟩:=a8.cells
   have be:=yb (A0 V ((bb.o wr H.o.below) b X))
   obtain ⟨rows,G,A⟩:=H.o.own
   have M:=yb G;have O:=yb A
   have K:Hid (rows.length+1<=1000000000):=yb (by rw[A.length];omega)
   clear V a8 he G A ae X
   have F:Hid (Below wr.heap.size wr (wr.alloc (.cells #[iV E.op,iV E.n,iV E.u,.string E.rn,iV E.ri,.slice a' E.args.length p'] 26))):=yb ((yg _ _).alloc (yf _) _)
   have I:=yb (M.o.up F.o)
   have Z:=yb (H.o.below.trans (F.o.mono H.o.size))
   have J:Hid ((wr.alloc (.cells #[iV E.op,iV E.n,iV E.u,.string E.rn,iV E.ri,.slice a' E.args.length p'] 26)).heap[wr.heap.size]?=some (.cells #[iV E.op,iV E.n,iV E.u,.string E.rn,iV E.ri,.slice a' E.args.length p'] 26 (0,0))):=yb (by
    have h:=World.alloc_heap_new wr (.cells #[iV E.op,iV E.n,iV E.u,.string E.rn,iV E.ri,.slice a' E.args.length p'] 26)
    exact h)
   have r:Hid ((w.heap.size+1)<=(wr.alloc (.cells #[iV E.op,iV E.n,iV E.u,.string E.rn,iV E.ri,.slice a' E.args.length p'] 26)).heap.size):=yb (yu H.o.size F.o.size)
   go_wp2_with (first|(refine yj rfl 26 _ rfl b (o+i*7+1) rfl [iV E.op,iV E.n,iV E.u,.string E.rn,iV E.ri,.slice a' E.args.length p'] _ be.o qM rfl (by kernel_rfl) ?_)|(at_builtin;refine B7 (w.heap.size+1) rfl _ _ rfl u3 rows rfl I.o (wr.heap.size) 1 1 [[iV E.op,iV E.n,iV E.u,.string E.rn,iV E.ri,.slice a' E.args.length p']] #[iV E.op,iV E.n,iV E.u,.string E.rn,iV E.ri,.slice a' E.args.length p'] rfl rfl J.o rfl (by simp[Value.oneCell']) rfl K.o r.o ?_;intro aw n5 c5 w5 y C;have ab:=yb y;have ad:=yb (Ea Z.o r.o I.o C);have ac:Hid ((w.heap.size+1)<=w5.heap.size):=yb (yu r.o C.size);have ar:=yb C;clear y C))
   exact ⟨⟨i+1,by omega,by push_cast;rfl,yb ⟨ad.o,ac.o,_,ab.o,by rw[t.o];exact O.o.append ⟨bh.o,trivial⟩⟩⟩,by simp[intOf];omega⟩
  ·obtain rfl:i=L.lets.n:=by omega
   have aa:decide ((L.lets.n:Int) < (L.lets.n:Int))=false:=by simp
   have P:Hid (K2 (w.heap.size+1) N w0 (([]:List Ex)++x.lets.flatMap (fun d=> [d.value])) wr u3):=yb (by
    have h:=H.o
    rw[af.o.lets,yT] at h
    exact h)
   obtain ⟨⟨C0,r0,k0⟩,⟨C1,r1,k1⟩,⟨C2,r2,k2⟩⟩:=Qg (W:=wr) (A0 d6.o (P.o.below.block _ (xQ _))) bo.o
   have c9:Hid (IV x=Qf x++[x.season,x.cap,x.start]):=yb rfl
   generalize x.season=m at k0 c9
   generalize x.cap=j at k1 c9
   generalize x.start=g at k2 c9
   have an:=yb k0;have ai:=yb k1;have ap:=yb k2
   obtain ⟨a0,p0,rfl,_⟩:=k0.cells
   obtain ⟨a1,p1,rfl,_⟩:=k1.cells
   obtain ⟨a2,p2,rfl,_⟩:=k2.cells
   have ao:=yb r0;have aj:=yb r1;have aq:=yb r2
   obtain ⟨rows,G,A⟩:=P.o.own
   have M:=yb G;have O:=yb A
   have K:Hid (rows.length+3<=1000000000):=yb (by
    have h2:=b7.o.t1
    have h3:rows.length=(Qf x).length:=A.length
    omega)
   clear r0 r1 r2 G A
   have F:Hid (Below wr.heap.size wr (wr.alloc (.cells #[iV m.op,iV m.n,iV m.u,.string m.rn,iV m.ri,.slice a0 m.args.length p0,iV j.op,iV j.n,iV j.u,.string j.rn,iV j.ri,.slice a1 j.args.length p1,iV g.op,iV g.n,iV g.u,.string g.rn,iV g.ri,.slice a2 g.args.length p2] 26))):=yb ((yg _ _).alloc (yf _) _)
   have I:=yb (M.o.up F.o)
   have Z:=yb (P.o.below.trans (F.o.mono P.o.size))
   have J:Hid ((wr.alloc (.cells #[iV m.op,iV m.n,iV m.u,.string m.rn,iV m.ri,.slice a0 m.args.length p0,iV j.op,iV j.n,iV j.u,.string j.rn,iV j.ri,.slice a1 j.args.length p1,iV g.op,iV g.n,iV g.u,.string g.rn,iV g.ri,.slice a2 g.args.length p2] 26)).heap[wr.heap.size]?=some (.cells #[iV m.op,iV m.n,iV m.u,.string m.rn,iV m.ri,.slice a0 m.args.length p0,iV j.op,iV j.n,iV j.u,.string j.rn,iV j.ri,.slice a1 j.args.length p1,iV g.op,iV g.n,iV g.u,.string g.rn,iV g.ri,.slice a2 g.args.length p2] 26 (0,0))):=yb (by
    have h:=World.alloc_heap_new wr (.cells #[iV m.op,iV m.n,iV m.u,.string m.rn,iV m.ri,.slice a0 m.args.length p0,iV j.op,iV j.n,iV j.u,.string j.rn,iV j.ri,.slice a1 j.args.length p1,iV g.op,iV g.n,iV g.u,.string g.rn,iV g.ri,.slice a2 g.args.length p2] 26)
    exact h)
   have r:Hid ((w.heap.size+1)<=(wr.alloc (.cells #[iV m.op,iV m.n,iV m.u,.string m.rn,iV m.ri,.slice a0 m.args.length p0,iV j.op,iV j.n,iV j.u,.string j.rn,iV j.ri,.slice a1 j.args.length p1,iV g.op,iV g.n,iV g.u,.string g.rn,iV g.ri,.slice a2 g.args.length p2] 26)).heap.size):=yb (yu P.o.size F.o.size)
   go_wp2_with (first|(refine yj rfl 26 _ rfl w.heap.size (1) rfl [iV m.op,iV m.n,iV m.u,.string m.rn,iV m.ri,.slice a0 m.args.length p0] _ ao.o qM rfl (by kernel_rfl) ?_)|(refine yj rfl 26 _ rfl w.heap.size (7) rfl [iV j.op,iV j.n,iV j.u,.string j.rn,iV j.ri,.slice a1 j.args.length p1] _ aj.o qM rfl (by kernel_rfl) ?_)|(refine yj rfl 26 _ rfl w.heap.size (13) rfl [iV g.op,iV g.n,iV g.u,.string g.rn,iV g.ri,.slice a2 g.args.length p2] _ aq.o qM rfl (by kernel_rfl) ?_)|(at_builtin;refine B7 (w.heap.size+1) rfl _ _ rfl u3 rows rfl I.o (wr.heap.size) 3 3 [[iV m.op,iV m.n,iV m.u,.string m.rn,iV m.ri,.slice a0 m.args.length p0],[iV j.op,iV j.n,iV j.u,.string j.rn,iV j.ri,.slice a1 j.args.length p1],[iV g.op,iV g.n,iV g.u,.string g.rn,iV g.ri,.slice a2 g.args.length p2]] #[iV m.op,iV m.n,iV m.u,.string m.rn,iV m.ri,.slice a0 m.args.length p0,iV j.op,iV j.n,iV j.u,.string j.rn,iV j.ri,.slice a1 j.args.length p1,iV g.op,iV g.n,iV g.u,.string g.rn,iV g.ri,.slice a2 g.args.length p2] rfl rfl J.o rfl (by simp[Value.oneCell']) rfl K.o r.o ?_;intro aw n5 c5 w5 y C;have ab:=yb y;have ad:=yb (Ea Z.o r.o I.o C);have ac:Hid ((w.heap.size+1)<=w5.heap.size):=yb (yu r.o C.size);have ar:=yb C;clear y C))
   have Y:Hid (K2 (w.heap.size+1) N w0 (IV x++(x.crops.take 0).flatMap (fun d=> [d.need])) w5 (.slice aw n5 c5)):=yb ⟨ad.o,ac.o,_,ab.o,by
    rw[xd,zt,yV,c9.o]
    exact O.o.append ⟨an.o,ai.o,ap.o,trivial⟩⟩
   clear hf aa H P ab ad ac ar O M K J r Z I F
   go_loopw [3,5] (fun v3 iv wr=>∃i:Nat,i<=L.crops.n∧iv=iV i∧Hid (K2 (w.heap.size+1) N w0 (IV x++(x.crops.take i).flatMap (fun d=> [d.need])) wr v3)) (fun _ iv _=>L.crops.n - (intOf iv).toNat)
   case atStart=>exact ⟨0,yK _,rfl,Y⟩
   case round=>
    clear Y
    obtain ⟨i,hi,rfl,H⟩:=hrel
    have hf:wr.cell? (aV w.heap.size 20)=some (.slice L.crops.a L.crops.n L.crops.c):=bd.o wr H.o.below 20 _ b0.o.crops
    have au:L.crops.n<=140737488355328:=bi.o.crops.1
    by_cases ag:i < L.crops.n
    ·have U:i < x.crops.length:=by rw[<-af.o.crops];exact ag
     have aa:(i:Int) < (L.crops.n:Int):=by omega
     obtain ⟨b,o,he,X,c,V,a8⟩:=bz.o.crops i U
     rw[he] at hf
     have t:Hid (IV x++(x.crops.take (i+1)).flatMap (fun d=> [d.need])=(IV x++(x.crops.take i).flatMap (fun d=> [d.need]))++[x.crops[i].need]):=yb (by rw[DW U,yL])
     have ae:(IV x++(x.crops.take i).flatMap (fun d=> [d.need])).length<=20000:=by
      have h1:=EO (l:=x.crops) (f:=(fun d=> [d.need])) (c:=1) (i:=i) (fun _ _=>by simp)
      have h2:=b7.o.t2;have h3:=ay.o.crops
      rw[ym]
      skip
      omega
     generalize x.crops[i].need=E at a8 t
     have bh:=yb a8
     obtain ⟨a',p',rfl,_⟩:=a8.cells
     have be:=yb (A0 V ((bb.o wr H.o.below) b X))
     obtain ⟨rows,G,A⟩:=H.o.own
     have M:=yb G;have O:=yb A
     have K:Hid (rows.length+1<=1000000000):=yb (by rw[A.length];omega)
     clear V a8 he G A ae X
     have F:Hid (Below wr.heap.size wr (wr.alloc (.cells #[iV E.op,iV E.n,iV E.u,.string E.rn,iV E.ri,.slice a' E.args.length p'] 26))):=yb ((yg _ _).alloc (yf _) _)
     have I:=yb (M.o.up F.o)
     have Z:=yb (H.o.below.trans (F.o.mono H.o.size))
     have J:Hid ((wr.alloc (.cells #[iV E.op,iV E.n,iV E.u,.string E.rn,iV E.ri,.slice a' E.args.length p'] 26)).heap[wr.heap.size]?=some (.cells #[iV E.op,iV E.n,iV E.u,.string E.rn,iV E.ri,.slice a' E.args.length p'] 26 (0,0))):=yb (by
      have h:=World.alloc_heap_new wr (.cells #[iV E.op,iV E.n,iV E.u,.string E.rn,iV E.ri,.slice a' E.args.length p'] 26)
      exact h)
     have r:Hid ((w.heap.size+1)<=(wr.alloc (.cells #[iV E.op,iV E.n,iV E.u,.string E.rn,iV E.ri,.slice a' E.args.length p'] 26)).heap.size):=yb (yu H.o.size F.o.size)
     go_wp2_with (first|(refine yj rfl 26 _ rfl b (o+i*7+1) rfl [iV E.op,iV E.n,iV E.u,.string E.rn,iV E.ri,.slice a' E.args.length p'] _ be.o qM rfl (by kernel_rfl) ?_)|(at_builtin;refine B7 (w.heap.size+1) rfl _ _ rfl u3 rows rfl I.o (wr.heap.size) 1 1 [[iV E.op,iV E.n,iV E.u,.string E.rn,iV E.ri,.slice a' E.args.length p']] #[iV E.op,iV E.n,iV E.u,.string E.rn,iV E.ri,.slice a' E.args.length p'] rfl rfl J.o rfl (by simp[Value.oneCell']) rfl K.o r.o ?_;intro aw n5 c5 w5 y C;have ab:=yb y;have ad:=yb (Ea Z.o r.o I.o C);have ac:Hid ((w.heap.size+1)<=w5.heap.size):=yb (yu r.o C.size);have ar:=yb C;clear y C))
     exact ⟨⟨i+1,by omega,by push_cast;rfl,yb ⟨ad.o,ac.o,_,ab.o,by rw[t.o];exact O.o.append ⟨bh.o,trivial⟩⟩⟩,by simp[intOf];omega⟩
    ·obtain rfl:i=L.crops.n:=by omega
     have aa:decide ((L.crops.n:Int) < (L.crops.n:Int))=false:=by simp
     have P:Hid (K2 (w.heap.size+1) N w0 (IV x++x.crops.flatMap (fun d=> [d.need])) wr u3):=yb (by
      have h:=H.o
      rw[af.o.crops,yT] at h
      exact h)
     go_wp2
     obtain ⟨dk,rfl⟩:∃z:World,z=wr:=⟨_,rfl⟩
     obtain ⟨dp,rfl⟩:∃z:Value,z=u3:=⟨_,rfl⟩
     have Y:Hid (K2 (w.heap.size+1) N w0 (Jq x++(x.reaches.take 0).flatMap Ey) dk dp):=yb (by
      rw[xd,zt,yV];exact P.o)
     clear hf aa H P
     go_loopw [3,6] (fun v3 iv wr=>∃i:Nat,i<=L.reaches.n∧iv=iV i∧Hid (K2 (w.heap.size+1) N w0 (Jq x++(x.reaches.take i).flatMap Ey) wr v3)) (fun _ iv _=>L.reaches.n - (intOf iv).toNat)
     case atStart=>exact ⟨0,yK _,rfl,Y⟩
     case round=>
      clear Y
      obtain ⟨i,hi,rfl,H⟩:=hrel
      have hf:wr.cell? (aV w.heap.size 21)=some (.slice L.reaches.a L.reaches.n L.reaches.c):=bd.o wr H.o.below 21 _ b0.o.reaches
      have au:L.reaches.n<=140737488355328:=bi.o.reaches.1
      by_cases ag:i < L.reaches.n
      ·have U:i < x.reaches.length:=by rw[<-af.o.reaches];exact ag
       have aa:(i:Int) < (L.reaches.n:Int):=by omega
       obtain ⟨b,o,R,he,X,ak,V,hv⟩:=bo.o.reaches.2.2 i U
       rw[he] at hf
       have t:Hid (Jq x++(x.reaches.take (i+1)).flatMap Ey=(Jq x++(x.reaches.take i).flatMap Ey)++[x.reaches[i].delay,x.reaches[i].cap,x.reaches[i].bank,x.reaches[i].siphon,x.reaches[i].evap0,x.reaches[i].evap1,x.reaches[i].seep0,x.reaches[i].seep1]):=yb (by rw[DW U,yL];rfl)
       have ae:(Jq x++(x.reaches.take i).flatMap Ey).length<=20000:=by
        have h1:=EO (l:=x.reaches) (f:=Ey) (c:=8) (i:=i) (fun _ _=>by simp[Ey])
        have h2:=b7.o.t3;have h3:=ay.o.reaches
        rw[ym]
        omega
       have b4:=yb (A0 V ((bb.o wr H.o.below) b X))
       have am:=yb (yB (J9 _ _ hv))
       have ba:Hid ((Tryz.prog.info? 66).map (·.size)=some R.length):=yb (by rw[ak];kernel_rfl)
       have b5:Hid ((Tryz.prog.info? 66).map (·.size)=some R.toArray.size):=yb (by rw[yq];exact ba.o)
       have bp:=yb ak
       have az:(wr.alloc (.cells R.toArray 66)).rangeAt wr.heap.size 0 R:=by
        have:=zo (World.alloc_heap_new wr (.cells R.toArray 66)) 0 R.length
        simpa using this
       obtain ⟨⟨C0,r0,k0⟩,⟨C1,r1,k1⟩,⟨C2,r2,k2⟩,⟨C3,r3,k3⟩,⟨C4,r4,k4⟩,⟨C5,r5,k5⟩,⟨C6,r6,k6⟩,⟨C7,r7,k7⟩⟩:=P2 az hv
       generalize x.reaches[i].delay=m at k0 t
       generalize x.reaches[i].cap=j at k1 t
       generalize x.reaches[i].bank=g at k2 t
       generalize x.reaches[i].siphon=s at k3 t
       generalize x.reaches[i].evap0=B at k4 t
       generalize x.reaches[i].evap1=Q at k5 t
       generalize x.reaches[i].seep0=S at k6 t
       generalize x.reaches[i].seep1=T at k7 t
       have an:=yb k0
       have ai:=yb k1
       have ap:=yb k2
       have b9:=yb k3
       have bw:=yb k4
       have cy:=yb k5
       have d8:=yb k6
       have d0:=yb k7
       obtain ⟨a0,p0,rfl,_⟩:=k0.cells
       obtain ⟨a1,p1,rfl,_⟩:=k1.cells
       obtain ⟨a2,p2,rfl,_⟩:=k2.cells
       obtain ⟨a3,p3,rfl,_⟩:=k3.cells
       obtain ⟨a4,p4,rfl,_⟩:=k4.cells
       obtain ⟨a5,p5,rfl,_⟩:=k5.cells
       obtain ⟨a6,p6,rfl,_⟩:=k6.cells
       obtain ⟨a7,p7,rfl,_⟩:=k7.cells
       have ao:=yb r0
       have aj:=yb r1
       have aq:=yb r2
       have b8:=yb r3
       have bv:=yb r4
       have d2:=yb r5
       have d4:=yb r6
       have d1:=yb r7
       obtain ⟨rows,G,A⟩:=H.o.own
       have O:=yb A
       have K:Hid (rows.length+8<=1000000000):=yb (by rw[A.length];omega)
       have ah:Hid (Below wr.heap.size wr (wr.alloc (.cells R.toArray 66))):=yb ((yg _ _).alloc (yf _) _)
       have M:=yb (G.up ah.o)
       have bk:=yb (H.o.below.trans (ah.o.mono H.o.size))
       have av:Hid ((w.heap.size+1)<=(wr.alloc (.cells R.toArray 66)).heap.size):=yb (yu H.o.size ah.o.size)
       clear V he G A ae X ak hv az r0 r1 r2 r3 r4 r5 r6 r7
       have F:Hid (Below (wr.alloc (.cells R.toArray 66)).heap.size (wr.alloc (.cells R.toArray 66)) ((wr.alloc (.cells R.toArray 66)).alloc (.cells #[iV m.op,iV m.n,iV m.u,.string m.rn,iV m.ri,.slice a0 m.args.length p0,iV j.op,iV j.n,iV j.u,.string j.rn,iV j.ri,.slice a1 j.args.length p1,iV g.op,iV g.n,iV g.u,.string g.rn,iV g.ri,.slice a2 g.args.length p2,iV s.op,iV s.n,iV s.u,.string s.rn,iV s.ri,.slice a3 s.args.length p3,iV B.op,iV B.n,iV B.u,.string B.rn,iV B.ri,.slice a4 B.args.length p4,iV Q.op,iV Q.n,iV Q.u,.string Q.rn,iV Q.ri,.slice a5 Q.args.length p5,iV S.op,iV S.n,iV S.u,.string S.rn,iV S.ri,.slice a6 S.args.length p6,iV T.op,iV T.n,iV T.u,.string T.rn,iV T.ri,.slice a7 T.args.length p7] 26))):=yb ((yg _ _).alloc (yf _) _)
       have I:=yb (M.o.up F.o)
       have Z:=yb (bk.o.trans (F.o.mono av.o))
       have J:Hid (((wr.alloc (.cells R.toArray 66)).alloc (.cells #[iV m.op,iV m.n,iV m.u,.string m.rn,iV m.ri,.slice a0 m.args.length p0,iV j.op,iV j.n,iV j.u,.string j.rn,iV j.ri,.slice a1 j.args.length p1,iV g.op,iV g.n,iV g.u,.string g.rn,iV g.ri,.slice a2 g.args.length p2,iV s.op,iV s.n,iV s.u,.string s.rn,iV s.ri,.slice a3 s.args.length p3,iV B.op,iV B.n,iV B.u,.string B.rn,iV B.ri,.slice a4 B.args.length p4,iV Q.op,iV Q.n,iV Q.u,.string Q.rn,iV Q.ri,.slice a5 Q.args.length p5,iV S.op,iV S.n,iV S.u,.string S.rn,iV S.ri,.slice a6 S.args.length p6,iV T.op,iV T.n,iV T.u,.string T.rn,iV T.ri,.slice a7 T.args.length p7] 26)).heap[wr.heap.size+1]?=some (.cells #[iV m.op,iV m.n,iV m.u,.string m.rn,iV m.ri,.slice a0 m.args.length p0,iV j.op,iV j.n,iV j.u,.string j.rn,iV j.ri,.slice a1 j.args.length p1,iV g.op,iV g.n,iV g.u,.string g.rn,iV g.ri,.slice a2 g.args.length p2,iV s.op,iV s.n,iV s.u,.string s.rn,iV s.ri,.slice a3 s.args.length p3,iV B.op,iV B.n,iV B.u,.string B.rn,iV B.ri,.slice a4 B.args.length p4,iV Q.op,iV Q.n,iV Q.u,.string Q.rn,iV Q.ri,.slice a5 Q.args.length p5,iV S.op,iV S.n,iV S.u,.string S.rn,iV S.ri,.slice a6 S.args.length p6,iV T.op,iV T.n,iV T.u,.string T.rn,iV T.ri,.slice a7 T.args.length p7] 26 (0,0))):=yb (by
        have h:=World.alloc_heap_new (wr.alloc (.cells R.toArray 66)) (.cells #[iV m.op,iV m.n,iV m.u,.string m.rn,iV m.ri,.slice a0 m.args.length p0,iV j.op,iV j.n,iV j.u,.string j.rn,iV j.ri,.slice a1 j.args.length p1,iV g.op,iV g.n,iV g.u,.string g.rn,iV g.ri,.slice a2 g.args.length p2,iV s.op,iV s.n,iV s.u,.string s.rn,iV s.ri,.slice a3 s.args.length p3,iV B.op,iV B.n,iV B.u,.string B.rn,iV B.ri,.slice a4 B.args.length p4,iV Q.op,iV Q.n,iV Q.u,.string Q.rn,iV Q.ri,.slice a5 Q.args.length p5,iV S.op,iV S.n,iV S.u,.string S.rn,iV S.ri,.slice a6 S.args.length p6,iV T.op,iV T.n,iV T.u,.string T.rn,iV T.ri,.slice a7 T.args.length p7] 26)
        rw[z8] at h;exact h)
       have r:Hid ((w.heap.size+1)<=((wr.alloc (.cells R.toArray 66)).alloc (.cells #[iV m.op,iV m.n,iV m.u,.string m.rn,iV m.ri,.slice a0 m.args.length p0,iV j.op,iV j.n,iV j.u,.string j.rn,iV j.ri,.slice a1 j.args.length p1,iV g.op,iV g.n,iV g.u,.string g.rn,iV g.ri,.slice a2 g.args.length p2,iV s.op,iV s.n,iV s.u,.string s.rn,iV s.ri,.slice a3 s.args.length p3,iV B.op,iV B.n,iV B.u,.string B.rn,iV B.ri,.slice a4 B.args.length p4,iV Q.op,iV Q.n,iV Q.u,.string Q.rn,iV Q.ri,.slice a5 Q.args.length p5,iV S.op,iV S.n,iV S.u,.string S.rn,iV S.ri,.slice a6 S.args.length p6,iV T.op,iV T.n,iV T.u,.string T.rn,iV T.ri,.slice a7 T.args.length p7] 26)).heap.size):=yb (yu av.o F.o.size)
       go_wp2_with (first|(refine yj rfl 66 _ rfl b (o+i*51) rfl R _ b4.o j2 rfl ba.o ?_)|(refine zb rfl 66 _ _ rfl wr.heap.size R.toArray rfl rfl 66 _ (World.alloc_heap_new _ _) b5.o (by simp[bp.o]) am.o ?_;rw[World.setRow_alloc_new])|(refine yj rfl 26 _ rfl wr.heap.size (3) rfl [iV m.op,iV m.n,iV m.u,.string m.rn,iV m.ri,.slice a0 m.args.length p0] _ ao.o qM rfl (by kernel_rfl) ?_)|(refine yj rfl 26 _ rfl wr.heap.size (9) rfl [iV j.op,iV j.n,iV j.u,.string j.rn,iV j.ri,.slice a1 j.args.length p1] _ aj.o qM rfl (by kernel_rfl) ?_)|(refine yj rfl 26 _ rfl wr.heap.size (15) rfl [iV g.op,iV g.n,iV g.u,.string g.rn,iV g.ri,.slice a2 g.args.length p2] _ aq.o qM rfl (by kernel_rfl) ?_)|(refine yj rfl 26 _ rfl wr.heap.size (21) rfl [iV s.op,iV s.n,iV s.u,.string s.rn,iV s.ri,.slice a3 s.args.length p3] _ b8.o qM rfl (by kernel_rfl) ?_)|(refine yj rfl 26 _ rfl wr.heap.size (27) rfl [iV B.op,iV B.n,iV B.u,.string B.rn,iV B.ri,.slice a4 B.args.length p4] _ bv.o qM rfl (by kernel_rfl) ?_)|(refine yj rfl 26 _ rfl wr.heap.size (33) rfl [iV Q.op,iV Q.n,iV Q.u,.string Q.rn,iV Q.ri,.slice a5 Q.args.length p5] _ d2.o qM rfl (by kernel_rfl) ?_)|(refine yj rfl 26 _ rfl wr.heap.size (39) rfl [iV S.op,iV S.n,iV S.u,.string S.rn,iV S.ri,.slice a6 S.args.length p6] _ d4.o qM rfl (by kernel_rfl) ?_)|(refine yj rfl 26 _ rfl wr.heap.size (45) rfl [iV T.op,iV T.n,iV T.u,.string T.rn,iV T.ri,.slice a7 T.args.length p7] _ d1.o qM rfl (by kernel_rfl) ?_)|(at_builtin;refine B7 (w.heap.size+1) rfl _ _ rfl u3 rows rfl I.o (wr.heap.size+1) 8 8 [[iV m.op,iV m.n,iV m.u,.string m.rn,iV m.ri,.slice a0 m.args.length p0],[iV j.op,iV j.n,iV j.u,.string j.rn,iV j.ri,.slice a1 j.args.length p1],[iV g.op,iV g.n,iV g.u,.string g.rn,iV g.ri,.slice a2 g.args.length p2],[iV s.op,iV s.n,iV s.u,.string s.rn,iV s.ri,.slice a3 s.args.length p3],[iV B.op,iV B.n,iV B.u,.string B.rn,iV B.ri,.slice a4 B.args.length p4],[iV Q.op,iV Q.n,iV Q.u,.string Q.rn,iV Q.ri,.slice a5 Q.args.length p5],[iV S.op,iV S.n,iV S.u,.string S.rn,iV S.ri,.slice a6 S.args.length p6],[iV T.op,iV T.n,iV T.u,.string T.rn,iV T.ri,.slice a7 T.args.length p7]] #[iV m.op,iV m.n,iV m.u,.string m.rn,iV m.ri,.slice a0 m.args.length p0,iV j.op,iV j.n,iV j.u,.string j.rn,iV j.ri,.slice a1 j.args.length p1,iV g.op,iV g.n,iV g.u,.string g.rn,iV g.ri,.slice a2 g.args.length p2,iV s.op,iV s.n,iV s.u,.string s.rn,iV s.ri,.slice a3 s.args.length p3,iV B.op,iV B.n,iV B.u,.string B.rn,iV B.ri,.slice a4 B.args.length p4,iV Q.op,iV Q.n,iV Q.u,.string Q.rn,iV Q.ri,.slice a5 Q.args.length p5,iV S.op,iV S.n,iV S.u,.string S.rn,iV S.ri,.slice a6 S.args.length p6,iV T.op,iV T.n,iV T.u,.string T.rn,iV T.ri,.slice a7 T.args.length p7] rfl rfl J.o rfl (by simp[Value.oneCell']) rfl K.o r.o ?_;intro aw n5 c5 w5 y C;have ab:=yb y;have ad:=yb (Ea Z.o r.o I.o C);have ac:Hid ((w.heap.size+1)<=w5.heap.size):=yb (yu r.o C.size);have ar:=yb C;clear y C))
       exact ⟨⟨i+1,by omega,by push_cast;rfl,yb ⟨ad.o,ac.o,_,ab.o,by rw[t.o];exact O.o.append ⟨an.o,ai.o,ap.o,b9.o,bw.o,cy.o,d8.o,d0.o,trivial⟩⟩⟩,by simp[intOf];omega⟩
      ·obtain rfl:i=L.reaches.n:=by omega
       have aa:decide ((L.reaches.n:Int) < (L.reaches.n:Int))=false:=by simp
       have P:Hid (K2 (w.heap.size+1) N w0 (Jq x++x.reaches.flatMap Ey) wr u3):=yb (by
        have h:=H.o
        rw[af.o.reaches,yT] at h
        exact h)
       go_wp2
       obtain ⟨du,rfl⟩:∃z:World,z=wr:=⟨_,rfl⟩
       obtain ⟨de,rfl⟩:∃z:Value,z=u3:=⟨_,rfl⟩
       have Y:Hid (K2 (w.heap.size+1) N w0 (Jr x++(x.farms.take 0).flatMap (fun d=> [d.area])) du de):=yb (by
        rw[xd,zt,yV];exact P.o)
       clear hf aa H P
       go_loopw [3,8] (fun v3 iv wr=>∃i:Nat,i<=L.farms.n∧iv=iV i∧Hid (K2 (w.heap.size+1) N w0 (Jr x++(x.farms.take i).flatMap (fun d=> [d.area])) wr v3)) (fun _ iv _=>L.farms.n - (intOf iv).toNat)
       case atStart=>exact ⟨0,yK _,rfl,Y⟩
       case round=>
        clear Y
        obtain ⟨i,hi,rfl,H⟩:=hrel
        have hf:wr.cell? (aV w.heap.size 22)=some (.slice L.farms.a L.farms.n L.farms.c):=bd.o wr H.o.below 22 _ b0.o.farms
        have au:L.farms.n<=140737488355328:=bi.o.farms.1
        by_cases ag:i < L.farms.n
        ·have U:i < x.farms.length:=by rw[<-af.o.farms];exact ag
         have aa:(i:Int) < (L.farms.n:Int):=by omega
         obtain ⟨b,o,he,X,c,V,a8⟩:=bz.o.farms i U
         rw[he] at hf
         have t:Hid (Jr x++(x.farms.take (i+1)).flatMap (fun d=> [d.area])=(Jr x++(x.farms.take i).flatMap (fun d=> [d.area]))++[x.farms[i].area]):=yb (by rw[DW U,yL])
         have ae:(Jr x++(x.farms.take i).flatMap (fun d=> [d.area])).length<=20000:=by
          have h1:=EO (l:=x.farms) (f:=(fun d=> [d.area])) (c:=1) (i:=i) (fun _ _=>by simp)
          have h2:=b7.o.t4;have h3:=ay.o.farms
          rw[ym]
          skip
          omega
         generalize x.farms[i].area=E at a8 t
         have bh:=yb a8
         obtain ⟨a',p',rfl,_⟩:=a8.cells
         have be:=yb (A0 V ((bb.o wr H.o.below) b X))
         obtain ⟨rows,G,A⟩:=H.o.own
         have M:=yb G;have O:=yb A
         have K:Hid (rows.length+1<=1000000000):=yb (by rw[A.length];omega)
         clear V a8 he G A ae X
         have F:Hid (Below wr.heap.size wr (wr.alloc (.cells #[iV E.op,iV E.n,iV E.u,.string E.rn,iV E.ri,.slice a' E.args.length p'] 26))):=yb ((yg _ _).alloc (yf _) _)
         have I:=yb (M.o.up F.o)
         have Z:=yb (H.o.below.trans (F.o.mono H.o.size))
         have J:Hid ((wr.alloc (.cells #[iV E.op,iV E.n,iV E.u,.string E.rn,iV E.ri,.slice a' E.args.length p'] 26)).heap[wr.heap.size]?=some (.cells #[iV E.op,iV E.n,iV E.u,.string E.rn,iV E.ri,.slice a' E.args.length p'] 26 (0,0))):=yb (by
          have h:=World.alloc_heap_new wr (.cells #[iV E.op,iV E.n,iV E.u,.string E.rn,iV E.ri,.slice a' E.args.length p'] 26)
          exact h)
         have r:Hid ((w.heap.size+1)<=(wr.alloc (.cells #[iV E.op,iV E.n,iV E.u,.string E.rn,iV E.ri,.slice a' E.args.length p'] 26)).heap.size):=yb (yu H.o.size F.o.size)
         go_wp2_with (first|(refine yj rfl 26 _ rfl b (o+i*12+4) rfl [iV E.op,iV E.n,iV E.u,.string E.rn,iV E.ri,.slice a' E.args.length p'] _ be.o qM rfl (by kernel_rfl) ?_)|(at_builtin;refine B7 (w.heap.size+1) rfl _ _ rfl u3 rows rfl I.o (wr.heap.size) 1 1 [[iV E.op,iV E.n,iV E.u,.string E.rn,iV E.ri,.slice a' E.args.length p']] #[iV E.op,iV E.n,iV E.u,.string E.rn,iV E.ri,.slice a' E.args.length p'] rfl rfl J.o rfl (by simp[Value.oneCell']) rfl K.o r.o ?_;intro aw n5 c5 w5 y C;have ab:=yb y;have ad:=yb (Ea Z.o r.o I.o C);have ac:Hid ((w.heap.size+1)<=w5.heap.size):=yb (yu r.o C.size);have ar:=yb C;clear y C))
         exact ⟨⟨i+1,by omega,by push_cast;rfl,yb ⟨ad.o,ac.o,_,ab.o,by rw[t.o];exact O.o.append ⟨bh.o,trivial⟩⟩⟩,by simp[intOf];omega⟩
        ·obtain rfl:i=L.farms.n:=by omega
         have aa:decide ((L.farms.n:Int) < (L.farms.n:Int))=false:=by simp
         have P:Hid (K2 (w.heap.size+1) N w0 (Jr x++x.farms.flatMap (fun d=> [d.area])) wr u3):=yb (by
          have h:=H.o
          rw[af.o.farms,yT] at h
          exact h)
         go_wp2
         obtain ⟨dm,rfl⟩:∃z:World,z=wr:=⟨_,rfl⟩
         obtain ⟨d9,rfl⟩:∃z:Value,z=u3:=⟨_,rfl⟩
         have Y:Hid (K2 (w.heap.size+1) N w0 (GM x++(x.rots.take 0).flatMap GL) dm d9):=yb (by
          rw[xd,zt,yV];exact P.o)
         clear hf aa H P
         go_loopw [3,9] (fun v3 iv wr=>∃i:Nat,i<=L.rots.n∧iv=iV i∧Hid (K2 (w.heap.size+1) N w0 (GM x++(x.rots.take i).flatMap GL) wr v3)) (fun _ iv _=>L.rots.n - (intOf iv).toNat)
         case atStart=>exact ⟨0,yK _,rfl,Y⟩
         case round=>
          clear Y
          obtain ⟨i,hi,rfl,H⟩:=hrel
          have hf:wr.cell? (aV w.heap.size 23)=some (.slice L.rots.a L.rots.n L.rots.c):=bd.o wr H.o.below 23 _ b0.o.rots
          have au:L.rots.n<=140737488355328:=bi.o.rots.1
          by_cases ag:i < L.rots.n
          ·have U:i < x.rots.length:=by rw[<-af.o.rots];exact ag
           have aa:(i:Int) < (L.rots.n:Int):=by omega
           obtain ⟨b,o,R,he,X,ak,V,hv⟩:=bo.o.rots.2.2 i U
           rw[he] at hf
           have t:Hid (GM x++(x.rots.take (i+1)).flatMap GL=(GM x++(x.rots.take i).flatMap GL)++([x.rots[i].flow,x.rots[i].frm,x.rots[i].to]++x.rots[i].turns.flatMap (fun k:Cb=> [k.len]))):=yb (by rw[DW U,yL];rfl)
           have ae:(GM x++(x.rots.take i).flatMap GL).length<=20000:=by
            have h1:=EO (l:=x.rots) (f:=GL) (c:=73) (i:=i) (fun d hd=>by
             have h1:(d.turns.flatMap (fun k:Cb=> [k.len])).length<=d.turns.length*1:=Be fun _ _=>by simp
             have:=ay.o.turns d hd
             simp only[GL,ym,yx,yH];omega)
            have h2:=b7.o.t5;have h3:=ay.o.rots
            rw[ym]
            omega
           have cm:x.rots[i].turns.length<=70:=ay.o.turns _ (yM U)
           have b4:=yb (A0 V ((bb.o wr H.o.below) b X))
           have am:=yb (yB (IC hv))
           have ba:Hid ((Tryz.prog.info? 109).map (·.size)=some R.length):=yb (by rw[ak];kernel_rfl)
           have b5:Hid ((Tryz.prog.info? 109).map (·.size)=some R.toArray.size):=yb (by rw[yq];exact ba.o)
           have bp:=yb ak
           have az:(wr.alloc (.cells R.toArray 109)).rangeAt wr.heap.size 0 R:=by
            have:=zo (World.alloc_heap_new wr (.cells R.toArray 109)) 0 R.length
            simpa using this
           obtain ⟨⟨C0,r0,k0⟩,⟨C1,r1,k1⟩,⟨C2,r2,k2⟩,d3,bx⟩:=Si az hv
           have dg:=yb d3
           have c8:=yb bx
           have dz:(A2 L i).n<=140737488355328:=by rw[bx.1];exact bx.2.1
           generalize x.rots[i].flow=m at k0 t
           generalize x.rots[i].frm=j at k1 t
           generalize x.rots[i].to=g at k2 t
           generalize x.rots[i].turns=D at c8 cm t
           have an:=yb k0;have ai:=yb k1;have ap:=yb k2
           obtain ⟨a0,p0,rfl,_⟩:=k0.cells
           obtain ⟨a1,p1,rfl,_⟩:=k1.cells
           obtain ⟨a2,p2,rfl,_⟩:=k2.cells
           have ao:=yb r0;have aj:=yb r1;have aq:=yb r2
           obtain ⟨rows,G,A⟩:=H.o.own
           have O:=yb A
           have K:Hid (rows.length+3<=1000000000):=yb (by rw[A.length];omega)
           have ah:Hid (Below wr.heap.size wr (wr.alloc (.cells R.toArray 109))):=yb ((yg _ _).alloc (yf _) _)
           have M:=yb (G.up ah.o)
           have bk:=yb (H.o.below.trans (ah.o.mono H.o.size))
           have av:Hid ((w.heap.size+1)<=(wr.alloc (.cells R.toArray 109)).heap.size):=yb (yu H.o.size ah.o.size)
           have bu:Hid ((wr.alloc (.cells R.toArray 109)).heap[wr.heap.size]?=some (.cells R.toArray 109 (0,0))):=yb (World.alloc_heap_new _ _)
           have dr:=yb cm;have cw:=yb ae
           clear V he G A ae X ak hv az r0 r1 r2 d3 bx cm
           obtain ⟨gb,co⟩:∃gb,gb=wr.heap.size:=⟨_,rfl⟩
           have dy:=yb co
           clear co
           have F:Hid (Below (wr.alloc (.cells R.toArray 109)).heap.size (wr.alloc (.cells R.toArray 109)) ((wr.alloc (.cells R.toArray 109)).alloc (.cells #[iV m.op,iV m.n,iV m.u,.string m.rn,iV m.ri,.slice a0 m.args.length p0,iV j.op,iV j.n,iV j.u,.string j.rn,iV j.ri,.slice a1 j.args.length p1,iV g.op,iV g.n,iV g.u,.string g.rn,iV g.ri,.slice a2 g.args.length p2] 26))):=yb ((yg _ _).alloc (yf _) _)
           have I:=yb (M.o.up F.o)
           have Z:=yb (bk.o.trans (F.o.mono av.o))
           have J:Hid (((wr.alloc (.cells R.toArray 109)).alloc (.cells #[iV m.op,iV m.n,iV m.u,.string m.rn,iV m.ri,.slice a0 m.args.length p0,iV j.op,iV j.n,iV j.u,.string j.rn,iV j.ri,.slice a1 j.args.length p1,iV g.op,iV g.n,iV g.u,.string g.rn,iV g.ri,.slice a2 g.args.length p2] 26)).heap[wr.heap.size+1]?=some (.cells #[iV m.op,iV m.n,iV m.u,.string m.rn,iV m.ri,.slice a0 m.args.length p0,iV j.op,iV j.n,iV j.u,.string j.rn,iV j.ri,.slice a1 j.args.length p1,iV g.op,iV g.n,iV g.u,.string g.rn,iV g.ri,.slice a2 g.args.length p2] 26 (0,0))):=yb (by
            have h:=World.alloc_heap_new (wr.alloc (.cells R.toArray 109)) (.cells #[iV m.op,iV m.n,iV m.u,.string m.rn,iV m.ri,.slice a0 m.args.length p0,iV j.op,iV j.n,iV j.u,.string j.rn,iV j.ri,.slice a1 j.args.length p1,iV g.op,iV g.n,iV g.u,.string g.rn,iV g.ri,.slice a2 g.args.length p2] 26)
            rw[z8] at h;exact h)
           have r:Hid ((w.heap.size+1)<=((wr.alloc (.cells R.toArray 109)).alloc (.cells #[iV m.op,iV m.n,iV m.u,.string m.rn,iV m.ri,.slice a0 m.args.length p0,iV j.op,iV j.n,iV j.u,.string j.rn,iV j.ri,.slice a1 j.args.length p1,iV g.op,iV g.n,iV g.u,.string g.rn,iV g.ri,.slice a2 g.args.length p2] 26)).heap.size):=yb (yu av.o F.o.size)
           go_wp2_with (first|(refine yj rfl 109 _ rfl b (o+i*23) rfl R _ b4.o qE rfl ba.o ?_)|(refine zb rfl 109 _ _ rfl wr.heap.size R.toArray rfl rfl 109 _ (World.alloc_heap_new _ _) b5.o (by simp[bp.o]) am.o ?_;rw[World.setRow_alloc_new])|(refine yj rfl 26 _ rfl wr.heap.size (4) rfl [iV m.op,iV m.n,iV m.u,.string m.rn,iV m.ri,.slice a0 m.args.length p0] _ ao.o qM rfl (by kernel_rfl) ?_)|(refine yj rfl 26 _ rfl wr.heap.size (10) rfl [iV j.op,iV j.n,iV j.u,.string j.rn,iV j.ri,.slice a1 j.args.length p1] _ aj.o qM rfl (by kernel_rfl) ?_)|(refine yj rfl 26 _ rfl wr.heap.size (16) rfl [iV g.op,iV g.n,iV g.u,.string g.rn,iV g.ri,.slice a2 g.args.length p2] _ aq.o qM rfl (by kernel_rfl) ?_)|(at_builtin;refine B7 (w.heap.size+1) rfl _ _ rfl u3 rows rfl I.o (wr.heap.size+1) 3 3 [[iV m.op,iV m.n,iV m.u,.string m.rn,iV m.ri,.slice a0 m.args.length p0],[iV j.op,iV j.n,iV j.u,.string j.rn,iV j.ri,.slice a1 j.args.length p1],[iV g.op,iV g.n,iV g.u,.string g.rn,iV g.ri,.slice a2 g.args.length p2]] #[iV m.op,iV m.n,iV m.u,.string m.rn,iV m.ri,.slice a0 m.args.length p0,iV j.op,iV j.n,iV j.u,.string j.rn,iV j.ri,.slice a1 j.args.length p1,iV g.op,iV g.n,iV g.u,.string g.rn,iV g.ri,.slice a2 g.args.length p2] rfl rfl J.o rfl (by simp[Value.oneCell']) rfl K.o r.o ?_;intro aw n5 c5 w5 y C;have ab:=yb y;have ad:=yb (Ea Z.o r.o I.o C);have ac:Hid ((w.heap.size+1)<=w5.heap.size):=yb (yu r.o C.size);have ar:=yb C;clear y C))
           have ax:Hid (w5.heap[wr.heap.size]?=some (.cells R.toArray 109 (0,0))):=yb (by
            have e1:((wr.alloc (.cells R.toArray 109)).alloc (.cells #[iV m.op,iV m.n,iV m.u,.string m.rn,iV m.ri,.slice a0 m.args.length p0,iV j.op,iV j.n,iV j.u,.string j.rn,iV j.ri,.slice a1 j.args.length p1,iV g.op,iV g.n,iV g.u,.string g.rn,iV g.ri,.slice a2 g.args.length p2] 26)).heap[wr.heap.size]?=some (.cells R.toArray 109 (0,0)):=(F.o.block _ (by simp)).trans bu.o
            exact (ar.o.block _ (yd.1 e1).1 (fun e=>TU I.o e1 (by decide) e.symm)).trans e1)
           have cz:Hid (K2 (w.heap.size+1) N w0 ((GM x++(x.rots.take i).flatMap GL)++([m,j,g]++(D.take 0).flatMap (fun k:Cb=> [k.len]))) w5 (.slice aw n5 c5)):=yb ⟨ad.o,ac.o,_,ab.o,by
            rw[xd,zt,yV]
            exact O.o.append ⟨an.o,ai.o,ap.o,trivial⟩⟩
           clear ab ad ac ar O M K J r Z I F bk av ah bu H hf
           obtain ⟨wo,rfl⟩:∃z:World,z=wr:=⟨_,rfl⟩
           obtain ⟨vo,rfl⟩:∃z:Value,z=u3:=⟨_,rfl⟩
           go_loopw [3,11] (fun v3 iv wr=>∃k:Nat,k<=(A2 L i).n∧iv=iV k∧Hid (K2 (w.heap.size+1) N w0 ((GM x++(x.rots.take i).flatMap GL)++([m,j,g]++(D.take k).flatMap (fun k:Cb=> [k.len]))) wr v3)∧Hid (wr.heap[wo.heap.size]?=some (.cells R.toArray 109 (0,0)))) (fun _ iv _=>(A2 L i).n - (intOf iv).toNat)
           case atStart=>exact ⟨0,yK _,rfl,cz,ax⟩
           case round=>
            clear cz ax
            obtain ⟨k,hk,rfl,bj,cg⟩:=hrel
            have dv:wr.cell? (aV wo.heap.size 22)=some (.slice (A2 L i).a (A2 L i).n (A2 L i).c):=by
             simp only[World.cell?,cg.o]
             have h:=dg.o
             unfold Au.v at h
             simpa using h
            by_cases dn:k < (A2 L i).n
            ·have cq:k < D.length:=by rw[<-c8.o.1];exact dn
             have dq:(k:Int) < ((A2 L i).n:Int):=by omega
             obtain ⟨b2,o2,c2,cx,d7,dd,cc,cr,ct,rfl,bm⟩:=c8.o.2.2 k cq
             rw[cx] at dv
             have cn:w0.rangeAt b2 (o2+k*8+2) ct:=by
              have:=CY (p:=AU D[k].farm) (c:=ct) (q:=[]) (by simpa using cc)
              exact this
             have cd:Hid (((GM x++(x.rots.take i).flatMap GL)++([m,j,g]++(D.take (k+1)).flatMap (fun k:Cb=> [k.len])))=((GM x++(x.rots.take i).flatMap GL)++([m,j,g]++(D.take k).flatMap (fun k:Cb=> [k.len])))++[D[k].len]):=yb (by rw[DW cq];simp only[yL])
             generalize D[k].len=s at bm cd
             have b9:=yb bm
             obtain ⟨a3,p3,rfl,_⟩:=bm.cells
             have b8:=yb (A0 cn ((bb.o wr bj.o.below) b2 d7))
             obtain ⟨bq,bt,bg⟩:=bj.o.own
             have ce:=yb bt;have ch:=yb bg
             have K:Hid (bq.length+1<=1000000000):=yb (by
              have h1:=EO (l:=D) (f:=(fun k:Cb=> [k.len])) (c:=1) (i:=k) (fun _ _=>by simp)
              have h2:=dr.o;have h3:=cw.o
              rw[bg.length]
              simp only[ym,yx,yH] at h3 ⊢
              omega)
             clear cc cn bt bg d7 dd cr cx
             have F:Hid (Below wr.heap.size wr (wr.alloc (.cells #[iV s.op,iV s.n,iV s.u,.string s.rn,iV s.ri,.slice a3 s.args.length p3] 26))):=yb ((yg _ _).alloc (yf _) _)
             have I:=yb (ce.o.up F.o)
             have Z:=yb (bj.o.below.trans (F.o.mono bj.o.size))
             have J:Hid ((wr.alloc (.cells #[iV s.op,iV s.n,iV s.u,.string s.rn,iV s.ri,.slice a3 s.args.length p3] 26)).heap[wr.heap.size]?=some (.cells #[iV s.op,iV s.n,iV s.u,.string s.rn,iV s.ri,.slice a3 s.args.length p3] 26 (0,0))):=yb (by
              have h:=World.alloc_heap_new wr (.cells #[iV s.op,iV s.n,iV s.u,.string s.rn,iV s.ri,.slice a3 s.args.length p3] 26)
              exact h)
             have r:Hid ((w.heap.size+1)<=(wr.alloc (.cells #[iV s.op,iV s.n,iV s.u,.string s.rn,iV s.ri,.slice a3 s.args.length p3] 26)).heap.size):=yb (yu bj.o.size F.o.size)
             go_wp2_with (first|(refine yj rfl 26 _ rfl b2 (o2+k*8+2) rfl [iV s.op,iV s.n,iV s.u,.string s.rn,iV s.ri,.slice a3 s.args.length p3] _ b8.o qM rfl (by kernel_rfl) ?_)|(at_builtin;refine B7 (w.heap.size+1) rfl _ _ rfl u3 bq rfl I.o (wr.heap.size) 1 1 [[iV s.op,iV s.n,iV s.u,.string s.rn,iV s.ri,.slice a3 s.args.length p3]] #[iV s.op,iV s.n,iV s.u,.string s.rn,iV s.ri,.slice a3 s.args.length p3] rfl rfl J.o rfl (by simp[Value.oneCell']) rfl K.o r.o ?_;intro dx n6 c6 w6 y C;have da:=yb y;have di:=yb (Ea Z.o r.o I.o C);have dj:Hid ((w.heap.size+1)<=w6.heap.size):=yb (yu r.o C.size);have dl:=yb C;clear y C))
             have ax:Hid (w6.heap[wo.heap.size]?=some (.cells R.toArray 109 (0,0))):=yb (by
              have e1:=(F.o.block _ (yd.1 cg.o).1).trans cg.o
              exact (dl.o.block _ (yd.1 e1).1 (fun e=>TU I.o e1 (by decide) e.symm)).trans e1)
             exact ⟨⟨k+1,by omega,by push_cast;rfl,yb ⟨di.o,dj.o,_,da.o,by rw[cd.o];exact ch.o.append ⟨b9.o,trivial⟩⟩,ax⟩,by simp[intOf];omega⟩
            ·obtain rfl:k=(A2 L i).n:=by omega
             have dq:decide (((A2 L i).n:Int) < ((A2 L i).n:Int))=false:=by simp
             have cv:Hid (K2 (w.heap.size+1) N w0 (GM x++(x.rots.take (i+1)).flatMap GL) wr u3):=yb (by
              rw[t.o]
              have h:=bj.o
              rw[c8.o.1,yT] at h
              exact h)
             go_wp2
             exact ⟨⟨i+1,by omega,by push_cast;rfl,cv⟩,by simp[intOf];omega⟩
          ·obtain rfl:i=L.rots.n:=by omega
           have aa:decide ((L.rots.n:Int) < (L.rots.n:Int))=false:=by simp
           have P:Hid (K2 (w.heap.size+1) N w0 (GM x++x.rots.flatMap GL) wr u3):=yb (by
            have h:=H.o
            rw[af.o.rots,yT] at h
            exact h)
           go_wp2
           obtain ⟨dc,rfl⟩:∃z:World,z=wr:=⟨_,rfl⟩
           obtain ⟨dh,rfl⟩:∃z:Value,z=u3:=⟨_,rfl⟩
           have Y:Hid (K2 (w.heap.size+1) N w0 (Js x++(x.rights.take 0).flatMap Ez) dc dh):=yb (by
            rw[xd,zt,yV];exact P.o)
           clear hf aa H P
           go_loopw [3,12] (fun v3 iv wr=>∃i:Nat,i<=L.rights.n∧iv=iV i∧Hid (K2 (w.heap.size+1) N w0 (Js x++(x.rights.take i).flatMap Ez) wr v3)) (fun _ iv _=>L.rights.n - (intOf iv).toNat)
           case atStart=>exact ⟨0,yK _,rfl,Y⟩
           case round=>
            clear Y
            obtain ⟨i,hi,rfl,H⟩:=hrel
            have hf:wr.cell? (aV w.heap.size 24)=some (.slice L.rights.a L.rights.n L.rights.c):=bd.o wr H.o.below 24 _ b0.o.rights
            have au:L.rights.n<=140737488355328:=bi.o.rights.1
            by_cases ag:i < L.rights.n
            ·have U:i < x.rights.length:=by rw[<-af.o.rights];exact ag
             have aa:(i:Int) < (L.rights.n:Int):=by omega
             obtain ⟨b,o,R,he,X,ak,V,hv⟩:=bo.o.rights.2.2 i U
             rw[he] at hf
             have t:Hid (Js x++(x.rights.take (i+1)).flatMap Ez=(Js x++(x.rights.take i).flatMap Ez)++[x.rights[i].flow,x.rights[i].frm,x.rights[i].to,x.rights[i].every,x.rights[i].len]):=yb (by rw[DW U,yL];rfl)
             have ae:(Js x++(x.rights.take i).flatMap Ez).length<=20000:=by
              have h1:=EO (l:=x.rights) (f:=Ez) (c:=5) (i:=i) (fun _ _=>by simp[Ez])
              have h2:=b7.o.t6;have h3:=ay.o.rights
              rw[ym]
              omega
             have b4:=yb (A0 V ((bb.o wr H.o.below) b X))
             have am:=yb (yB (Ja _ _ hv))
             have ba:Hid ((Tryz.prog.info? 131).map (·.size)=some R.length):=yb (by rw[ak];kernel_rfl)
             have b5:Hid ((Tryz.prog.info? 131).map (·.size)=some R.toArray.size):=yb (by rw[yq];exact ba.o)
             have bp:=yb ak
             have az:(wr.alloc (.cells R.toArray 131)).rangeAt wr.heap.size 0 R:=by
              have:=zo (World.alloc_heap_new wr (.cells R.toArray 131)) 0 R.length
              simpa using this
             obtain ⟨⟨C0,r0,k0⟩,⟨C1,r1,k1⟩,⟨C2,r2,k2⟩,⟨C3,r3,k3⟩,⟨C4,r4,k4⟩⟩:=P3 az hv
             generalize x.rights[i].flow=m at k0 t
             generalize x.rights[i].frm=j at k1 t
             generalize x.rights[i].to=g at k2 t
             generalize x.rights[i].every=s at k3 t
             generalize x.rights[i].len=B at k4 t
             have an:=yb k0
             have ai:=yb k1
             have ap:=yb k2
             have b9:=yb k3
             have bw:=yb k4
             obtain ⟨a0,p0,rfl,_⟩:=k0.cells
             obtain ⟨a1,p1,rfl,_⟩:=k1.cells
             obtain ⟨a2,p2,rfl,_⟩:=k2.cells
             obtain ⟨a3,p3,rfl,_⟩:=k3.cells
             obtain ⟨a4,p4,rfl,_⟩:=k4.cells
             have ao:=yb r0
             have aj:=yb r1
             have aq:=yb r2
             have b8:=yb r3
             have bv:=yb r4
             obtain ⟨rows,G,A⟩:=H.o.own
             have O:=yb A
             have K:Hid (rows.length+5<=1000000000):=yb (by rw[A.length];omega)
             have ah:Hid (Below wr.heap.size wr (wr.alloc (.cells R.toArray 131))):=yb ((yg _ _).alloc (yf _) _)
             have M:=yb (G.up ah.o)
             have bk:=yb (H.o.below.trans (ah.o.mono H.o.size))
             have av:Hid ((w.heap.size+1)<=(wr.alloc (.cells R.toArray 131)).heap.size):=yb (yu H.o.size ah.o.size)
             clear V he G A ae X ak hv az r0 r1 r2 r3 r4
             have F:Hid (Below (wr.alloc (.cells R.toArray 131)).heap.size (wr.alloc (.cells R.toArray 131)) ((wr.alloc (.cells R.toArray 131)).alloc (.cells #[iV m.op,iV m.n,iV m.u,.string m.rn,iV m.ri,.slice a0 m.args.length p0,iV j.op,iV j.n,iV j.u,.string j.rn,iV j.ri,.slice a1 j.args.length p1,iV g.op,iV g.n,iV g.u,.string g.rn,iV g.ri,.slice a2 g.args.length p2,iV s.op,iV s.n,iV s.u,.string s.rn,iV s.ri,.slice a3 s.args.length p3,iV B.op,iV B.n,iV B.u,.string B.rn,iV B.ri,.slice a4 B.args.length p4] 26))):=yb ((yg _ _).alloc (yf _) _)
             have I:=yb (M.o.up F.o)
             have Z:=yb (bk.o.trans (F.o.mono av.o))
             have J:Hid (((wr.alloc (.cells R.toArray 131)).alloc (.cells #[iV m.op,iV m.n,iV m.u,.string m.rn,iV m.ri,.slice a0 m.args.length p0,iV j.op,iV j.n,iV j.u,.string j.rn,iV j.ri,.slice a1 j.args.length p1,iV g.op,iV g.n,iV g.u,.string g.rn,iV g.ri,.slice a2 g.args.length p2,iV s.op,iV s.n,iV s.u,.string s.rn,iV s.ri,.slice a3 s.args.length p3,iV B.op,iV B.n,iV B.u,.string B.rn,iV B.ri,.slice a4 B.args.length p4] 26)).heap[wr.heap.size+1]?=some (.cells #[iV m.op,iV m.n,iV m.u,.string m.rn,iV m.ri,.slice a0 m.args.length p0,iV j.op,iV j.n,iV j.u,.string j.rn,iV j.ri,.slice a1 j.args.length p1,iV g.op,iV g.n,iV g.u,.string g.rn,iV g.ri,.slice a2 g.args.length p2,iV s.op,iV s.n,iV s.u,.string s.rn,iV s.ri,.slice a3 s.args.length p3,iV B.op,iV B.n,iV B.u,.string B.rn,iV B.ri,.slice a4 B.args.length p4] 26 (0,0))):=yb (by
              have h:=World.alloc_heap_new (wr.alloc (.cells R.toArray 131)) (.cells #[iV m.op,iV m.n,iV m.u,.string m.rn,iV m.ri,.slice a0 m.args.length p0,iV j.op,iV j.n,iV j.u,.string j.rn,iV j.ri,.slice a1 j.args.length p1,iV g.op,iV g.n,iV g.u,.string g.rn,iV g.ri,.slice a2 g.args.length p2,iV s.op,iV s.n,iV s.u,.string s.rn,iV s.ri,.slice a3 s.args.length p3,iV B.op,iV B.n,iV B.u,.string B.rn,iV B.ri,.slice a4 B.args.length p4] 26)
              rw[z8] at h;exact h)
             have r:Hid ((w.heap.size+1)<=((wr.alloc (.cells R.toArray 131)).alloc (.cells #[iV m.op,iV m.n,iV m.u,.string m.rn,iV m.ri,.slice a0 m.args.length p0,iV j.op,iV j.n,iV j.u,.string j.rn,iV j.ri,.slice a1 j.args.length p1,iV g.op,iV g.n,iV g.u,.string g.rn,iV g.ri,.slice a2 g.args.length p2,iV s.op,iV s.n,iV s.u,.string s.rn,iV s.ri,.slice a3 s.args.length p3,iV B.op,iV B.n,iV B.u,.string B.rn,iV B.ri,.slice a4 B.args.length p4] 26)).heap.size):=yb (yu av.o F.o.size)
             go_wp2_with (first|(refine yj rfl 131 _ rfl b (o+i*37) rfl R _ b4.o qF rfl ba.o ?_)|(refine zb rfl 131 _ _ rfl wr.heap.size R.toArray rfl rfl 131 _ (World.alloc_heap_new _ _) b5.o (by simp[bp.o]) am.o ?_;rw[World.setRow_alloc_new])|(refine yj rfl 26 _ rfl wr.heap.size (7) rfl [iV m.op,iV m.n,iV m.u,.string m.rn,iV m.ri,.slice a0 m.args.length p0] _ ao.o qM rfl (by kernel_rfl) ?_)|(refine yj rfl 26 _ rfl wr.heap.size (13) rfl [iV j.op,iV j.n,iV j.u,.string j.rn,iV j.ri,.slice a1 j.args.length p1] _ aj.o qM rfl (by kernel_rfl) ?_)|(refine yj rfl 26 _ rfl wr.heap.size (19) rfl [iV g.op,iV g.n,iV g.u,.string g.rn,iV g.ri,.slice a2 g.args.length p2] _ aq.o qM rfl (by kernel_rfl) ?_)|(refine yj rfl 26 _ rfl wr.heap.size (25) rfl [iV s.op,iV s.n,iV s.u,.string s.rn,iV s.ri,.slice a3 s.args.length p3] _ b8.o qM rfl (by kernel_rfl) ?_)|(refine yj rfl 26 _ rfl wr.heap.size (31) rfl [iV B.op,iV B.n,iV B.u,.string B.rn,iV B.ri,.slice a4 B.args.length p4] _ bv.o qM rfl (by kernel_rfl) ?_)|(at_builtin;refine B7 (w.heap.size+1) rfl _ _ rfl u3 rows rfl I.o (wr.heap.size+1) 5 5 [[iV m.op,iV m.n,iV m.u,.string m.rn,iV m.ri,.slice a0 m.args.length p0],[iV j.op,iV j.n,iV j.u,.string j.rn,iV j.ri,.slice a1 j.args.length p1],[iV g.op,iV g.n,iV g.u,.string g.rn,iV g.ri,.slice a2 g.args.length p2],[iV s.op,iV s.n,iV s.u,.string s.rn,iV s.ri,.slice a3 s.args.length p3],[iV B.op,iV B.n,iV B.u,.string B.rn,iV B.ri,.slice a4 B.args.length p4]] #[iV m.op,iV m.n,iV m.u,.string m.rn,iV m.ri,.slice a0 m.args.length p0,iV j.op,iV j.n,iV j.u,.string j.rn,iV j.ri,.slice a1 j.args.length p1,iV g.op,iV g.n,iV g.u,.string g.rn,iV g.ri,.slice a2 g.args.length p2,iV s.op,iV s.n,iV s.u,.string s.rn,iV s.ri,.slice a3 s.args.length p3,iV B.op,iV B.n,iV B.u,.string B.rn,iV B.ri,.slice a4 B.args.length p4] rfl rfl J.o rfl (by simp[Value.oneCell']) rfl K.o r.o ?_;intro aw n5 c5 w5 y C;have ab:=yb y;have ad:=yb (Ea Z.o r.o I.o C);have ac:Hid ((w.heap.size+1)<=w5.heap.size):=yb (yu r.o C.size);have ar:=yb C;clear y C))
             exact ⟨⟨i+1,by omega,by push_cast;rfl,yb ⟨ad.o,ac.o,_,ab.o,by rw[t.o];exact O.o.append ⟨an.o,ai.o,ap.o,b9.o,bw.o,trivial⟩⟩⟩,by simp[intOf];omega⟩
            ·obtain rfl:i=L.rights.n:=by omega
             have aa:decide ((L.rights.n:Int) < (L.rights.n:Int))=false:=by simp
             have P:Hid (K2 (w.heap.size+1) N w0 (Js x++x.rights.flatMap Ez) wr u3):=yb (by
              have h:=H.o
              rw[af.o.rights,yT] at h
              exact h)
             go_wp2
             obtain ⟨df,rfl⟩:∃z:World,z=wr:=⟨_,rfl⟩
             obtain ⟨dt,rfl⟩:∃z:Value,z=u3:=⟨_,rfl⟩
             have Y:Hid (K2 (w.heap.size+1) N w0 (Jt x++(x.duties.take 0).flatMap (fun d=> [d.due])) df dt):=yb (by
              rw[xd,zt,yV];exact P.o)
             clear hf aa H P
             go_loopw [3,14] (fun v3 iv wr=>∃i:Nat,i<=L.duties.n∧iv=iV i∧Hid (K2 (w.heap.size+1) N w0 (Jt x++(x.duties.take i).flatMap (fun d=> [d.due])) wr v3)) (fun _ iv _=>L.duties.n - (intOf iv).toNat)
             case atStart=>exact ⟨0,yK _,rfl,Y⟩
             case round=>
              clear Y
              obtain ⟨i,hi,rfl,H⟩:=hrel
              have hf:wr.cell? (aV w.heap.size 25)=some (.slice L.duties.a L.duties.n L.duties.c):=bd.o wr H.o.below 25 _ b0.o.duties
              have au:L.duties.n<=140737488355328:=bi.o.duties.1
              by_cases ag:i < L.duties.n
              ·have U:i < x.duties.length:=by rw[<-af.o.duties];exact ag
               have aa:(i:Int) < (L.duties.n:Int):=by omega
               obtain ⟨b,o,he,X,c,V,a8⟩:=bz.o.duties i U
               rw[he] at hf
               have t:Hid (Jt x++(x.duties.take (i+1)).flatMap (fun d=> [d.due])=(Jt x++(x.duties.take i).flatMap (fun d=> [d.due]))++[x.duties[i].due]):=yb (by rw[DW U,yL])
               have ae:(Jt x++(x.duties.take i).flatMap (fun d=> [d.due])).length<=20000:=by
                have h1:=EO (l:=x.duties) (f:=(fun d=> [d.due])) (c:=1) (i:=i) (fun _ _=>by simp)
                have h2:=b7.o.t7;have h3:=ay.o.duties
                rw[ym]
                skip
                omega
               generalize x.duties[i].due=E at a8 t
               have bh:=yb a8
               obtain ⟨a',p',rfl,_⟩:=a8.cells
               have be:=yb (A0 V ((bb.o wr H.o.below) b X))
               obtain ⟨rows,G,A⟩:=H.o.own
               have M:=yb G;have O:=yb A
               have K:Hid (rows.length+1<=1000000000):=yb (by rw[A.length];omega)
               clear V a8 he G A ae X
               have F:Hid (Below wr.heap.size wr (wr.alloc (.cells #[iV E.op,iV E.n,iV E.u,.string E.rn,iV E.ri,.slice a' E.args.length p'] 26))):=yb ((yg _ _).alloc (yf _) _)
               have I:=yb (M.o.up F.o)
               have Z:=yb (H.o.below.trans (F.o.mono H.o.size))
               have J:Hid ((wr.alloc (.cells #[iV E.op,iV E.n,iV E.u,.string E.rn,iV E.ri,.slice a' E.args.length p'] 26)).heap[wr.heap.size]?=some (.cells #[iV E.op,iV E.n,iV E.u,.string E.rn,iV E.ri,.slice a' E.args.length p'] 26 (0,0))):=yb (by
                have h:=World.alloc_heap_new wr (.cells #[iV E.op,iV E.n,iV E.u,.string E.rn,iV E.ri,.slice a' E.args.length p'] 26)
                exact h)
               have r:Hid ((w.heap.size+1)<=(wr.alloc (.cells #[iV E.op,iV E.n,iV E.u,.string E.rn,iV E.ri,.slice a' E.args.length p'] 26)).heap.size):=yb (yu H.o.size F.o.size)
               go_wp2_with (first|(refine yj rfl 26 _ rfl b (o+i*11+5) rfl [iV E.op,iV E.n,iV E.u,.string E.rn,iV E.ri,.slice a' E.args.length p'] _ be.o qM rfl (by kernel_rfl) ?_)|(at_builtin;refine B7 (w.heap.size+1) rfl _ _ rfl u3 rows rfl I.o (wr.heap.size) 1 1 [[iV E.op,iV E.n,iV E.u,.string E.rn,iV E.ri,.slice a' E.args.length p']] #[iV E.op,iV E.n,iV E.u,.string E.rn,iV E.ri,.slice a' E.args.length p'] rfl rfl J.o rfl (by simp[Value.oneCell']) rfl K.o r.o ?_;intro aw n5 c5 w5 y C;have ab:=yb y;have ad:=yb (Ea Z.o r.o I.o C);have ac:Hid ((w.heap.size+1)<=w5.heap.size):=yb (yu r.o C.size);have ar:=yb C;clear y C))
               exact ⟨⟨i+1,by omega,by push_cast;rfl,yb ⟨ad.o,ac.o,_,ab.o,by rw[t.o];exact O.o.append ⟨bh.o,trivial⟩⟩⟩,by simp[intOf];omega⟩
              ·obtain rfl:i=L.duties.n:=by omega
               have aa:decide ((L.duties.n:Int) < (L.duties.n:Int))=false:=by simp
               have P:Hid (K2 (w.heap.size+1) N w0 (Jt x++x.duties.flatMap (fun d=> [d.due])) wr u3):=yb (by
                have h:=H.o
                rw[af.o.duties,yT] at h
                exact h)
               go_wp2
               go_ret
               refine ⟨_,rfl,⟨cu.o.trans (P.o.below.mono (by have:=db.o;omega)),by have:=P.o.size;omega,?_⟩⟩
               obtain ⟨rows,G,A⟩:=P.o.own
               exact ⟨rows,Sj G (by omega),AB.mono (fun cs e hE=>hE.same (fun _ h=>h) (fun b hb=>(cu.o.block b (dw.o b hb)).symm)) A⟩
end Go.Proofs.YtjofgpfocadomaaGreatDoor
