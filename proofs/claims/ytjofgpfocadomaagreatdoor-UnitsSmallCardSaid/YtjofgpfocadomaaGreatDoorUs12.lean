/- The reference's Top: the expressions that are no argument (printed by gen_vb.py). -/
import Derived.Test.YtjofgpfocadomaaGreatDoorUs0
import Derived.Test.YtjofgpfocadomaaGreatDoorUs5
import Derived.Test.YtjofgpfocadomaaGreatDoorUs8
import Derived.Test.YtjofgpfocadomaaGreatDoorUs10
set_option maxRecDepth 100000
set_option maxHeartbeats 32000000
set_option linter.unusedSimpArgs false
namespace Go.Proofs.YtjofgpfocadomaaGreatDoor
open Go.RowKit
def G7(B:Nat)(w:World)(v:Value)(rows:List LV):Prop:=w.ownsRow B 26 6 v rows.length rows.flatten
theorem S1(B:Nat)(w:World):G7 B w (.slice none 0 0) []:=⟨rfl,.inl ⟨rfl,rfl⟩⟩
theorem G7.up{B:Nat}{w w':World}{v:Value}{l:List LV}(h:G7 B w v l)(hb:Below w.heap.size w w'):G7 B w' v l:=by
 obtain ⟨h1,h2⟩:=h
 refine ⟨h1,h2.imp id ?_⟩
 rintro ⟨g,cap,a,h3,d,b,c⟩
 exact ⟨g,cap,a,h3,d,(hb.block g (yd.1 b).1).trans b,c⟩
theorem E0{B:Nat}{c w w':World}{v:Value}{l:List LV}(h:Below B c w)(i:B<=w.heap.size)(d:G7 B w v l)(a:w.grownBy w' v.ownBlock):Below B c w':=by
 refine h.trans ⟨a.os,a.tape,a.output,a.size,fun b hb=>a.block b (by omega) (fun e=>?_)⟩
 rcases d.2 with ⟨rfl,_⟩|⟨g,cap,f,rfl,j,_⟩
 ·cases e
 ·simp only[Value.ownBlock,z8] at e
  omega
theorem B8{ops:Array Oper}{rest:List Oper}{o:Oper}{a:Act}{Q:QT}{W:World}(B:Nat)(z:o.guard=none)(s x:Operand)(I:o.op=.call {callee:=.builtin .append,args:=#[s,x],argTypes:=#[24,24]})
 (v:Value)(rows:List LV)(hs:a.eval s=v)(b:G7 B W v rows)(g m c:Nat)(f:List LV)(row:Array Value)(F:a.eval x=.slice (some ⟨g,0,none⟩) m c)(O:m=f.length)(M:W.heap[g]?=some (.cells row 26 (0,0)))(d:row.toList=f.flatten)(r:∀u∈row.toList,u.oneCell'=true)(w:row.toList.length=f.length*6)
 (J:rows.length+f.length<=1000000000)(p:B<=W.heap.size)
 (h:∀(H:Option Addr) (n c:Nat) w',G7 B w' (.slice H n c) (rows++f)->W.grownBy w' v.ownBlock->wpList Tryz.prog ops Q rest (a.put o.dst (.slice H n c)) w'):wpList Tryz.prog ops Q (o::rest) a W:=by
 subst O
 refine zw z fun K L=>?_
 have k:(Tryz.prog.info? 26).map (fun i=>(i.zero,i.size,i.bytes))=some (some (.agg #[iV 0,iV 0,iV 0,.string ⟨#[]⟩,iV 0,.slice none 0 0]),6,72):=by kernel_rfl
 obtain ⟨R,hi,C,t,G⟩:=info_parts k
 by_cases h0:f=[]
 ·subst h0
  have q:=EF qF hi W B o.type v rows.length _ (by have:=b;unfold G7 at this;rw[<-t] at this;exact this) (some (aV g 0)) c
  obtain ⟨va,D,y,rfl⟩:∃a n c,v=.slice a n c:=by
   rcases b.2 with ⟨rfl,P⟩|⟨g,cap,A,rfl,_⟩
   ·exact ⟨_,_,_,rfl⟩
   ·exact ⟨_,_,_,rfl⟩
  unfold Oper.wp
  simp only[yE] at F
  simp[execOp,I,resolve,invoke,builtin,hs,F,q,Result.andThen]
  exact L _ _ (h va D y W (by simpa using b) ⟨rfl,rfl,rfl,yf _,fun _ _ _=>rfl⟩)
 ·have l:∀j u,f.flatten[j]?=some u->W.cell? (((aV g 0):Addr).add j)=some u:=fun j u N=>by
   rw[zA,<-d] at*
   simp only[World.cell?,M]
   simpa using N
  refine wp_append_own W s x 24 I B 26 R _ 6 72 qF hi C t G rfl (by decide) v rows.length _ hs b (aV g 0) f.length c f.flatten F (by rw[<-d];exact w) l (by rw[<-d];exact r) (by unfold maxLen;omega) (by omega) p ?_
  intro v' w' e E _
  obtain ⟨va,D,y,rfl⟩:∃a n c,v'=.slice a n c:=by
   rcases e.2 with ⟨rfl,P⟩|⟨g,cap,A,rfl,_⟩
   ·exact ⟨_,_,_,rfl⟩
   ·exact ⟨_,_,_,rfl⟩
  exact L _ _ (h va D y w' (by unfold G7;rw[yn,List.flatten_append];exact e) E)
def El(d:AD):List Ex:=[d.delay,d.cap,d.bank,d.siphon,d.evap0,d.evap1,d.seep0,d.seep1]
def GC(d:BA):List Ex:=[d.flow,d.frm,d.to]++d.turns.flatMap fun k=> [k.len]
def Em(d:B6):List Ex:=[d.flow,d.frm,d.to,d.every,d.len]
def PX(x:Ax):List Ex:=x.lets.flatMap fun d=> [d.value]
def IG(x:Ax):List Ex:=PX x++[x.season,x.cap,x.start]
def Jc(x:Ax):List Ex:=IG x++x.crops.flatMap fun d=> [d.need]
def Jd(x:Ax):List Ex:=Jc x++x.reaches.flatMap El
def GD(x:Ax):List Ex:=Jd x++x.farms.flatMap fun d=> [d.area]
def Je(x:Ax):List Ex:=GD x++x.rots.flatMap GC
def Jf(x:Ax):List Ex:=Je x++x.rights.flatMap Em
def ES(x:Ax):List Ex:=Jf x++x.duties.flatMap fun d=> [d.due]
theorem DM{α β:Type}{l:List α}{f:α->List β}{i:Nat}(h:i < l.length):(l.take (i+1)).flatMap f=(l.take i).flatMap f++f l[i]:=by
 rw[yG h,zH];simp
theorem ED{α β:Type}{l:List α}{f:α->List β}{c i:Nat}(h:∀a∈l,(f a).length<=c):((l.take i).flatMap f).length<=l.length*c:=by
 have h1:=Bg (l:=l.take i) (f:=f) (c:=c) (fun a b=>h a (List.mem_of_mem_take b))
 have h2:(l.take i).length<=l.length:=by simp;omega
 exact yt h1 (xI _ h2)
structure Fw (x:Ax):Prop where
 lets:x.lets.length<=100
 crops:x.crops.length<=100
 reaches:x.reaches.length<=100
 farms:x.farms.length<=100
 rots:x.rots.length<=70
 rights:x.rights.length<=300
 duties:x.duties.length<=300
 turns:∀d∈x.rots,d.turns.length<=70
structure VX (x:Ax):Prop where
 t1:(PX x).length<=100
 t2:(IG x).length<=103
 t3:(Jc x).length<=203
 t4:(Jd x).length<=1003
 t5:(GD x).length<=1103
 t6:(Je x).length<=6213
 t7:(Jf x).length<=7713
 tE:(ES x).length<=8013
theorem Fw.top{x:Ax}(h:Fw x):VX x:=by
 have o:(PX x).length<=x.lets.length*1:=Bg fun _ _=>by simp
 have m:(x.crops.flatMap fun d=> [d.need]).length<=x.crops.length*1:=Bg fun _ _=>by simp
 have j:(x.reaches.flatMap El).length<=x.reaches.length*8:=Bg fun _ _=>by simp[El]
 have p:(x.farms.flatMap fun d=> [d.area]).length<=x.farms.length*1:=Bg fun _ _=>by simp
 have i:(x.rots.flatMap GC).length<=x.rots.length*73:=Bg fun d hd=>by
  have h1:(d.turns.flatMap fun k:Cm=> [k.len]).length<=d.turns.length*1:=Bg fun _ _=>by simp
  have:=h.turns d hd
  simp only[GC,yn,yv,yE];omega
 have n:(x.rights.flatMap Em).length<=x.rights.length*5:=Bg fun _ _=>by simp[Em]
 have l:(x.duties.flatMap fun d=> [d.due]).length<=x.duties.length*1:=Bg fun _ _=>by simp
 have:=h.lets;have:=h.crops;have:=h.reaches;have:=h.farms;have:=h.rots;have:=h.rights;have:=h.duties
 have f:(IG x).length=(PX x).length+3:=by unfold IG;simp
 have b:(Jc x).length=(IG x).length+(x.crops.flatMap fun d=> [d.need]).length:=by unfold Jc;rw[yn]
 have g:(Jd x).length=(Jc x).length+(x.reaches.flatMap El).length:=by unfold Jd;rw[yn]
 have c:(GD x).length=(Jd x).length+(x.farms.flatMap fun d=> [d.area]).length:=by unfold GD;rw[yn]
 have a:(Je x).length=(GD x).length+(x.rots.flatMap GC).length:=by unfold Je;rw[yn]
 have q:(Jf x).length=(Je x).length+(x.rights.flatMap Em).length:=by unfold Jf;rw[yn]
 have e:(ES x).length=(Jf x).length+(x.duties.flatMap fun d=> [d.due]).length:=by unfold ES;rw[yn]
 constructor<;>omega
structure JM (B:Nat) (N:Nat->Prop) (w0:World) (es:List Ex) (wr:World) (v:Value):Prop where
 below:Below B w0 wr
 size:B<=wr.heap.size
 own:∃rows,G7 B wr v rows∧Az (fun cs e=>AH N w0 e cs) rows es
theorem Az.len{α β:Type}{R:α->β->Prop}{l:List α}{m:List β}(h:Az R l m):l.length=m.length:=h.length
def TD(N:NP)(w:World)(b o:Nat)(e:Ex):Prop:=N b∧∃c,w.rangeAt b o c∧AH N w e c
theorem K5{N:NP}{w:World}{b o:Nat}{p c q:LV}{e:Ex}{a:Nat}(hN:N b)(hr:w.rangeAt b o (p++(c++q)))(d:p.length=a)(f:AH N w e c):TD N w b (o+a) e:=by
 have:=CT hr
 rw[d] at this
 exact ⟨hN,c,this,f⟩
structure VY (N:Nat->Prop) (w:World) (L:Bq) (x:Ax):Prop where
 lets:∀i (hi:i < x.lets.length),∃b o,L.lets.a=some ⟨b,o,none⟩∧TD N w b (o+i*7+1) x.lets[i].value
 crops:∀i (hi:i < x.crops.length),∃b o,L.crops.a=some ⟨b,o,none⟩∧TD N w b (o+i*7+1) x.crops[i].need
 farms:∀i (hi:i < x.farms.length),∃b o,L.farms.a=some ⟨b,o,none⟩∧TD N w b (o+i*12+4) x.farms[i].area
 duties:∀i (hi:i < x.duties.length),∃b o,L.duties.a=some ⟨b,o,none⟩∧TD N w b (o+i*11+5) x.duties[i].due
theorem BP.tops{N:NP}{w:World}{L:Bq}{cs:LV}{x:Ax}(h:BP N w L cs x):VY N w L x:=by
 refine ⟨fun i hi=>?_,fun i hi=>?_,fun i hi=>?_,fun i hi=>?_⟩
 ·obtain ⟨b,o,c,g1,a,f,e,_,c1,rfl,d⟩:=h.lets.2.2 i hi
  exact ⟨b,o,g1,K5 (p:=[.string (x.lets[i]).name]) (q:=[]) a (by simpa using e) rfl d⟩
 ·obtain ⟨b,o,c,g1,a,f,e,_,c1,rfl,d⟩:=h.crops.2.2 i hi
  exact ⟨b,o,g1,K5 (p:=[.string (x.crops[i]).name]) (q:=[]) a (by simpa using e) rfl d⟩
 ·obtain ⟨b,o,c,g1,a,f,e,_,_,_,c1,rfl,d⟩:=h.farms.2.2 i hi
  exact ⟨b,o,g1,K5 (p:=.string (x.farms[i]).name::(AU (x.farms[i]).on++[.bool (x.farms[i]).river])) (q:=AU (x.farms[i]).crop) a (by simpa using e) rfl d⟩
 ·obtain ⟨b,o,c,g1,a,f,e,_,_,_,c1,rfl,d⟩:=h.duties.2.2 i hi
  exact ⟨b,o,g1,K5 (p:=.string (x.duties[i]).name::(AU (x.duties[i]).farm++AU (x.duties[i]).reach)) (q:=[]) a (by simpa using e) rfl d⟩
def E6(N:NP)(w W:World)(b o:Nat)(e:Ex):Prop:=∃c,W.rangeAt b o c∧AH N w e c
theorem C9{N:NP}{w W:World}{b o:Nat}{p c q:LV}{e:Ex}(a:Nat)(hr:W.rangeAt b o (p++(c++q)))(d:p.length=a)(f:AH N w e c):E6 N w W b (o+a) e:=by
 have:=CT hr
 rw[d] at this
 exact ⟨c,this,f⟩
theorem OE{N:NP}{w W:World}{b:Nat}{R:LV}{d:AD}(hr:W.rangeAt b 0 R)(x:EW N w R d):E6 N w W b 3 d.delay∧E6 N w W b 9 d.cap∧E6 N w W b 15 d.bank∧E6 N w W b 21 d.siphon∧E6 N w W b 27 d.evap0∧E6 N w W b 33 d.evap1∧E6 N w W b 39 d.seep0∧E6 N w W b 45 d.seep1:=by
 obtain ⟨_,_,c0,c1,c2,c3,c4,c5,c6,c7,rfl,t,o,j,l,m,n,r,v⟩:=x
 have a:=t.len;have c:=o.len;have f:=j.len;have g:=l.len;have i:=m.len;have s:=n.len;have u:=r.len
 have z:∀ {k:Nat} {e:Ex},E6 N w W b (0+k) e->E6 N w W b k e:=fun h=>by rwa [yw] at h
 refine ⟨z ?_,z ?_,z ?_,z ?_,z ?_,z ?_,z ?_,z ?_⟩
 ·exact C9 (p:=.string d.name::AU d.frm) _ (by simpa using hr) rfl t
 ·exact C9 (p:=.string d.name::(AU d.frm++c0)) _ (by simpa using hr) (by simp[At,a]) o
 ·exact C9 (p:=.string d.name::(AU d.frm++(c0++c1))) _ (by simpa using hr) (by simp[At,a,c]) j
 ·exact C9 (p:=.string d.name::(AU d.frm++(c0++(c1++c2)))) _ (by simpa using hr) (by simp[At,a,c,f]) l
 ·exact C9 (p:=.string d.name::(AU d.frm++(c0++(c1++(c2++c3))))) _ (by simpa using hr) (by simp[At,a,c,f,g]) m
 ·exact C9 (p:=.string d.name::(AU d.frm++(c0++(c1++(c2++(c3++c4)))))) _ (by simpa using hr) (by simp[At,a,c,f,g,i]) n
 ·exact C9 (p:=.string d.name::(AU d.frm++(c0++(c1++(c2++(c3++(c4++c5))))))) _ (by simpa using hr) (by simp[At,a,c,f,g,i,s]) r
 ·exact C9 (p:=.string d.name::(AU d.frm++(c0++(c1++(c2++(c3++(c4++(c5++c6)))))))) (q:=[]) _ (by simpa using hr) (by simp[At,a,c,f,g,i,s,u]) v
theorem OF{N:NP}{w W:World}{b:Nat}{R:LV}{d:B6}(hr:W.rangeAt b 0 R)(o:EX N w R d):E6 N w W b 7 d.flow∧E6 N w W b 13 d.frm∧E6 N w W b 19 d.to∧E6 N w W b 25 d.every∧E6 N w W b 31 d.len:=by
 obtain ⟨_,_,_,c0,c1,c2,c3,c4,rfl,l,j,f,g,m⟩:=o
 have a:=l.len;have c:=j.len;have i:=f.len;have n:=g.len
 have z:∀ {k:Nat} {e:Ex},E6 N w W b (0+k) e->E6 N w W b k e:=fun h=>by rwa [yw] at h
 refine ⟨z ?_,z ?_,z ?_,z ?_,z ?_⟩
 ·exact C9 (p:=iV d.kind::.string d.name::(AU d.farm++(AU d.reach++[iV d.rank]))) _ (by simpa using hr) rfl l
 ·exact C9 (p:=iV d.kind::.string d.name::(AU d.farm++(AU d.reach++(iV d.rank::c0)))) _ (by simpa using hr) (by simp[At,a]) j
 ·exact C9 (p:=iV d.kind::.string d.name::(AU d.farm++(AU d.reach++(iV d.rank::(c0++c1))))) _ (by simpa using hr) (by simp[At,a,c]) f
 ·exact C9 (p:=iV d.kind::.string d.name::(AU d.farm++(AU d.reach++(iV d.rank::(c0++(c1++c2)))))) _ (by simpa using hr) (by simp[At,a,c,i]) g
 ·exact C9 (p:=iV d.kind::.string d.name::(AU d.farm++(AU d.reach++(iV d.rank::(c0++(c1++(c2++c3))))))) (q:=[]) _ (by simpa using hr) (by simp[At,a,c,i,n]) m
theorem S2{N:NP}{w W:World}{b:Nat}{R:LV}{h:As}{d:BA}(hr:W.rangeAt b 0 R)(n:GM N w h R d):E6 N w W b 4 d.flow∧E6 N w W b 10 d.frm∧E6 N w W b 16 d.to∧R[22]?=some h.v∧BF N w 8 (Fo N w) h d.turns:=by
 obtain ⟨_,_,c0,c1,c2,rfl,l,j,g,m⟩:=n
 have c:=l.len;have f:=j.len;have i:=g.len
 have z:∀ {k:Nat} {e:Ex},E6 N w W b (0+k) e->E6 N w W b k e:=fun h=>by rwa [yw] at h
 have a:(Value.string d.name::(AU d.on++(iV d.rank::(c0++(c1++(c2++[h.v]))))))[22]?=some h.v:=by
  have e:(Value.string d.name::(AU d.on++(iV d.rank::(c0++(c1++(c2++[h.v]))))))=(Value.string d.name::(AU d.on++(iV d.rank::(c0++(c1++c2)))))++[h.v]:=by simp
  rw[e,yV (by simp[At,c,f,i])]
  simp[At,c,f,i]
 refine ⟨z ?_,z ?_,z ?_,a,m⟩
 ·exact C9 (p:=.string d.name::(AU d.on++[iV d.rank])) _ (by simpa using hr) rfl l
 ·exact C9 (p:=.string d.name::(AU d.on++(iV d.rank::c0))) _ (by simpa using hr) (by simp[At,c]) j
 ·exact C9 (p:=.string d.name::(AU d.on++(iV d.rank::(c0++c1)))) _ (by simpa using hr) (by simp[At,c,f]) g
theorem PY{N:NP}{w W:World}{L:Bq}{b:Nat}{R:LV}{x:Ax}(hr:W.rangeAt b 0 R)(g:BP N w L R x):E6 N w W b 1 x.season∧E6 N w W b 7 x.cap∧E6 N w W b 13 x.start:=by
 obtain ⟨c0,c1,c2,rfl,d,a,f⟩:=g.cells
 have c:=d.len;have i:=a.len
 have z:∀ {k:Nat} {e:Ex},E6 N w W b (0+k) e->E6 N w W b k e:=fun h=>by rwa [yw] at h
 refine ⟨z ?_,z ?_,z ?_⟩
 ·exact C9 (p:=[.string x.name]) _ (by simpa using hr) rfl d
 ·exact C9 (p:=.string x.name::c0) _ (by simpa using hr) (by simp[c]) a
 ·exact C9 (p:=.string x.name::(c0++c1)) _ (by simpa using hr) (by simp[c,i]) f
theorem TE{B:Nat}{w:World}{v:Value}{rows:List LV}(h:G7 B w v rows){g:Nat}{c:Array Value}{ty:TypeId}(d:w.heap[g]?=some (.cells c ty (0,0)))(f:ty≠26):v.ownBlock≠some g:=fun e=>by
 rcases h.2 with ⟨rfl,_⟩|⟨k,cap,b,rfl,_,a,_⟩
 ·cases e
 ·cases e
  rw[d] at a
  cases a
  exact f rfl
theorem S3{B b:Nat}{w:World}{v:Value}{l:List LV}(h:G7 B w v l)(hb:b<=B):G7 b w v l:=by
 obtain ⟨h1,h2⟩:=h
 refine ⟨h1,h2.imp id ?_⟩
 rintro ⟨g,cap,a,e,d,c⟩
 exact ⟨g,cap,a,e,by omega,c⟩
structure VI (L:Bq) (x:Ax):Prop where
 lets:L.lets.n=x.lets.length
 crops:L.crops.n=x.crops.length
 reaches:L.reaches.n=x.reaches.length
 farms:L.farms.n=x.farms.length
 rots:L.rots.n=x.rots.length
 rights:L.rights.n=x.rights.length
 duties:L.duties.n=x.duties.length
theorem Uu{N:NP}{w:World}{L:Bq}{cs:LV}{x:Ax}(h:BP N w L cs x)(hN:∀b,N b->b < w.heap.size)(cd:Fw x):
  Calls Tryz.prog 39 #[.agg cs.toArray] w fun e w'=>∃v,e=.returned v∧JM w.heap.size N w (ES x) w' v:=by
 have ae:Hid (VI L x):=yb ⟨h.lets.1,h.crops.1,h.reaches.1,h.farms.1,h.rots.1,h.rights.1,h.duties.1⟩
 have bh:=yb h.ok
 have ay:=yb cd.top
 have ax:=yb cd
 have bb:=yb h.at
 obtain ⟨w0,bt⟩:∃w0,w0=w.alloc (.cells cs.toArray 35):=⟨_,rfl⟩
 have cj:Below w.heap.size w w0:=by rw[bt];exact (yg _ _).alloc (yf _) _
 have d1:w0.heap.size=w.heap.size+1:=by rw[bt];simp
 have ck:w0.heap[w.heap.size]?=some (.cells cs.toArray 35 (0,0)):=by rw[bt];exact World.alloc_heap_new _ _
 have h0:BP N w0 L cs x:=h.same (fun _ h=>h) (fun b hb=>cj.block b (hN b hb))
 have bw:=yb h0.tops
 have bo:=yb h0
 have d0:=yb cj;have da:=yb d1;have dv:=yb hN
 have b7:Hid (∀wr,Below (w.heap.size+1) w0 wr->∀q v,cs[q]?=some v->wr.cell? (aV w.heap.size q)=some v):=yb (fun wr cl q v hq=>by
  have e:=cl.block w.heap.size (by omega)
  simp only[World.cell?,e,ck]
  simpa using hq)
 have b4:Hid (∀wr,Below (w.heap.size+1) w0 wr->∀b,N b->wr.heap[b]?=w0.heap[b]?):=yb (fun wr cl b hb=>cl.block b (by have:=hN b hb;omega))
 have cm:Hid (w0.rangeAt w.heap.size 0 cs):=yb (by
  have:=zl ck 0 cs.length
  simpa using this)
 have X:Hid (JM (w.heap.size+1) N w0 ([]++(x.lets.take 0).flatMap (fun d=> [d.value])) w0 (.slice none 0 0)):=yb ⟨yg _ _,by omega,[],S1 _ _,trivial⟩
 have cv:=yb bt
 clear cj d1 ck h0 hN cd bt
 obtain ⟨ks,ce⟩:∃ks,ks=cs:=⟨_,rfl⟩
 rw[<-ce] at bb bo b7 cm
 have HK:=yb ce
 obtain ⟨c0,c1,c2,rfl,g0,g1,g2⟩:=h.cells
 obtain ⟨a0,p0,rfl,e0⟩:=g0.cells
 obtain ⟨a1,p1,rfl,e1⟩:=g1.cells
 obtain ⟨a2,p2,rfl,e2⟩:=g2.cells
 clear h g0 g1 g2 e0 e1 e2 ce
 unfold As.v at*
 simp only[yK,yP] at cv HK ⊢
 go_enter Tryz.func39,Tryz.ntmps39
 go_upto_region 2 with fail
 rw[<-cv.o]
 go_wp2
 go_loopw [3,4] (fun v3 iv wr=>∃i:Nat,i<=L.lets.n∧iv=iV i∧Hid (JM (w.heap.size+1) N w0 (([]:List Ex)++(x.lets.take i).flatMap (fun d=> [d.value])) wr v3)) (fun _ iv _=>L.lets.n - (intOf iv).toNat)
 case atStart=>exact ⟨0,yH _,rfl,X⟩
 case round=>
  clear X
  obtain ⟨i,hi,rfl,H⟩:=hrel
  have hf:wr.cell? (aV w.heap.size 19)=some (.slice L.lets.a L.lets.n L.lets.c):=b7.o wr H.o.below 19 _ bb.o.lets
  have ar:L.lets.n<=140737488355328:=bh.o.lets.1
  by_cases ag:i < L.lets.n
  ·have U:i < x.lets.length:=by rw[<-ae.o.lets];exact ag
   have Z:(i:Int) < (L.lets.n:Int):=by omega
   obtain ⟨b,o,he,V,c,Y,a8⟩:=bw.o.lets i U
   rw[he] at hf
   have t:Hid (([]:List Ex)++(x.lets.take (i+1)).flatMap (fun d=> [d.value])=(([]:List Ex)++(x.lets.take i).flatMap (fun d=> [d.value]))++[x.lets[i].value]):=yb (by rw[DM U,yI])
   have af:(([]:List Ex)++(x.lets.take i).flatMap (fun d=> [d.value])).length<=20000:=by
    have h1:=ED (l:=x.lets) (f:=(fun d=> [d.value])) (c:=1) (i:=i) (fun _ _=>by simp)
    have h2:=ay.o.t1;have h3:=ax.o.lets
    rw[yn]
    simp only[yE]
    omega
   generalize x.lets[i].value=E at a8 t
   have bd:=yb a8
   obtain ⟨a',p',rfl,_⟩:=a8.cells
   have be:=yb (A0 Y ((b4.o wr H.o.below) b V))
   obtain ⟨rows,G,A⟩:=H.o.own
   have O:=yb G;have M:=yb A
   have K:Hid (rows.length+1<=1000000000):=yb (by rw[A.length];omega)
   clear Y a8 he G A af V
   have F:Hid (Below wr.heap.size wr (wr.alloc (.cells #[iV E.op,iV E.n,iV E.u,.string E.rn,iV E.ri,.slice a' E.args.length p'] 26))):=yb ((yg _ _).alloc (yf _) _)
   have I:=yb (O.o.up F.o)
   have aa:=yb (H.o.below.trans (F.o.mono H.o.size))
   have J:Hid ((wr.alloc (.cells #[iV E.op,iV E.n,iV E.u,.string E.rn,iV E.ri,.slice a' E.args.length p'] 26)).heap[wr.heap.size]?=some (.cells #[iV E.op,iV E.n,iV E.u,.string E.rn,iV E.ri,.slice a' E.args.length p'] 26 (0,0))):=yb (by
    have h:=World.alloc_heap_new wr (.cells #[iV E.op,iV E.n,iV E.u,.string E.rn,iV E.ri,.slice a' E.args.length p'] 26)
    exact h)
   have r:Hid ((w.heap.size+1)<=(wr.alloc (.cells #[iV E.op,iV E.n,iV E.u,.string E.rn,iV E.ri,.slice a' E.args.length p'] 26)).heap.size):=yb (yt H.o.size F.o.size)
   go_wp2_with (first|(refine yj rfl 26 _ rfl b (o+i*7+1) rfl [iV E.op,iV E.n,iV E.u,.string E.rn,iV E.ri,.slice a' E.args.length p'] _ be.o qG rfl (by kernel_rfl) ?_)|(at_builtin;refine B8 (w.heap.size+1) rfl _ _ rfl u3 rows rfl I.o (wr.heap.size) 1 1 [[iV E.op,iV E.n,iV E.u,.string E.rn,iV E.ri,.slice a' E.args.length p']] #[iV E.op,iV E.n,iV E.u,.string E.rn,iV E.ri,.slice a' E.args.length p'] rfl rfl J.o rfl (by simp[Value.oneCell']) rfl K.o r.o ?_;intro aw n5 c5 w5 y C;have ab:=yb y;have ac:=yb (E0 aa.o r.o I.o C);have ad:Hid ((w.heap.size+1)<=w5.heap.size):=yb (yt r.o C.size);have aq:=yb C;clear y C))
   exact ⟨⟨i+1,by omega,by push_cast;rfl,yb ⟨ac.o,ad.o,_,ab.o,by rw[t.o];exact M.o.append ⟨bd.o,trivial⟩⟩⟩,by simp[intOf];omega⟩
  ·obtain rfl:i=L.lets.n:=by omega
   have Z:decide ((L.lets.n:Int) < (L.lets.n:Int))=false:=by simp
   have P:Hid (JM (w.heap.size+1) N w0 (([]:List Ex)++x.lets.flatMap (fun d=> [d.value])) wr u3):=yb (by
    have h:=H.o
    rw[ae.o.lets,yQ] at h
    exact h)
   obtain ⟨⟨C0,r0,k0⟩,⟨C1,r1,k1⟩,⟨C2,r2,k2⟩⟩:=PY (W:=wr) (A0 cm.o (P.o.below.block _ (xN _))) bo.o
   have bx:Hid (IG x=PX x++[x.season,x.cap,x.start]):=yb rfl
   generalize x.season=j at k0 bx
   generalize x.cap=m at k1 bx
   generalize x.start=g at k2 bx
   have am:=yb k0;have ai:=yb k1;have ao:=yb k2
   obtain ⟨a0,p0,rfl,_⟩:=k0.cells
   obtain ⟨a1,p1,rfl,_⟩:=k1.cells
   obtain ⟨a2,p2,rfl,_⟩:=k2.cells
   have aj:=yb r0;have an:=yb r1;have ak:=yb r2
   obtain ⟨rows,G,A⟩:=P.o.own
   have O:=yb G;have M:=yb A
   have K:Hid (rows.length+3<=1000000000):=yb (by
    have h2:=ay.o.t1
    have h3:rows.length=(PX x).length:=A.length
    omega)
   clear r0 r1 r2 G A
   have F:Hid (Below wr.heap.size wr (wr.alloc (.cells #[iV j.op,iV j.n,iV j.u,.string j.rn,iV j.ri,.slice a0 j.args.length p0,iV m.op,iV m.n,iV m.u,.string m.rn,iV m.ri,.slice a1 m.args.length p1,iV g.op,iV g.n,iV g.u,.string g.rn,iV g.ri,.slice a2 g.args.length p2] 26))):=yb ((yg _ _).alloc (yf _) _)
   have I:=yb (O.o.up F.o)
   have aa:=yb (P.o.below.trans (F.o.mono P.o.size))
   have J:Hid ((wr.alloc (.cells #[iV j.op,iV j.n,iV j.u,.string j.rn,iV j.ri,.slice a0 j.args.length p0,iV m.op,iV m.n,iV m.u,.string m.rn,iV m.ri,.slice a1 m.args.length p1,iV g.op,iV g.n,iV g.u,.string g.rn,iV g.ri,.slice a2 g.args.length p2] 26)).heap[wr.heap.size]?=some (.cells #[iV j.op,iV j.n,iV j.u,.string j.rn,iV j.ri,.slice a0 j.args.length p0,iV m.op,iV m.n,iV m.u,.string m.rn,iV m.ri,.slice a1 m.args.length p1,iV g.op,iV g.n,iV g.u,.string g.rn,iV g.ri,.slice a2 g.args.length p2] 26 (0,0))):=yb (by
    have h:=World.alloc_heap_new wr (.cells #[iV j.op,iV j.n,iV j.u,.string j.rn,iV j.ri,.slice a0 j.args.length p0,iV m.op,iV m.n,iV m.u,.string m.rn,iV m.ri,.slice a1 m.args.length p1,iV g.op,iV g.n,iV g.u,.string g.rn,iV g.ri,.slice a2 g.args.length p2] 26)
    exact h)
   have r:Hid ((w.heap.size+1)<=(wr.alloc (.cells #[iV j.op,iV j.n,iV j.u,.string j.rn,iV j.ri,.slice a0 j.args.length p0,iV m.op,iV m.n,iV m.u,.string m.rn,iV m.ri,.slice a1 m.args.length p1,iV g.op,iV g.n,iV g.u,.string g.rn,iV g.ri,.slice a2 g.args.length p2] 26)).heap.size):=yb (yt P.o.size F.o.size)
   go_wp2_with (first|(refine yj rfl 26 _ rfl w.heap.size (1) rfl [iV j.op,iV j.n,iV j.u,.string j.rn,iV j.ri,.slice a0 j.args.length p0] _ aj.o qG rfl (by kernel_rfl) ?_)|(refine yj rfl 26 _ rfl w.heap.size (7) rfl [iV m.op,iV m.n,iV m.u,.string m.rn,iV m.ri,.slice a1 m.args.length p1] _ an.o qG rfl (by kernel_rfl) ?_)|(refine yj rfl 26 _ rfl w.heap.size (13) rfl [iV g.op,iV g.n,iV g.u,.string g.rn,iV g.ri,.slice a2 g.args.length p2] _ ak.o qG rfl (by kernel_rfl) ?_)|(at_builtin;refine B8 (w.heap.size+1) rfl _ _ rfl u3 rows rfl I.o (wr.heap.size) 3 3 [[iV j.op,iV j.n,iV j.u,.string j.rn,iV j.ri,.slice a0 j.args.length p0],[iV m.op,iV m.n,iV m.u,.string m.rn,iV m.ri,.slice a1 m.args.length p1],[iV g.op,iV g.n,iV g.u,.string g.rn,iV g.ri,.slice a2 g.args.length p2]] #[iV j.op,iV j.n,iV j.u,.string j.rn,iV j.ri,.slice a0 j.args.length p0,iV m.op,iV m.n,iV m.u,.string m.rn,iV m.ri,.slice a1 m.args.length p1,iV g.op,iV g.n,iV g.u,.string g.rn,iV g.ri,.slice a2 g.args.length p2] rfl rfl J.o rfl (by simp[Value.oneCell']) rfl K.o r.o ?_;intro aw n5 c5 w5 y C;have ab:=yb y;have ac:=yb (E0 aa.o r.o I.o C);have ad:Hid ((w.heap.size+1)<=w5.heap.size):=yb (yt r.o C.size);have aq:=yb C;clear y C))
   have X:Hid (JM (w.heap.size+1) N w0 (IG x++(x.crops.take 0).flatMap (fun d=> [d.need])) w5 (.slice aw n5 c5)):=yb ⟨ac.o,ad.o,_,ab.o,by
    rw[zU,zs,yS,bx.o]
    exact M.o.append ⟨am.o,ai.o,ao.o,trivial⟩⟩
   clear hf Z H P ab ac ad aq M O K J r aa I F
   go_loopw [3,5] (fun v3 iv wr=>∃i:Nat,i<=L.crops.n∧iv=iV i∧Hid (JM (w.heap.size+1) N w0 (IG x++(x.crops.take i).flatMap (fun d=> [d.need])) wr v3)) (fun _ iv _=>L.crops.n - (intOf iv).toNat)
   case atStart=>exact ⟨0,yH _,rfl,X⟩
   case round=>
    clear X
    obtain ⟨i,hi,rfl,H⟩:=hrel
    have hf:wr.cell? (aV w.heap.size 20)=some (.slice L.crops.a L.crops.n L.crops.c):=b7.o wr H.o.below 20 _ bb.o.crops
    have ar:L.crops.n<=140737488355328:=bh.o.crops.1
    by_cases ag:i < L.crops.n
    ·have U:i < x.crops.length:=by rw[<-ae.o.crops];exact ag
     have Z:(i:Int) < (L.crops.n:Int):=by omega
     obtain ⟨b,o,he,V,c,Y,a8⟩:=bw.o.crops i U
     rw[he] at hf
     have t:Hid (IG x++(x.crops.take (i+1)).flatMap (fun d=> [d.need])=(IG x++(x.crops.take i).flatMap (fun d=> [d.need]))++[x.crops[i].need]):=yb (by rw[DM U,yI])
     have af:(IG x++(x.crops.take i).flatMap (fun d=> [d.need])).length<=20000:=by
      have h1:=ED (l:=x.crops) (f:=(fun d=> [d.need])) (c:=1) (i:=i) (fun _ _=>by simp)
      have h2:=ay.o.t2;have h3:=ax.o.crops
      rw[yn]
      skip
      omega
     generalize x.crops[i].need=E at a8 t
     have bd:=yb a8
     obtain ⟨a',p',rfl,_⟩:=a8.cells
     have be:=yb (A0 Y ((b4.o wr H.o.below) b V))
     obtain ⟨rows,G,A⟩:=H.o.own
     have O:=yb G;have M:=yb A
     have K:Hid (rows.length+1<=1000000000):=yb (by rw[A.length];omega)
     clear Y a8 he G A af V
     have F:Hid (Below wr.heap.size wr (wr.alloc (.cells #[iV E.op,iV E.n,iV E.u,.string E.rn,iV E.ri,.slice a' E.args.length p'] 26))):=yb ((yg _ _).alloc (yf _) _)
     have I:=yb (O.o.up F.o)
     have aa:=yb (H.o.below.trans (F.o.mono H.o.size))
     have J:Hid ((wr.alloc (.cells #[iV E.op,iV E.n,iV E.u,.string E.rn,iV E.ri,.slice a' E.args.length p'] 26)).heap[wr.heap.size]?=some (.cells #[iV E.op,iV E.n,iV E.u,.string E.rn,iV E.ri,.slice a' E.args.length p'] 26 (0,0))):=yb (by
      have h:=World.alloc_heap_new wr (.cells #[iV E.op,iV E.n,iV E.u,.string E.rn,iV E.ri,.slice a' E.args.length p'] 26)
      exact h)
     have r:Hid ((w.heap.size+1)<=(wr.alloc (.cells #[iV E.op,iV E.n,iV E.u,.string E.rn,iV E.ri,.slice a' E.args.length p'] 26)).heap.size):=yb (yt H.o.size F.o.size)
     go_wp2_with (first|(refine yj rfl 26 _ rfl b (o+i*7+1) rfl [iV E.op,iV E.n,iV E.u,.string E.rn,iV E.ri,.slice a' E.args.length p'] _ be.o qG rfl (by kernel_rfl) ?_)|(at_builtin;refine B8 (w.heap.size+1) rfl _ _ rfl u3 rows rfl I.o (wr.heap.size) 1 1 [[iV E.op,iV E.n,iV E.u,.string E.rn,iV E.ri,.slice a' E.args.length p']] #[iV E.op,iV E.n,iV E.u,.string E.rn,iV E.ri,.slice a' E.args.length p'] rfl rfl J.o rfl (by simp[Value.oneCell']) rfl K.o r.o ?_;intro aw n5 c5 w5 y C;have ab:=yb y;have ac:=yb (E0 aa.o r.o I.o C);have ad:Hid ((w.heap.size+1)<=w5.heap.size):=yb (yt r.o C.size);have aq:=yb C;clear y C))
     exact ⟨⟨i+1,by omega,by push_cast;rfl,yb ⟨ac.o,ad.o,_,ab.o,by rw[t.o];exact M.o.append ⟨bd.o,trivial⟩⟩⟩,by simp[intOf];omega⟩
    ·obtain rfl:i=L.crops.n:=by omega
     have Z:decide ((L.crops.n:Int) < (L.crops.n:Int))=false:=by simp
     have P:Hid (JM (w.heap.size+1) N w0 (IG x++x.crops.flatMap (fun d=> [d.need])) wr u3):=yb (by
      have h:=H.o
      rw[ae.o.crops,yQ] at h
      exact h)
     go_wp2
     obtain ⟨d9,rfl⟩:∃z:World,z=wr:=⟨_,rfl⟩
     obtain ⟨dn,rfl⟩:∃z:Value,z=u3:=⟨_,rfl⟩
     have X:Hid (JM (w.heap.size+1) N w0 (Jc x++(x.reaches.take 0).flatMap El) d9 dn):=yb (by
      rw[zU,zs,yS];exact P.o)
     clear hf Z H P
     go_loopw [3,6] (fun v3 iv wr=>∃i:Nat,i<=L.reaches.n∧iv=iV i∧Hid (JM (w.heap.size+1) N w0 (Jc x++(x.reaches.take i).flatMap El) wr v3)) (fun _ iv _=>L.reaches.n - (intOf iv).toNat)
     case atStart=>exact ⟨0,yH _,rfl,X⟩
     case round=>
      clear X
      obtain ⟨i,hi,rfl,H⟩:=hrel
      have hf:wr.cell? (aV w.heap.size 21)=some (.slice L.reaches.a L.reaches.n L.reaches.c):=b7.o wr H.o.below 21 _ bb.o.reaches
      have ar:L.reaches.n<=140737488355328:=bh.o.reaches.1
      by_cases ag:i < L.reaches.n
      ·have U:i < x.reaches.length:=by rw[<-ae.o.reaches];exact ag
       have Z:(i:Int) < (L.reaches.n:Int):=by omega
       obtain ⟨b,o,R,he,V,ap,Y,hv⟩:=bo.o.reaches.2.2 i U
       rw[he] at hf
       have t:Hid (Jc x++(x.reaches.take (i+1)).flatMap El=(Jc x++(x.reaches.take i).flatMap El)++[x.reaches[i].delay,x.reaches[i].cap,x.reaches[i].bank,x.reaches[i].siphon,x.reaches[i].evap0,x.reaches[i].evap1,x.reaches[i].seep0,x.reaches[i].seep1]):=yb (by rw[DM U,yI];rfl)
       have af:(Jc x++(x.reaches.take i).flatMap El).length<=20000:=by
        have h1:=ED (l:=x.reaches) (f:=El) (c:=8) (i:=i) (fun _ _=>by simp[El])
        have h2:=ay.o.t3;have h3:=ax.o.reaches
        rw[yn]
        omega
       have b0:=yb (A0 Y ((b4.o wr H.o.below) b V))
       have al:=yb (z6 (IY _ _ hv))
       have az:Hid ((Tryz.prog.info? 66).map (·.size)=some R.length):=yb (by rw[ap];kernel_rfl)
       have b8:Hid ((Tryz.prog.info? 66).map (·.size)=some R.toArray.size):=yb (by rw[yM];exact az.o)
       have bv:=yb ap
       have ba:(wr.alloc (.cells R.toArray 66)).rangeAt wr.heap.size 0 R:=by
        have:=zl (World.alloc_heap_new wr (.cells R.toArray 66)) 0 R.length
        simpa using this
       obtain ⟨⟨C0,r0,k0⟩,⟨C1,r1,k1⟩,⟨C2,r2,k2⟩,⟨C3,r3,k3⟩,⟨C4,r4,k4⟩,⟨C5,r5,k5⟩,⟨C6,r6,k6⟩,⟨C7,r7,k7⟩⟩:=OE ba hv
       generalize x.reaches[i].delay=j at k0 t
       generalize x.reaches[i].cap=m at k1 t
       generalize x.reaches[i].bank=g at k2 t
       generalize x.reaches[i].siphon=s at k3 t
       generalize x.reaches[i].evap0=B at k4 t
       generalize x.reaches[i].evap1=S at k5 t
       generalize x.reaches[i].seep0=T at k6 t
       generalize x.reaches[i].seep1=Q at k7 t
       have am:=yb k0
       have ai:=yb k1
       have ao:=yb k2
       have b5:=yb k3
       have bn:=yb k4
       have cy:=yb k5
       have d6:=yb k6
       have cx:=yb k7
       obtain ⟨a0,p0,rfl,_⟩:=k0.cells
       obtain ⟨a1,p1,rfl,_⟩:=k1.cells
       obtain ⟨a2,p2,rfl,_⟩:=k2.cells
       obtain ⟨a3,p3,rfl,_⟩:=k3.cells
       obtain ⟨a4,p4,rfl,_⟩:=k4.cells
       obtain ⟨a5,p5,rfl,_⟩:=k5.cells
       obtain ⟨a6,p6,rfl,_⟩:=k6.cells
       obtain ⟨a7,p7,rfl,_⟩:=k7.cells
       have aj:=yb r0
       have an:=yb r1
       have ak:=yb r2
       have b9:=yb r3
       have bm:=yb r4
       have cr:=yb r5
       have cq:=yb r6
       have d4:=yb r7
       obtain ⟨rows,G,A⟩:=H.o.own
       have M:=yb A
       have K:Hid (rows.length+8<=1000000000):=yb (by rw[A.length];omega)
       have ah:Hid (Below wr.heap.size wr (wr.alloc (.cells R.toArray 66))):=yb ((yg _ _).alloc (yf _) _)
       have O:=yb (G.up ah.o)
       have bj:=yb (H.o.below.trans (ah.o.mono H.o.size))
       have au:Hid ((w.heap.size+1)<=(wr.alloc (.cells R.toArray 66)).heap.size):=yb (yt H.o.size ah.o.size)
       clear Y he G A af V ap hv ba r0 r1 r2 r3 r4 r5 r6 r7
       have F:Hid (Below (wr.alloc (.cells R.toArray 66)).heap.size (wr.alloc (.cells R.toArray 66)) ((wr.alloc (.cells R.toArray 66)).alloc (.cells #[iV j.op,iV j.n,iV j.u,.string j.rn,iV j.ri,.slice a0 j.args.length p0,iV m.op,iV m.n,iV m.u,.string m.rn,iV m.ri,.slice a1 m.args.length p1,iV g.op,iV g.n,iV g.u,.string g.rn,iV g.ri,.slice a2 g.args.length p2,iV s.op,iV s.n,iV s.u,.string s.rn,iV s.ri,.slice a3 s.args.length p3,iV B.op,iV B.n,iV B.u,.string B.rn,iV B.ri,.slice a4 B.args.length p4,iV S.op,iV S.n,iV S.u,.string S.rn,iV S.ri,.slice a5 S.args.length p5,iV T.op,iV T.n,iV T.u,.string T.rn,iV T.ri,.slice a6 T.args.length p6,iV Q.op,iV Q.n,iV Q.u,.string Q.rn,iV Q.ri,.slice a7 Q.args.length p7] 26))):=yb ((yg _ _).alloc (yf _) _)
       have I:=yb (O.o.up F.o)
       have aa:=yb (bj.o.trans (F.o.mono au.o))
       have J:Hid (((wr.alloc (.cells R.toArray 66)).alloc (.cells #[iV j.op,iV j.n,iV j.u,.string j.rn,iV j.ri,.slice a0 j.args.length p0,iV m.op,iV m.n,iV m.u,.string m.rn,iV m.ri,.slice a1 m.args.length p1,iV g.op,iV g.n,iV g.u,.string g.rn,iV g.ri,.slice a2 g.args.length p2,iV s.op,iV s.n,iV s.u,.string s.rn,iV s.ri,.slice a3 s.args.length p3,iV B.op,iV B.n,iV B.u,.string B.rn,iV B.ri,.slice a4 B.args.length p4,iV S.op,iV S.n,iV S.u,.string S.rn,iV S.ri,.slice a5 S.args.length p5,iV T.op,iV T.n,iV T.u,.string T.rn,iV T.ri,.slice a6 T.args.length p6,iV Q.op,iV Q.n,iV Q.u,.string Q.rn,iV Q.ri,.slice a7 Q.args.length p7] 26)).heap[wr.heap.size+1]?=some (.cells #[iV j.op,iV j.n,iV j.u,.string j.rn,iV j.ri,.slice a0 j.args.length p0,iV m.op,iV m.n,iV m.u,.string m.rn,iV m.ri,.slice a1 m.args.length p1,iV g.op,iV g.n,iV g.u,.string g.rn,iV g.ri,.slice a2 g.args.length p2,iV s.op,iV s.n,iV s.u,.string s.rn,iV s.ri,.slice a3 s.args.length p3,iV B.op,iV B.n,iV B.u,.string B.rn,iV B.ri,.slice a4 B.args.length p4,iV S.op,iV S.n,iV S.u,.string S.rn,iV S.ri,.slice a5 S.args.length p5,iV T.op,iV T.n,iV T.u,.string T.rn,iV T.ri,.slice a6 T.args.length p6,iV Q.op,iV Q.n,iV Q.u,.string Q.rn,iV Q.ri,.slice a7 Q.args.length p7] 26 (0,0))):=yb (by
        have h:=World.alloc_heap_new (wr.alloc (.cells R.toArray 66)) (.cells #[iV j.op,iV j.n,iV j.u,.string j.rn,iV j.ri,.slice a0 j.args.length p0,iV m.op,iV m.n,iV m.u,.string m.rn,iV m.ri,.slice a1 m.args.length p1,iV g.op,iV g.n,iV g.u,.string g.rn,iV g.ri,.slice a2 g.args.length p2,iV s.op,iV s.n,iV s.u,.string s.rn,iV s.ri,.slice a3 s.args.length p3,iV B.op,iV B.n,iV B.u,.string B.rn,iV B.ri,.slice a4 B.args.length p4,iV S.op,iV S.n,iV S.u,.string S.rn,iV S.ri,.slice a5 S.args.length p5,iV T.op,iV T.n,iV T.u,.string T.rn,iV T.ri,.slice a6 T.args.length p6,iV Q.op,iV Q.n,iV Q.u,.string Q.rn,iV Q.ri,.slice a7 Q.args.length p7] 26)
        rw[yY] at h;exact h)
       have r:Hid ((w.heap.size+1)<=((wr.alloc (.cells R.toArray 66)).alloc (.cells #[iV j.op,iV j.n,iV j.u,.string j.rn,iV j.ri,.slice a0 j.args.length p0,iV m.op,iV m.n,iV m.u,.string m.rn,iV m.ri,.slice a1 m.args.length p1,iV g.op,iV g.n,iV g.u,.string g.rn,iV g.ri,.slice a2 g.args.length p2,iV s.op,iV s.n,iV s.u,.string s.rn,iV s.ri,.slice a3 s.args.length p3,iV B.op,iV B.n,iV B.u,.string B.rn,iV B.ri,.slice a4 B.args.length p4,iV S.op,iV S.n,iV S.u,.string S.rn,iV S.ri,.slice a5 S.args.length p5,iV T.op,iV T.n,iV T.u,.string T.rn,iV T.ri,.slice a6 T.args.length p6,iV Q.op,iV Q.n,iV Q.u,.string Q.rn,iV Q.ri,.slice a7 Q.args.length p7] 26)).heap.size):=yb (yt au.o F.o.size)
       go_wp2_with (first|(refine yj rfl 66 _ rfl b (o+i*51) rfl R _ b0.o qW rfl az.o ?_)|(refine za rfl 66 _ _ rfl wr.heap.size R.toArray rfl rfl 66 _ (World.alloc_heap_new _ _) b8.o (by simp[bv.o]) al.o ?_;rw[World.setRow_alloc_new])|(refine yj rfl 26 _ rfl wr.heap.size (3) rfl [iV j.op,iV j.n,iV j.u,.string j.rn,iV j.ri,.slice a0 j.args.length p0] _ aj.o qG rfl (by kernel_rfl) ?_)|(refine yj rfl 26 _ rfl wr.heap.size (9) rfl [iV m.op,iV m.n,iV m.u,.string m.rn,iV m.ri,.slice a1 m.args.length p1] _ an.o qG rfl (by kernel_rfl) ?_)|(refine yj rfl 26 _ rfl wr.heap.size (15) rfl [iV g.op,iV g.n,iV g.u,.string g.rn,iV g.ri,.slice a2 g.args.length p2] _ ak.o qG rfl (by kernel_rfl) ?_)|(refine yj rfl 26 _ rfl wr.heap.size (21) rfl [iV s.op,iV s.n,iV s.u,.string s.rn,iV s.ri,.slice a3 s.args.length p3] _ b9.o qG rfl (by kernel_rfl) ?_)|(refine yj rfl 26 _ rfl wr.heap.size (27) rfl [iV B.op,iV B.n,iV B.u,.string B.rn,iV B.ri,.slice a4 B.args.length p4] _ bm.o qG rfl (by kernel_rfl) ?_)|(refine yj rfl 26 _ rfl wr.heap.size (33) rfl [iV S.op,iV S.n,iV S.u,.string S.rn,iV S.ri,.slice a5 S.args.length p5] _ cr.o qG rfl (by kernel_rfl) ?_)|(refine yj rfl 26 _ rfl wr.heap.size (39) rfl [iV T.op,iV T.n,iV T.u,.string T.rn,iV T.ri,.slice a6 T.args.length p6] _ cq.o qG rfl (by kernel_rfl) ?_)|(refine yj rfl 26 _ rfl wr.heap.size (45) rfl [iV Q.op,iV Q.n,iV Q.u,.string Q.rn,iV Q.ri,.slice a7 Q.args.length p7] _ d4.o qG rfl (by kernel_rfl) ?_)|(at_builtin;refine B8 (w.heap.size+1) rfl _ _ rfl u3 rows rfl I.o (wr.heap.size+1) 8 8 [[iV j.op,iV j.n,iV j.u,.string j.rn,iV j.ri,.slice a0 j.args.length p0],[iV m.op,iV m.n,iV m.u,.string m.rn,iV m.ri,.slice a1 m.args.length p1],[iV g.op,iV g.n,iV g.u,.string g.rn,iV g.ri,.slice a2 g.args.length p2],[iV s.op,iV s.n,iV s.u,.string s.rn,iV s.ri,.slice a3 s.args.length p3],[iV B.op,iV B.n,iV B.u,.string B.rn,iV B.ri,.slice a4 B.args.length p4],[iV S.op,iV S.n,iV S.u,.string S.rn,iV S.ri,.slice a5 S.args.length p5],[iV T.op,iV T.n,iV T.u,.string T.rn,iV T.ri,.slice a6 T.args.length p6],[iV Q.op,iV Q.n,iV Q.u,.string Q.rn,iV Q.ri,.slice a7 Q.args.length p7]] #[iV j.op,iV j.n,iV j.u,.string j.rn,iV j.ri,.slice a0 j.args.length p0,iV m.op,iV m.n,iV m.u,.string m.rn,iV m.ri,.slice a1 m.args.length p1,iV g.op,iV g.n,iV g.u,.string g.rn,iV g.ri,.slice a2 g.args.length p2,iV s.op,iV s.n,iV s.u,.string s.rn,iV s.ri,.slice a3 s.args.length p3,iV B.op,iV B.n,iV B.u,.string B.rn,iV B.ri,.slice a4 B.args.length p4,iV S.op,iV S.n,iV S.u,.string S.rn,iV S.ri,.slice a5 S.args.length p5,iV T.op,iV T.n,iV T.u,.string T.rn,iV T.ri,.slice a6 T.args.length p6,iV Q.op,iV Q.n,iV Q.u,.string Q.rn,iV Q.ri,.slice a7 Q.args.length p7] rfl rfl J.o rfl (by simp[Value.oneCell']) rfl K.o r.o ?_;intro aw n5 c5 w5 y C;have ab:=yb y;have ac:=yb (E0 aa.o r.o I.o C);have ad:Hid ((w.heap.size+1)<=w5.heap.size):=yb (yt r.o C.size);have aq:=yb C;clear y C))
       exact ⟨⟨i+1,by omega,by push_cast;rfl,yb ⟨ac.o,ad.o,_,ab.o,by rw[t.o];exact M.o.append ⟨am.o,ai.o,ao.o,b5.o,bn.o,cy.o,d6.o,cx.o,trivial⟩⟩⟩,by simp[intOf];omega⟩
      ·obtain rfl:i=L.reaches.n:=by omega
       have Z:decide ((L.reaches.n:Int) < (L.reaches.n:Int))=false:=by simp
       have P:Hid (JM (w.heap.size+1) N w0 (Jc x++x.reaches.flatMap El) wr u3):=yb (by
        have h:=H.o
        rw[ae.o.reaches,yQ] at h
        exact h)
       go_wp2
       obtain ⟨du,rfl⟩:∃z:World,z=wr:=⟨_,rfl⟩
       obtain ⟨db,rfl⟩:∃z:Value,z=u3:=⟨_,rfl⟩
       have X:Hid (JM (w.heap.size+1) N w0 (Jd x++(x.farms.take 0).flatMap (fun d=> [d.area])) du db):=yb (by
        rw[zU,zs,yS];exact P.o)
       clear hf Z H P
       go_loopw [3,8] (fun v3 iv wr=>∃i:Nat,i<=L.farms.n∧iv=iV i∧Hid (JM (w.heap.size+1) N w0 (Jd x++(x.farms.take i).flatMap (fun d=> [d.area])) wr v3)) (fun _ iv _=>L.farms.n - (intOf iv).toNat)
       case atStart=>exact ⟨0,yH _,rfl,X⟩
       case round=>
        clear X
        obtain ⟨i,hi,rfl,H⟩:=hrel
        have hf:wr.cell? (aV w.heap.size 22)=some (.slice L.farms.a L.farms.n L.farms.c):=b7.o wr H.o.below 22 _ bb.o.farms
        have ar:L.farms.n<=140737488355328:=bh.o.farms.1
        by_cases ag:i < L.farms.n
        ·have U:i < x.farms.length:=by rw[<-ae.o.farms];exact ag
         have Z:(i:Int) < (L.farms.n:Int):=by omega
         obtain ⟨b,o,he,V,c,Y,a8⟩:=bw.o.farms i U
         rw[he] at hf
         have t:Hid (Jd x++(x.farms.take (i+1)).flatMap (fun d=> [d.area])=(Jd x++(x.farms.take i).flatMap (fun d=> [d.area]))++[x.farms[i].area]):=yb (by rw[DM U,yI])
         have af:(Jd x++(x.farms.take i).flatMap (fun d=> [d.area])).length<=20000:=by
          have h1:=ED (l:=x.farms) (f:=(fun d=> [d.area])) (c:=1) (i:=i) (fun _ _=>by simp)
          have h2:=ay.o.t4;have h3:=ax.o.farms
          rw[yn]
          skip
          omega
         generalize x.farms[i].area=E at a8 t
         have bd:=yb a8
         obtain ⟨a',p',rfl,_⟩:=a8.cells
         have be:=yb (A0 Y ((b4.o wr H.o.below) b V))
         obtain ⟨rows,G,A⟩:=H.o.own
         have O:=yb G;have M:=yb A
         have K:Hid (rows.length+1<=1000000000):=yb (by rw[A.length];omega)
         clear Y a8 he G A af V
         have F:Hid (Below wr.heap.size wr (wr.alloc (.cells #[iV E.op,iV E.n,iV E.u,.string E.rn,iV E.ri,.slice a' E.args.length p'] 26))):=yb ((yg _ _).alloc (yf _) _)
         have I:=yb (O.o.up F.o)
         have aa:=yb (H.o.below.trans (F.o.mono H.o.size))
         have J:Hid ((wr.alloc (.cells #[iV E.op,iV E.n,iV E.u,.string E.rn,iV E.ri,.slice a' E.args.length p'] 26)).heap[wr.heap.size]?=some (.cells #[iV E.op,iV E.n,iV E.u,.string E.rn,iV E.ri,.slice a' E.args.length p'] 26 (0,0))):=yb (by
          have h:=World.alloc_heap_new wr (.cells #[iV E.op,iV E.n,iV E.u,.string E.rn,iV E.ri,.slice a' E.args.length p'] 26)
          exact h)
         have r:Hid ((w.heap.size+1)<=(wr.alloc (.cells #[iV E.op,iV E.n,iV E.u,.string E.rn,iV E.ri,.slice a' E.args.length p'] 26)).heap.size):=yb (yt H.o.size F.o.size)
         go_wp2_with (first|(refine yj rfl 26 _ rfl b (o+i*12+4) rfl [iV E.op,iV E.n,iV E.u,.string E.rn,iV E.ri,.slice a' E.args.length p'] _ be.o qG rfl (by kernel_rfl) ?_)|(at_builtin;refine B8 (w.heap.size+1) rfl _ _ rfl u3 rows rfl I.o (wr.heap.size) 1 1 [[iV E.op,iV E.n,iV E.u,.string E.rn,iV E.ri,.slice a' E.args.length p']] #[iV E.op,iV E.n,iV E.u,.string E.rn,iV E.ri,.slice a' E.args.length p'] rfl rfl J.o rfl (by simp[Value.oneCell']) rfl K.o r.o ?_;intro aw n5 c5 w5 y C;have ab:=yb y;have ac:=yb (E0 aa.o r.o I.o C);have ad:Hid ((w.heap.size+1)<=w5.heap.size):=yb (yt r.o C.size);have aq:=yb C;clear y C))
         exact ⟨⟨i+1,by omega,by push_cast;rfl,yb ⟨ac.o,ad.o,_,ab.o,by rw[t.o];exact M.o.append ⟨bd.o,trivial⟩⟩⟩,by simp[intOf];omega⟩
        ·obtain rfl:i=L.farms.n:=by omega
         have Z:decide ((L.farms.n:Int) < (L.farms.n:Int))=false:=by simp
         have P:Hid (JM (w.heap.size+1) N w0 (Jd x++x.farms.flatMap (fun d=> [d.area])) wr u3):=yb (by
          have h:=H.o
          rw[ae.o.farms,yQ] at h
          exact h)
         go_wp2
         obtain ⟨dd,rfl⟩:∃z:World,z=wr:=⟨_,rfl⟩
         obtain ⟨dl,rfl⟩:∃z:Value,z=u3:=⟨_,rfl⟩
         have X:Hid (JM (w.heap.size+1) N w0 (GD x++(x.rots.take 0).flatMap GC) dd dl):=yb (by
          rw[zU,zs,yS];exact P.o)
         clear hf Z H P
         go_loopw [3,9] (fun v3 iv wr=>∃i:Nat,i<=L.rots.n∧iv=iV i∧Hid (JM (w.heap.size+1) N w0 (GD x++(x.rots.take i).flatMap GC) wr v3)) (fun _ iv _=>L.rots.n - (intOf iv).toNat)
         case atStart=>exact ⟨0,yH _,rfl,X⟩
         case round=>
          clear X
          obtain ⟨i,hi,rfl,H⟩:=hrel
          have hf:wr.cell? (aV w.heap.size 23)=some (.slice L.rots.a L.rots.n L.rots.c):=b7.o wr H.o.below 23 _ bb.o.rots
          have ar:L.rots.n<=140737488355328:=bh.o.rots.1
          by_cases ag:i < L.rots.n
          ·have U:i < x.rots.length:=by rw[<-ae.o.rots];exact ag
           have Z:(i:Int) < (L.rots.n:Int):=by omega
           obtain ⟨b,o,R,he,V,ap,Y,hv⟩:=bo.o.rots.2.2 i U
           rw[he] at hf
           have t:Hid (GD x++(x.rots.take (i+1)).flatMap GC=(GD x++(x.rots.take i).flatMap GC)++([x.rots[i].flow,x.rots[i].frm,x.rots[i].to]++x.rots[i].turns.flatMap (fun k:Cm=> [k.len]))):=yb (by rw[DM U,yI];rfl)
           have af:(GD x++(x.rots.take i).flatMap GC).length<=20000:=by
            have h1:=ED (l:=x.rots) (f:=GC) (c:=73) (i:=i) (fun d hd=>by
             have h1:(d.turns.flatMap (fun k:Cm=> [k.len])).length<=d.turns.length*1:=Bg fun _ _=>by simp
             have:=ax.o.turns d hd
             simp only[GC,yn,yv,yE];omega)
            have h2:=ay.o.t5;have h3:=ax.o.rots
            rw[yn]
            omega
           have ci:x.rots[i].turns.length<=70:=ax.o.turns _ (yJ U)
           have b0:=yb (A0 Y ((b4.o wr H.o.below) b V))
           have al:=yb (z6 (Ir hv))
           have az:Hid ((Tryz.prog.info? 109).map (·.size)=some R.length):=yb (by rw[ap];kernel_rfl)
           have b8:Hid ((Tryz.prog.info? 109).map (·.size)=some R.toArray.size):=yb (by rw[yM];exact az.o)
           have bv:=yb ap
           have ba:(wr.alloc (.cells R.toArray 109)).rangeAt wr.heap.size 0 R:=by
            have:=zl (World.alloc_heap_new wr (.cells R.toArray 109)) 0 R.length
            simpa using this
           obtain ⟨⟨C0,r0,k0⟩,⟨C1,r1,k1⟩,⟨C2,r2,k2⟩,co,bz⟩:=S2 ba hv
           have dp:=yb co
           have c8:=yb bz
           have dw:(A2 L i).n<=140737488355328:=by rw[bz.1];exact bz.2.1
           generalize x.rots[i].flow=j at k0 t
           generalize x.rots[i].frm=m at k1 t
           generalize x.rots[i].to=g at k2 t
           generalize x.rots[i].turns=D at c8 ci t
           have am:=yb k0;have ai:=yb k1;have ao:=yb k2
           obtain ⟨a0,p0,rfl,_⟩:=k0.cells
           obtain ⟨a1,p1,rfl,_⟩:=k1.cells
           obtain ⟨a2,p2,rfl,_⟩:=k2.cells
           have aj:=yb r0;have an:=yb r1;have ak:=yb r2
           obtain ⟨rows,G,A⟩:=H.o.own
           have M:=yb A
           have K:Hid (rows.length+3<=1000000000):=yb (by rw[A.length];omega)
           have ah:Hid (Below wr.heap.size wr (wr.alloc (.cells R.toArray 109))):=yb ((yg _ _).alloc (yf _) _)
           have O:=yb (G.up ah.o)
           have bj:=yb (H.o.below.trans (ah.o.mono H.o.size))
           have au:Hid ((w.heap.size+1)<=(wr.alloc (.cells R.toArray 109)).heap.size):=yb (yt H.o.size ah.o.size)
           have bq:Hid ((wr.alloc (.cells R.toArray 109)).heap[wr.heap.size]?=some (.cells R.toArray 109 (0,0))):=yb (World.alloc_heap_new _ _)
           have dh:=yb ci;have cn:=yb af
           clear Y he G A af V ap hv ba r0 r1 r2 co bz ci
           obtain ⟨gb,d7⟩:∃gb,gb=wr.heap.size:=⟨_,rfl⟩
           have dy:=yb d7
           clear d7
           have F:Hid (Below (wr.alloc (.cells R.toArray 109)).heap.size (wr.alloc (.cells R.toArray 109)) ((wr.alloc (.cells R.toArray 109)).alloc (.cells #[iV j.op,iV j.n,iV j.u,.string j.rn,iV j.ri,.slice a0 j.args.length p0,iV m.op,iV m.n,iV m.u,.string m.rn,iV m.ri,.slice a1 m.args.length p1,iV g.op,iV g.n,iV g.u,.string g.rn,iV g.ri,.slice a2 g.args.length p2] 26))):=yb ((yg _ _).alloc (yf _) _)
           have I:=yb (O.o.up F.o)
           have aa:=yb (bj.o.trans (F.o.mono au.o))
           have J:Hid (((wr.alloc (.cells R.toArray 109)).alloc (.cells #[iV j.op,iV j.n,iV j.u,.string j.rn,iV j.ri,.slice a0 j.args.length p0,iV m.op,iV m.n,iV m.u,.string m.rn,iV m.ri,.slice a1 m.args.length p1,iV g.op,iV g.n,iV g.u,.string g.rn,iV g.ri,.slice a2 g.args.length p2] 26)).heap[wr.heap.size+1]?=some (.cells #[iV j.op,iV j.n,iV j.u,.string j.rn,iV j.ri,.slice a0 j.args.length p0,iV m.op,iV m.n,iV m.u,.string m.rn,iV m.ri,.slice a1 m.args.length p1,iV g.op,iV g.n,iV g.u,.string g.rn,iV g.ri,.slice a2 g.args.length p2] 26 (0,0))):=yb (by
            have h:=World.alloc_heap_new (wr.alloc (.cells R.toArray 109)) (.cells #[iV j.op,iV j.n,iV j.u,.string j.rn,iV j.ri,.slice a0 j.args.length p0,iV m.op,iV m.n,iV m.u,.string m.rn,iV m.ri,.slice a1 m.args.length p1,iV g.op,iV g.n,iV g.u,.string g.rn,iV g.ri,.slice a2 g.args.length p2] 26)
            rw[yY] at h;exact h)
           have r:Hid ((w.heap.size+1)<=((wr.alloc (.cells R.toArray 109)).alloc (.cells #[iV j.op,iV j.n,iV j.u,.string j.rn,iV j.ri,.slice a0 j.args.length p0,iV m.op,iV m.n,iV m.u,.string m.rn,iV m.ri,.slice a1 m.args.length p1,iV g.op,iV g.n,iV g.u,.string g.rn,iV g.ri,.slice a2 g.args.length p2] 26)).heap.size):=yb (yt au.o F.o.size)
           go_wp2_with (first|(refine yj rfl 109 _ rfl b (o+i*23) rfl R _ b0.o qw rfl az.o ?_)|(refine za rfl 109 _ _ rfl wr.heap.size R.toArray rfl rfl 109 _ (World.alloc_heap_new _ _) b8.o (by simp[bv.o]) al.o ?_;rw[World.setRow_alloc_new])|(refine yj rfl 26 _ rfl wr.heap.size (4) rfl [iV j.op,iV j.n,iV j.u,.string j.rn,iV j.ri,.slice a0 j.args.length p0] _ aj.o qG rfl (by kernel_rfl) ?_)|(refine yj rfl 26 _ rfl wr.heap.size (10) rfl [iV m.op,iV m.n,iV m.u,.string m.rn,iV m.ri,.slice a1 m.args.length p1] _ an.o qG rfl (by kernel_rfl) ?_)|(refine yj rfl 26 _ rfl wr.heap.size (16) rfl [iV g.op,iV g.n,iV g.u,.string g.rn,iV g.ri,.slice a2 g.args.length p2] _ ak.o qG rfl (by kernel_rfl) ?_)|(at_builtin;refine B8 (w.heap.size+1) rfl _ _ rfl u3 rows rfl I.o (wr.heap.size+1) 3 3 [[iV j.op,iV j.n,iV j.u,.string j.rn,iV j.ri,.slice a0 j.args.length p0],[iV m.op,iV m.n,iV m.u,.string m.rn,iV m.ri,.slice a1 m.args.length p1],[iV g.op,iV g.n,iV g.u,.string g.rn,iV g.ri,.slice a2 g.args.length p2]] #[iV j.op,iV j.n,iV j.u,.string j.rn,iV j.ri,.slice a0 j.args.length p0,iV m.op,iV m.n,iV m.u,.string m.rn,iV m.ri,.slice a1 m.args.length p1,iV g.op,iV g.n,iV g.u,.string g.rn,iV g.ri,.slice a2 g.args.length p2] rfl rfl J.o rfl (by simp[Value.oneCell']) rfl K.o r.o ?_;intro aw n5 c5 w5 y C;have ab:=yb y;have ac:=yb (E0 aa.o r.o I.o C);have ad:Hid ((w.heap.size+1)<=w5.heap.size):=yb (yt r.o C.size);have aq:=yb C;clear y C))
           have av:Hid (w5.heap[wr.heap.size]?=some (.cells R.toArray 109 (0,0))):=yb (by
            have e1:((wr.alloc (.cells R.toArray 109)).alloc (.cells #[iV j.op,iV j.n,iV j.u,.string j.rn,iV j.ri,.slice a0 j.args.length p0,iV m.op,iV m.n,iV m.u,.string m.rn,iV m.ri,.slice a1 m.args.length p1,iV g.op,iV g.n,iV g.u,.string g.rn,iV g.ri,.slice a2 g.args.length p2] 26)).heap[wr.heap.size]?=some (.cells R.toArray 109 (0,0)):=(F.o.block _ (by simp)).trans bq.o
            exact (aq.o.block _ (yd.1 e1).1 (fun e=>TE I.o e1 (by decide) e.symm)).trans e1)
           have cu:Hid (JM (w.heap.size+1) N w0 ((GD x++(x.rots.take i).flatMap GC)++([j,m,g]++(D.take 0).flatMap (fun k:Cm=> [k.len]))) w5 (.slice aw n5 c5)):=yb ⟨ac.o,ad.o,_,ab.o,by
            rw[zU,zs,yS]
            exact M.o.append ⟨am.o,ai.o,ao.o,trivial⟩⟩
           clear ab ac ad aq M O K J r aa I F bj au ah bq H hf
           obtain ⟨wo,rfl⟩:∃z:World,z=wr:=⟨_,rfl⟩
           obtain ⟨vo,rfl⟩:∃z:Value,z=u3:=⟨_,rfl⟩
           go_loopw [3,11] (fun v3 iv wr=>∃k:Nat,k<=(A2 L i).n∧iv=iV k∧Hid (JM (w.heap.size+1) N w0 ((GD x++(x.rots.take i).flatMap GC)++([j,m,g]++(D.take k).flatMap (fun k:Cm=> [k.len]))) wr v3)∧Hid (wr.heap[wo.heap.size]?=some (.cells R.toArray 109 (0,0)))) (fun _ iv _=>(A2 L i).n - (intOf iv).toNat)
           case atStart=>exact ⟨0,yH _,rfl,cu,av⟩
           case round=>
            clear cu av
            obtain ⟨k,hk,rfl,bi,cg⟩:=hrel
            have dt:wr.cell? (aV wo.heap.size 22)=some (.slice (A2 L i).a (A2 L i).n (A2 L i).c):=by
             simp only[World.cell?,cg.o]
             have h:=dp.o
             unfold As.v at h
             simpa using h
            by_cases dm:k < (A2 L i).n
            ·have cz:k < D.length:=by rw[<-c8.o.1];exact dm
             have df:(k:Int) < ((A2 L i).n:Int):=by omega
             obtain ⟨b2,o2,c2,d3,d5,dc,c9,cw,ct,rfl,bp⟩:=c8.o.2.2 k cz
             rw[d3] at dt
             have d2:w0.rangeAt b2 (o2+k*8+2) ct:=by
              have:=CT (p:=AU D[k].farm) (c:=ct) (q:=[]) (by simpa using c9)
              exact this
             have cc:Hid (((GD x++(x.rots.take i).flatMap GC)++([j,m,g]++(D.take (k+1)).flatMap (fun k:Cm=> [k.len])))=((GD x++(x.rots.take i).flatMap GC)++([j,m,g]++(D.take k).flatMap (fun k:Cm=> [k.len])))++[D[k].len]):=yb (by rw[DM cz];simp only[yI])
             generalize D[k].len=s at bp cc
             have b5:=yb bp
             obtain ⟨a3,p3,rfl,_⟩:=bp.cells
             have b9:=yb (A0 d2 ((b4.o wr bi.o.below) b2 d5))
             obtain ⟨bu,bk,bg⟩:=bi.o.own
             have cf:=yb bk;have ch:=yb bg
             have K:Hid (bu.length+1<=1000000000):=yb (by
              have h1:=ED (l:=D) (f:=(fun k:Cm=> [k.len])) (c:=1) (i:=k) (fun _ _=>by simp)
              have h2:=dh.o;have h3:=cn.o
              rw[bg.length]
              simp only[yn,yv,yE] at h3 ⊢
              omega)
             clear c9 d2 bk bg d5 dc cw d3
             have F:Hid (Below wr.heap.size wr (wr.alloc (.cells #[iV s.op,iV s.n,iV s.u,.string s.rn,iV s.ri,.slice a3 s.args.length p3] 26))):=yb ((yg _ _).alloc (yf _) _)
             have I:=yb (cf.o.up F.o)
             have aa:=yb (bi.o.below.trans (F.o.mono bi.o.size))
             have J:Hid ((wr.alloc (.cells #[iV s.op,iV s.n,iV s.u,.string s.rn,iV s.ri,.slice a3 s.args.length p3] 26)).heap[wr.heap.size]?=some (.cells #[iV s.op,iV s.n,iV s.u,.string s.rn,iV s.ri,.slice a3 s.args.length p3] 26 (0,0))):=yb (by
              have h:=World.alloc_heap_new wr (.cells #[iV s.op,iV s.n,iV s.u,.string s.rn,iV s.ri,.slice a3 s.args.length p3] 26)
              exact h)
             have r:Hid ((w.heap.size+1)<=(wr.alloc (.cells #[iV s.op,iV s.n,iV s.u,.string s.rn,iV s.ri,.slice a3 s.args.length p3] 26)).heap.size):=yb (yt bi.o.size F.o.size)
             go_wp2_with (first|(refine yj rfl 26 _ rfl b2 (o2+k*8+2) rfl [iV s.op,iV s.n,iV s.u,.string s.rn,iV s.ri,.slice a3 s.args.length p3] _ b9.o qG rfl (by kernel_rfl) ?_)|(at_builtin;refine B8 (w.heap.size+1) rfl _ _ rfl u3 bu rfl I.o (wr.heap.size) 1 1 [[iV s.op,iV s.n,iV s.u,.string s.rn,iV s.ri,.slice a3 s.args.length p3]] #[iV s.op,iV s.n,iV s.u,.string s.rn,iV s.ri,.slice a3 s.args.length p3] rfl rfl J.o rfl (by simp[Value.oneCell']) rfl K.o r.o ?_;intro dx n6 c6 w6 y C;have dk:=yb y;have di:=yb (E0 aa.o r.o I.o C);have dg:Hid ((w.heap.size+1)<=w6.heap.size):=yb (yt r.o C.size);have dj:=yb C;clear y C))
             have av:Hid (w6.heap[wo.heap.size]?=some (.cells R.toArray 109 (0,0))):=yb (by
              have e1:=(F.o.block _ (yd.1 cg.o).1).trans cg.o
              exact (dj.o.block _ (yd.1 e1).1 (fun e=>TE I.o e1 (by decide) e.symm)).trans e1)
             exact ⟨⟨k+1,by omega,by push_cast;rfl,yb ⟨di.o,dg.o,_,dk.o,by rw[cc.o];exact ch.o.append ⟨b5.o,trivial⟩⟩,av⟩,by simp[intOf];omega⟩
            ·obtain rfl:k=(A2 L i).n:=by omega
             have df:decide (((A2 L i).n:Int) < ((A2 L i).n:Int))=false:=by simp
             have cp:Hid (JM (w.heap.size+1) N w0 (GD x++(x.rots.take (i+1)).flatMap GC) wr u3):=yb (by
              rw[t.o]
              have h:=bi.o
              rw[c8.o.1,yQ] at h
              exact h)
             go_wp2
             exact ⟨⟨i+1,by omega,by push_cast;rfl,cp⟩,by simp[intOf];omega⟩
          ·obtain rfl:i=L.rots.n:=by omega
           have Z:decide ((L.rots.n:Int) < (L.rots.n:Int))=false:=by simp
           have P:Hid (JM (w.heap.size+1) N w0 (GD x++x.rots.flatMap GC) wr u3):=yb (by
            have h:=H.o
            rw[ae.o.rots,yQ] at h
            exact h)
           go_wp2
           obtain ⟨de,rfl⟩:∃z:World,z=wr:=⟨_,rfl⟩
           obtain ⟨dr,rfl⟩:∃z:Value,z=u3:=⟨_,rfl⟩
           have X:Hid (JM (w.heap.size+1) N w0 (Je x++(x.rights.take 0).flatMap Em) de dr):=yb (by
            rw[zU,zs,yS];exact P.o)
           clear hf Z H P
           go_loopw [3,12] (fun v3 iv wr=>∃i:Nat,i<=L.rights.n∧iv=iV i∧Hid (JM (w.heap.size+1) N w0 (Je x++(x.rights.take i).flatMap Em) wr v3)) (fun _ iv _=>L.rights.n - (intOf iv).toNat)
           case atStart=>exact ⟨0,yH _,rfl,X⟩
           case round=>
            clear X
            obtain ⟨i,hi,rfl,H⟩:=hrel
            have hf:wr.cell? (aV w.heap.size 24)=some (.slice L.rights.a L.rights.n L.rights.c):=b7.o wr H.o.below 24 _ bb.o.rights
            have ar:L.rights.n<=140737488355328:=bh.o.rights.1
            by_cases ag:i < L.rights.n
            ·have U:i < x.rights.length:=by rw[<-ae.o.rights];exact ag
             have Z:(i:Int) < (L.rights.n:Int):=by omega
             obtain ⟨b,o,R,he,V,ap,Y,hv⟩:=bo.o.rights.2.2 i U
             rw[he] at hf
             have t:Hid (Je x++(x.rights.take (i+1)).flatMap Em=(Je x++(x.rights.take i).flatMap Em)++[x.rights[i].flow,x.rights[i].frm,x.rights[i].to,x.rights[i].every,x.rights[i].len]):=yb (by rw[DM U,yI];rfl)
             have af:(Je x++(x.rights.take i).flatMap Em).length<=20000:=by
              have h1:=ED (l:=x.rights) (f:=Em) (c:=5) (i:=i) (fun _ _=>by simp[Em])
              have h2:=ay.o.t6;have h3:=ax.o.rights
              rw[yn]
              omega
             have b0:=yb (A0 Y ((b4.o wr H.o.below) b V))
             have al:=yb (z6 (IZ _ _ hv))
             have az:Hid ((Tryz.prog.info? 131).map (·.size)=some R.length):=yb (by rw[ap];kernel_rfl)
             have b8:Hid ((Tryz.prog.info? 131).map (·.size)=some R.toArray.size):=yb (by rw[yM];exact az.o)
             have bv:=yb ap
             have ba:(wr.alloc (.cells R.toArray 131)).rangeAt wr.heap.size 0 R:=by
              have:=zl (World.alloc_heap_new wr (.cells R.toArray 131)) 0 R.length
              simpa using this
             obtain ⟨⟨C0,r0,k0⟩,⟨C1,r1,k1⟩,⟨C2,r2,k2⟩,⟨C3,r3,k3⟩,⟨C4,r4,k4⟩⟩:=OF ba hv
             generalize x.rights[i].flow=j at k0 t
             generalize x.rights[i].frm=m at k1 t
             generalize x.rights[i].to=g at k2 t
             generalize x.rights[i].every=s at k3 t
             generalize x.rights[i].len=B at k4 t
             have am:=yb k0
             have ai:=yb k1
             have ao:=yb k2
             have b5:=yb k3
             have bn:=yb k4
             obtain ⟨a0,p0,rfl,_⟩:=k0.cells
             obtain ⟨a1,p1,rfl,_⟩:=k1.cells
             obtain ⟨a2,p2,rfl,_⟩:=k2.cells
             obtain ⟨a3,p3,rfl,_⟩:=k3.cells
             obtain ⟨a4,p4,rfl,_⟩:=k4.cells
             have aj:=yb r0
             have an:=yb r1
             have ak:=yb r2
             have b9:=yb r3
             have bm:=yb r4
             obtain ⟨rows,G,A⟩:=H.o.own
             have M:=yb A
             have K:Hid (rows.length+5<=1000000000):=yb (by rw[A.length];omega)
             have ah:Hid (Below wr.heap.size wr (wr.alloc (.cells R.toArray 131))):=yb ((yg _ _).alloc (yf _) _)
             have O:=yb (G.up ah.o)
             have bj:=yb (H.o.below.trans (ah.o.mono H.o.size))
             have au:Hid ((w.heap.size+1)<=(wr.alloc (.cells R.toArray 131)).heap.size):=yb (yt H.o.size ah.o.size)
             clear Y he G A af V ap hv ba r0 r1 r2 r3 r4
             have F:Hid (Below (wr.alloc (.cells R.toArray 131)).heap.size (wr.alloc (.cells R.toArray 131)) ((wr.alloc (.cells R.toArray 131)).alloc (.cells #[iV j.op,iV j.n,iV j.u,.string j.rn,iV j.ri,.slice a0 j.args.length p0,iV m.op,iV m.n,iV m.u,.string m.rn,iV m.ri,.slice a1 m.args.length p1,iV g.op,iV g.n,iV g.u,.string g.rn,iV g.ri,.slice a2 g.args.length p2,iV s.op,iV s.n,iV s.u,.string s.rn,iV s.ri,.slice a3 s.args.length p3,iV B.op,iV B.n,iV B.u,.string B.rn,iV B.ri,.slice a4 B.args.length p4] 26))):=yb ((yg _ _).alloc (yf _) _)
             have I:=yb (O.o.up F.o)
             have aa:=yb (bj.o.trans (F.o.mono au.o))
             have J:Hid (((wr.alloc (.cells R.toArray 131)).alloc (.cells #[iV j.op,iV j.n,iV j.u,.string j.rn,iV j.ri,.slice a0 j.args.length p0,iV m.op,iV m.n,iV m.u,.string m.rn,iV m.ri,.slice a1 m.args.length p1,iV g.op,iV g.n,iV g.u,.string g.rn,iV g.ri,.slice a2 g.args.length p2,iV s.op,iV s.n,iV s.u,.string s.rn,iV s.ri,.slice a3 s.args.length p3,iV B.op,iV B.n,iV B.u,.string B.rn,iV B.ri,.slice a4 B.args.length p4] 26)).heap[wr.heap.size+1]?=some (.cells #[iV j.op,iV j.n,iV j.u,.string j.rn,iV j.ri,.slice a0 j.args.length p0,iV m.op,iV m.n,iV m.u,.string m.rn,iV m.ri,.slice a1 m.args.length p1,iV g.op,iV g.n,iV g.u,.string g.rn,iV g.ri,.slice a2 g.args.length p2,iV s.op,iV s.n,iV s.u,.string s.rn,iV s.ri,.slice a3 s.args.length p3,iV B.op,iV B.n,iV B.u,.string B.rn,iV B.ri,.slice a4 B.args.length p4] 26 (0,0))):=yb (by
              have h:=World.alloc_heap_new (wr.alloc (.cells R.toArray 131)) (.cells #[iV j.op,iV j.n,iV j.u,.string j.rn,iV j.ri,.slice a0 j.args.length p0,iV m.op,iV m.n,iV m.u,.string m.rn,iV m.ri,.slice a1 m.args.length p1,iV g.op,iV g.n,iV g.u,.string g.rn,iV g.ri,.slice a2 g.args.length p2,iV s.op,iV s.n,iV s.u,.string s.rn,iV s.ri,.slice a3 s.args.length p3,iV B.op,iV B.n,iV B.u,.string B.rn,iV B.ri,.slice a4 B.args.length p4] 26)
              rw[yY] at h;exact h)
             have r:Hid ((w.heap.size+1)<=((wr.alloc (.cells R.toArray 131)).alloc (.cells #[iV j.op,iV j.n,iV j.u,.string j.rn,iV j.ri,.slice a0 j.args.length p0,iV m.op,iV m.n,iV m.u,.string m.rn,iV m.ri,.slice a1 m.args.length p1,iV g.op,iV g.n,iV g.u,.string g.rn,iV g.ri,.slice a2 g.args.length p2,iV s.op,iV s.n,iV s.u,.string s.rn,iV s.ri,.slice a3 s.args.length p3,iV B.op,iV B.n,iV B.u,.string B.rn,iV B.ri,.slice a4 B.args.length p4] 26)).heap.size):=yb (yt au.o F.o.size)
             go_wp2_with (first|(refine yj rfl 131 _ rfl b (o+i*37) rfl R _ b0.o qz rfl az.o ?_)|(refine za rfl 131 _ _ rfl wr.heap.size R.toArray rfl rfl 131 _ (World.alloc_heap_new _ _) b8.o (by simp[bv.o]) al.o ?_;rw[World.setRow_alloc_new])|(refine yj rfl 26 _ rfl wr.heap.size (7) rfl [iV j.op,iV j.n,iV j.u,.string j.rn,iV j.ri,.slice a0 j.args.length p0] _ aj.o qG rfl (by kernel_rfl) ?_)|(refine yj rfl 26 _ rfl wr.heap.size (13) rfl [iV m.op,iV m.n,iV m.u,.string m.rn,iV m.ri,.slice a1 m.args.length p1] _ an.o qG rfl (by kernel_rfl) ?_)|(refine yj rfl 26 _ rfl wr.heap.size (19) rfl [iV g.op,iV g.n,iV g.u,.string g.rn,iV g.ri,.slice a2 g.args.length p2] _ ak.o qG rfl (by kernel_rfl) ?_)|(refine yj rfl 26 _ rfl wr.heap.size (25) rfl [iV s.op,iV s.n,iV s.u,.string s.rn,iV s.ri,.slice a3 s.args.length p3] _ b9.o qG rfl (by kernel_rfl) ?_)|(refine yj rfl 26 _ rfl wr.heap.size (31) rfl [iV B.op,iV B.n,iV B.u,.string B.rn,iV B.ri,.slice a4 B.args.length p4] _ bm.o qG rfl (by kernel_rfl) ?_)|(at_builtin;refine B8 (w.heap.size+1) rfl _ _ rfl u3 rows rfl I.o (wr.heap.size+1) 5 5 [[iV j.op,iV j.n,iV j.u,.string j.rn,iV j.ri,.slice a0 j.args.length p0],[iV m.op,iV m.n,iV m.u,.string m.rn,iV m.ri,.slice a1 m.args.length p1],[iV g.op,iV g.n,iV g.u,.string g.rn,iV g.ri,.slice a2 g.args.length p2],[iV s.op,iV s.n,iV s.u,.string s.rn,iV s.ri,.slice a3 s.args.length p3],[iV B.op,iV B.n,iV B.u,.string B.rn,iV B.ri,.slice a4 B.args.length p4]] #[iV j.op,iV j.n,iV j.u,.string j.rn,iV j.ri,.slice a0 j.args.length p0,iV m.op,iV m.n,iV m.u,.string m.rn,iV m.ri,.slice a1 m.args.length p1,iV g.op,iV g.n,iV g.u,.string g.rn,iV g.ri,.slice a2 g.args.length p2,iV s.op,iV s.n,iV s.u,.string s.rn,iV s.ri,.slice a3 s.args.length p3,iV B.op,iV B.n,iV B.u,.string B.rn,iV B.ri,.slice a4 B.args.length p4] rfl rfl J.o rfl (by simp[Value.oneCell']) rfl K.o r.o ?_;intro aw n5 c5 w5 y C;have ab:=yb y;have ac:=yb (E0 aa.o r.o I.o C);have ad:Hid ((w.heap.size+1)<=w5.heap.size):=yb (yt r.o C.size);have aq:=yb C;clear y C))
             exact ⟨⟨i+1,by omega,by push_cast;rfl,yb ⟨ac.o,ad.o,_,ab.o,by rw[t.o];exact M.o.append ⟨am.o,ai.o,ao.o,b5.o,bn.o,trivial⟩⟩⟩,by simp[intOf];omega⟩
            ·obtain rfl:i=L.rights.n:=by omega
             have Z:decide ((L.rights.n:Int) < (L.rights.n:Int))=false:=by simp
             have P:Hid (JM (w.heap.size+1) N w0 (Je x++x.rights.flatMap Em) wr u3):=yb (by
              have h:=H.o
              rw[ae.o.rights,yQ] at h
              exact h)
             go_wp2
             obtain ⟨d8,rfl⟩:∃z:World,z=wr:=⟨_,rfl⟩
             obtain ⟨dq,rfl⟩:∃z:Value,z=u3:=⟨_,rfl⟩
             have X:Hid (JM (w.heap.size+1) N w0 (Jf x++(x.duties.take 0).flatMap (fun d=> [d.due])) d8 dq):=yb (by
              rw[zU,zs,yS];exact P.o)
             clear hf Z H P
             go_loopw [3,14] (fun v3 iv wr=>∃i:Nat,i<=L.duties.n∧iv=iV i∧Hid (JM (w.heap.size+1) N w0 (Jf x++(x.duties.take i).flatMap (fun d=> [d.due])) wr v3)) (fun _ iv _=>L.duties.n - (intOf iv).toNat)
             case atStart=>exact ⟨0,yH _,rfl,X⟩
             case round=>
              clear X
              obtain ⟨i,hi,rfl,H⟩:=hrel
              have hf:wr.cell? (aV w.heap.size 25)=some (.slice L.duties.a L.duties.n L.duties.c):=b7.o wr H.o.below 25 _ bb.o.duties
              have ar:L.duties.n<=140737488355328:=bh.o.duties.1
              by_cases ag:i < L.duties.n
              ·have U:i < x.duties.length:=by rw[<-ae.o.duties];exact ag
               have Z:(i:Int) < (L.duties.n:Int):=by omega
               obtain ⟨b,o,he,V,c,Y,a8⟩:=bw.o.duties i U
               rw[he] at hf
               have t:Hid (Jf x++(x.duties.take (i+1)).flatMap (fun d=> [d.due])=(Jf x++(x.duties.take i).flatMap (fun d=> [d.due]))++[x.duties[i].due]):=yb (by rw[DM U,yI])
               have af:(Jf x++(x.duties.take i).flatMap (fun d=> [d.due])).length<=20000:=by
                have h1:=ED (l:=x.duties) (f:=(fun d=> [d.due])) (c:=1) (i:=i) (fun _ _=>by simp)
                have h2:=ay.o.t7;have h3:=ax.o.duties
                rw[yn]
                skip
                omega
               generalize x.duties[i].due=E at a8 t
               have bd:=yb a8
               obtain ⟨a',p',rfl,_⟩:=a8.cells
               have be:=yb (A0 Y ((b4.o wr H.o.below) b V))
               obtain ⟨rows,G,A⟩:=H.o.own
               have O:=yb G;have M:=yb A
               have K:Hid (rows.length+1<=1000000000):=yb (by rw[A.length];omega)
               clear Y a8 he G A af V
               have F:Hid (Below wr.heap.size wr (wr.alloc (.cells #[iV E.op,iV E.n,iV E.u,.string E.rn,iV E.ri,.slice a' E.args.length p'] 26))):=yb ((yg _ _).alloc (yf _) _)
               have I:=yb (O.o.up F.o)
               have aa:=yb (H.o.below.trans (F.o.mono H.o.size))
               have J:Hid ((wr.alloc (.cells #[iV E.op,iV E.n,iV E.u,.string E.rn,iV E.ri,.slice a' E.args.length p'] 26)).heap[wr.heap.size]?=some (.cells #[iV E.op,iV E.n,iV E.u,.string E.rn,iV E.ri,.slice a' E.args.length p'] 26 (0,0))):=yb (by
                have h:=World.alloc_heap_new wr (.cells #[iV E.op,iV E.n,iV E.u,.string E.rn,iV E.ri,.slice a' E.args.length p'] 26)
                exact h)
               have r:Hid ((w.heap.size+1)<=(wr.alloc (.cells #[iV E.op,iV E.n,iV E.u,.string E.rn,iV E.ri,.slice a' E.args.length p'] 26)).heap.size):=yb (yt H.o.size F.o.size)
               go_wp2_with (first|(refine yj rfl 26 _ rfl b (o+i*11+5) rfl [iV E.op,iV E.n,iV E.u,.string E.rn,iV E.ri,.slice a' E.args.length p'] _ be.o qG rfl (by kernel_rfl) ?_)|(at_builtin;refine B8 (w.heap.size+1) rfl _ _ rfl u3 rows rfl I.o (wr.heap.size) 1 1 [[iV E.op,iV E.n,iV E.u,.string E.rn,iV E.ri,.slice a' E.args.length p']] #[iV E.op,iV E.n,iV E.u,.string E.rn,iV E.ri,.slice a' E.args.length p'] rfl rfl J.o rfl (by simp[Value.oneCell']) rfl K.o r.o ?_;intro aw n5 c5 w5 y C;have ab:=yb y;have ac:=yb (E0 aa.o r.o I.o C);have ad:Hid ((w.heap.size+1)<=w5.heap.size):=yb (yt r.o C.size);have aq:=yb C;clear y C))
               exact ⟨⟨i+1,by omega,by push_cast;rfl,yb ⟨ac.o,ad.o,_,ab.o,by rw[t.o];exact M.o.append ⟨bd.o,trivial⟩⟩⟩,by simp[intOf];omega⟩
              ·obtain rfl:i=L.duties.n:=by omega
               have Z:decide ((L.duties.n:Int) < (L.duties.n:Int))=false:=by simp
               have P:Hid (JM (w.heap.size+1) N w0 (Jf x++x.duties.flatMap (fun d=> [d.due])) wr u3):=yb (by
                have h:=H.o
                rw[ae.o.duties,yQ] at h
                exact h)
               go_wp2
               go_ret
               refine ⟨_,rfl,⟨d0.o.trans (P.o.below.mono (by have:=da.o;omega)),by have:=P.o.size;omega,?_⟩⟩
               obtain ⟨rows,G,A⟩:=P.o.own
               exact ⟨rows,S3 G (by omega),Az.mono (fun cs e hE=>hE.same (fun _ h=>h) (fun b hb=>(d0.o.block b (dv.o b hb)).symm)) A⟩
end Go.Proofs.YtjofgpfocadomaaGreatDoor
