/- The reference's Top: the expressions that are no argument (printed by gen_vb.py). -/
import Derived.Test.YtghepahgkcigpaaRg0
import Derived.Test.YtghepahgkcigpaaRg3
import Derived.Test.YtghepahgkcigpaaRg7
import Derived.Test.YtghepahgkcigpaaRg8
set_option maxRecDepth 100000
set_option maxHeartbeats 32000000
set_option linter.unusedSimpArgs false
namespace Go.Proofs.Ytghepahgkcigpaa
open Go.RowKit
def Gb(B:Nat)(w:World)(v:Value)(rows:List LV):Prop:=w.ownsRow B 26 6 v rows.length rows.flatten
theorem Qm(B:Nat)(w:World):Gb B w (.slice none 0 0) []:=⟨rfl,.inl ⟨rfl,rfl⟩⟩
theorem Gb.up{B:Nat}{w w':World}{v:Value}{l:List LV}(h:Gb B w v l)(hb:Below w.heap.size w w'):Gb B w' v l:=by
 obtain ⟨h1,h2⟩:=h
 refine ⟨h1,h2.imp id ?_⟩
 rintro ⟨g,cap,a,h3,h4,h5,h6⟩
 exact ⟨g,cap,a,h3,h4,(hb.block g (yf.1 h5).1).trans h5,h6⟩
theorem DS{B:Nat}{c w w':World}{v:Value}{l:List LV}(h:Below B c w)(i:B<=w.heap.size)(f:Gb B w v l)(a:w.grownBy w' v.ownBlock):Below B c w':=by
 refine h.trans ⟨a.os,a.tape,a.output,a.size,fun b hb=>a.block b (by omega) (fun e=>?_)⟩
 rcases f.2 with ⟨rfl,_⟩|⟨g,cap,d,rfl,h4,_⟩
 ·cases e
 ·simp only[Value.ownBlock,yV] at e
  omega
theorem Be{ops:Array Oper}{rest:List Oper}{o:Oper}{a:Act}{Q:QT}{W:World}(B:Nat)(A:o.guard=none)(s x:Operand)(J:o.op=.call {callee:=.builtin .append,args:=#[s,x],argTypes:=#[24,24]})
 (v:Value)(rows:List LV)(hs:a.eval s=v)(b:Gb B W v rows)(g m c:Nat)(f:List LV)(row:Array Value)(D:a.eval x=.slice (some ⟨g,0,none⟩) m c)(O:m=f.length)(P:W.heap[g]?=some (.cells row 26 (0,0)))(d:row.toList=f.flatten)(q:∀u∈row.toList,u.oneCell'=true)(G:row.toList.length=f.length*6)
 (I:rows.length+f.length<=1000000000)(p:B<=W.heap.size)
 (h:∀(L:Option Addr) (n c:Nat) w',Gb B w' (.slice L n c) (rows++f)->W.grownBy w' v.ownBlock->wpList Try.prog ops Q rest (a.put o.dst (.slice L n c)) w'):wpList Try.prog ops Q (o::rest) a W:=by
 subst O
 refine yF A fun K H=>?_
 have l:(Try.prog.info? 26).map (fun i=>(i.zero,i.size,i.bytes))=some (some (.agg #[iV 0,iV 0,iV 0,.string ⟨#[]⟩,iV 0,.slice none 0 0]),6,72):=by kernel_rfl
 obtain ⟨R,hi,y,t,F⟩:=info_parts l
 by_cases h0:f=[]
 ·subst h0
  have r:=EF qp hi W B o.type v rows.length _ (by have:=b;unfold Gb at this;rw[<-t] at this;exact this) (some (aV g 0)) c
  obtain ⟨va,E,w,rfl⟩:∃a n c,v=.slice a n c:=by
   rcases b.2 with ⟨rfl,M⟩|⟨g,cap,z,rfl,_⟩
   ·exact ⟨_,_,_,rfl⟩
   ·exact ⟨_,_,_,rfl⟩
  unfold Oper.wp
  simp only[yI] at D
  simp[execOp,J,resolve,invoke,builtin,hs,D,r,Result.andThen]
  exact H _ _ (h va E w W (by simpa using b) ⟨rfl,rfl,rfl,ye _,fun _ _ _=>rfl⟩)
 ·have k:∀j u,f.flatten[j]?=some u->W.cell? (((aV g 0):Addr).add j)=some u:=fun j u N=>by
   rw[zy,<-d] at*
   simp only[World.cell?,P]
   simpa using N
  refine qg W s x 24 J B 26 R _ 6 72 qp hi y t F rfl (by decide) v rows.length _ hs b (aV g 0) f.length c f.flatten D (by rw[<-d];exact G) k (by rw[<-d];exact q) (by unfold maxLen;omega) (by omega) p ?_
  intro v' w' e C _
  obtain ⟨va,E,w,rfl⟩:∃a n c,v'=.slice a n c:=by
   rcases e.2 with ⟨rfl,M⟩|⟨g,cap,z,rfl,_⟩
   ·exact ⟨_,_,_,rfl⟩
   ·exact ⟨_,_,_,rfl⟩
  exact H _ _ (h va E w w' (by unfold Gb;rw[ym,List.flatten_append];exact e) C)
def Ee(d:Ax):List Ex:=[d.delay,d.cap,d.bank,d.siphon,d.evap0,d.evap1,d.seep0,d.seep1]
def GD(d:B7):List Ex:=[d.flow,d.frm,d.to]++d.turns.flatMap fun k=> [k.len]
def Ef(d:AG):List Ex:=[d.flow,d.frm,d.to,d.every,d.len]
def OT(x:An):List Ex:=x.lets.flatMap fun d=> [d.value]
def Iq(x:An):List Ex:=OT x++[x.season,x.cap,x.start]
def IV(x:An):List Ex:=Iq x++x.crops.flatMap fun d=> [d.need]
def IW(x:An):List Ex:=IV x++x.reaches.flatMap Ee
def GG(x:An):List Ex:=IW x++x.farms.flatMap fun d=> [d.area]
def IX(x:An):List Ex:=GG x++x.rots.flatMap GD
def IY(x:An):List Ex:=IX x++x.rights.flatMap Ef
def Cv(x:An):List Ex:=IY x++x.duties.flatMap fun d=> [d.due]
theorem BF{α β:Type}{l:List α}{f:α->List β}{i:Nat}(h:i < l.length):(l.take (i+1)).flatMap f=(l.take i).flatMap f++f l[i]:=by
 rw[yq h,zB];simp
theorem Cf{α β:Type}{l:List α}{f:α->List β}{c i:Nat}(h:∀a∈l,(f a).length<=c):((l.take i).flatMap f).length<=l.length*c:=by
 have h1:=AH (l:=l.take i) (f:=f) (c:=c) (fun a b=>h a (List.mem_of_mem_take b))
 have h2:(l.take i).length<=l.length:=by simp;omega
 exact yr h1 (Nat.mul_le_mul_right _ h2)
structure Fw (x:An):Prop where
 lets:x.lets.length<=100
 crops:x.crops.length<=100
 reaches:x.reaches.length<=100
 farms:x.farms.length<=100
 rots:x.rots.length<=70
 rights:x.rights.length<=300
 duties:x.duties.length<=300
 turns:∀d∈x.rots,d.turns.length<=70
structure Ut (x:An):Prop where
 t1:(OT x).length<=100
 t2:(Iq x).length<=103
 t3:(IV x).length<=203
 t4:(IW x).length<=1003
 t5:(GG x).length<=1103
 t6:(IX x).length<=6213
 t7:(IY x).length<=7713
 tE:(Cv x).length<=8013
theorem Fw.top{x:An}(h:Fw x):Ut x:=by
 have e1:(OT x).length<=x.lets.length*1:=AH fun _ _=>by simp
 have g:(x.crops.flatMap fun d=> [d.need]).length<=x.crops.length*1:=AH fun _ _=>by simp
 have e:(x.reaches.flatMap Ee).length<=x.reaches.length*8:=AH fun _ _=>by simp[Ee]
 have n:(x.farms.flatMap fun d=> [d.area]).length<=x.farms.length*1:=AH fun _ _=>by simp
 have p:(x.rots.flatMap GD).length<=x.rots.length*73:=AH fun d hd=>by
  have h1:(d.turns.flatMap fun k:Bt=> [k.len]).length<=d.turns.length*1:=AH fun _ _=>by simp
  have:=h.turns d hd
  simp only[GD,ym,yE,yI];omega
 have j:(x.rights.flatMap Ef).length<=x.rights.length*5:=AH fun _ _=>by simp[Ef]
 have o:(x.duties.flatMap fun d=> [d.due]).length<=x.duties.length*1:=AH fun _ _=>by simp
 have:=h.lets;have:=h.crops;have:=h.reaches;have:=h.farms;have:=h.rots;have:=h.rights;have:=h.duties
 have c:(Iq x).length=(OT x).length+3:=by unfold Iq;simp
 have m:(IV x).length=(Iq x).length+(x.crops.flatMap fun d=> [d.need]).length:=by unfold IV;rw[ym]
 have f:(IW x).length=(IV x).length+(x.reaches.flatMap Ee).length:=by unfold IW;rw[ym]
 have l:(GG x).length=(IW x).length+(x.farms.flatMap fun d=> [d.area]).length:=by unfold GG;rw[ym]
 have a:(IX x).length=(GG x).length+(x.rots.flatMap GD).length:=by unfold IX;rw[ym]
 have i:(IY x).length=(IX x).length+(x.rights.flatMap Ef).length:=by unfold IY;rw[ym]
 have b:(Cv x).length=(IY x).length+(x.duties.flatMap fun d=> [d.due]).length:=by unfold Cv;rw[ym]
 constructor<;>omega
structure Je (B:Nat) (N:Nat->Prop) (w0:World) (es:List Ex) (wr:World) (v:Value):Prop where
 below:Below B w0 wr
 size:B<=wr.heap.size
 own:∃rows,Gb B wr v rows∧At (fun cs e=>AP N w0 e cs) rows es
theorem At.len{α β:Type}{R:α->β->Prop}{l:List α}{m:List β}(h:At R l m):l.length=m.length:=h.length
def RG(N:NP)(w:World)(b o:Nat)(e:Ex):Prop:=N b∧∃c,w.rangeAt b o c∧AP N w e c
theorem JH{N:NP}{w:World}{b o:Nat}{p c q:LV}{e:Ex}{off:Nat}(hN:N b)(f:w.rangeAt b o (p++(c++q)))(a:p.length=off)(d:AP N w e c):RG N w b (o+off) e:=by
 have:=AK f
 rw[a] at this
 exact ⟨hN,c,this,d⟩
structure Uu (N:Nat->Prop) (w:World) (L:Bh) (x:An):Prop where
 lets:∀i (hi:i < x.lets.length),∃b o,L.lets.a=some ⟨b,o,none⟩∧RG N w b (o+i*7+1) x.lets[i].value
 crops:∀i (hi:i < x.crops.length),∃b o,L.crops.a=some ⟨b,o,none⟩∧RG N w b (o+i*7+1) x.crops[i].need
 farms:∀i (hi:i < x.farms.length),∃b o,L.farms.a=some ⟨b,o,none⟩∧RG N w b (o+i*12+4) x.farms[i].area
 duties:∀i (hi:i < x.duties.length),∃b o,L.duties.a=some ⟨b,o,none⟩∧RG N w b (o+i*11+5) x.duties[i].due
theorem B8.tops{N:NP}{w:World}{L:Bh}{cs:LV}{x:An}(h:B8 N w L cs x):Uu N w L x:=by
 refine ⟨fun i hi=>?_,fun i hi=>?_,fun i hi=>?_,fun i hi=>?_⟩
 ·obtain ⟨b,o,c,g1,e,f,d,_,c1,rfl,a⟩:=h.lets.2.2 i hi
  exact ⟨b,o,g1,JH (p:=[.string (x.lets[i]).name]) (q:=[]) e (by simpa using d) rfl a⟩
 ·obtain ⟨b,o,c,g1,e,f,d,_,c1,rfl,a⟩:=h.crops.2.2 i hi
  exact ⟨b,o,g1,JH (p:=[.string (x.crops[i]).name]) (q:=[]) e (by simpa using d) rfl a⟩
 ·obtain ⟨b,o,c,g1,e,f,d,_,_,_,c1,rfl,a⟩:=h.farms.2.2 i hi
  exact ⟨b,o,g1,JH (p:=.string (x.farms[i]).name::(Ah (x.farms[i]).on++[.bool (x.farms[i]).river])) (q:=Ah (x.farms[i]).crop) e (by simpa using d) rfl a⟩
 ·obtain ⟨b,o,c,g1,e,f,d,_,_,_,c1,rfl,a⟩:=h.duties.2.2 i hi
  exact ⟨b,o,g1,JH (p:=.string (x.duties[i]).name::(Ah (x.duties[i]).farm++Ah (x.duties[i]).reach)) (q:=[]) e (by simpa using d) rfl a⟩
def E1(N:NP)(w W:World)(b o:Nat)(e:Ex):Prop:=∃c,W.rangeAt b o c∧AP N w e c
theorem Cj{N:NP}{w W:World}{b o:Nat}{p c q:LV}{e:Ex}(off:Nat)(f:W.rangeAt b o (p++(c++q)))(a:p.length=off)(d:AP N w e c):E1 N w W b (o+off) e:=by
 have:=AK f
 rw[a] at this
 exact ⟨c,this,d⟩
theorem NJ{N:NP}{w W:World}{b:Nat}{R:LV}{d:Ax}(a:W.rangeAt b 0 R)(A:CG N w R d):E1 N w W b 3 d.delay∧E1 N w W b 9 d.cap∧E1 N w W b 15 d.bank∧E1 N w W b 21 d.siphon∧E1 N w W b 27 d.evap0∧E1 N w W b 33 d.evap1∧E1 N w W b 39 d.seep0∧E1 N w W b 45 d.seep1:=by
 obtain ⟨_,_,c0,c1,c2,i,m,r,B,E,rfl,v,o,s,x,u,n,y,C⟩:=A
 have c:=v.len;have f:=o.len;have g:=s.len;have j:=x.len;have l:=u.len;have t:=n.len;have D:=y.len
 have z:∀ {k:Nat} {e:Ex},E1 N w W b (0+k) e->E1 N w W b k e:=fun h=>by rwa [yA] at h
 refine ⟨z ?_,z ?_,z ?_,z ?_,z ?_,z ?_,z ?_,z ?_⟩
 ·exact Cj (p:=.string d.name::Ah d.frm) _ (by simpa using a) rfl v
 ·exact Cj (p:=.string d.name::(Ah d.frm++c0)) _ (by simpa using a) (by simp[A7,c]) o
 ·exact Cj (p:=.string d.name::(Ah d.frm++(c0++c1))) _ (by simpa using a) (by simp[A7,c,f]) s
 ·exact Cj (p:=.string d.name::(Ah d.frm++(c0++(c1++c2)))) _ (by simpa using a) (by simp[A7,c,f,g]) x
 ·exact Cj (p:=.string d.name::(Ah d.frm++(c0++(c1++(c2++i))))) _ (by simpa using a) (by simp[A7,c,f,g,j]) u
 ·exact Cj (p:=.string d.name::(Ah d.frm++(c0++(c1++(c2++(i++m)))))) _ (by simpa using a) (by simp[A7,c,f,g,j,l]) n
 ·exact Cj (p:=.string d.name::(Ah d.frm++(c0++(c1++(c2++(i++(m++r))))))) _ (by simpa using a) (by simp[A7,c,f,g,j,l,t]) y
 ·exact Cj (p:=.string d.name::(Ah d.frm++(c0++(c1++(c2++(i++(m++(r++B)))))))) (q:=[]) _ (by simpa using a) (by simp[A7,c,f,g,j,l,t,D]) C
theorem NK{N:NP}{w W:World}{b:Nat}{R:LV}{d:AG}(a:W.rangeAt b 0 R)(n:CH N w R d):E1 N w W b 7 d.flow∧E1 N w W b 13 d.frm∧E1 N w W b 19 d.to∧E1 N w W b 25 d.every∧E1 N w W b 31 d.len:=by
 obtain ⟨_,_,_,c0,c1,c2,o,t,rfl,j,g,i,l,r⟩:=n
 have c:=j.len;have f:=g.len;have m:=i.len;have s:=l.len
 have z:∀ {k:Nat} {e:Ex},E1 N w W b (0+k) e->E1 N w W b k e:=fun h=>by rwa [yA] at h
 refine ⟨z ?_,z ?_,z ?_,z ?_,z ?_⟩
 ·exact Cj (p:=iV d.kind::.string d.name::(Ah d.farm++(Ah d.reach++[iV d.rank]))) _ (by simpa using a) rfl j
 ·exact Cj (p:=iV d.kind::.string d.name::(Ah d.farm++(Ah d.reach++(iV d.rank::c0)))) _ (by simpa using a) (by simp[A7,c]) g
 ·exact Cj (p:=iV d.kind::.string d.name::(Ah d.farm++(Ah d.reach++(iV d.rank::(c0++c1))))) _ (by simpa using a) (by simp[A7,c,f]) i
 ·exact Cj (p:=iV d.kind::.string d.name::(Ah d.farm++(Ah d.reach++(iV d.rank::(c0++(c1++c2)))))) _ (by simpa using a) (by simp[A7,c,f,m]) l
 ·exact Cj (p:=iV d.kind::.string d.name::(Ah d.farm++(Ah d.reach++(iV d.rank::(c0++(c1++(c2++o))))))) (q:=[]) _ (by simpa using a) (by simp[A7,c,f,m,s]) r
theorem Qn{N:NP}{w W:World}{b:Nat}{R:LV}{h:Av}{d:B7}(f:W.rangeAt b 0 R)(n:Gg N w h R d):E1 N w W b 4 d.flow∧E1 N w W b 10 d.frm∧E1 N w W b 16 d.to∧R[22]?=some h.v∧Az N w 8 (Dm N w) h d.turns:=by
 obtain ⟨_,_,c0,c1,c2,rfl,l,i,j,o⟩:=n
 have c:=l.len;have g:=i.len;have m:=j.len
 have z:∀ {k:Nat} {e:Ex},E1 N w W b (0+k) e->E1 N w W b k e:=fun h=>by rwa [yA] at h
 have a:(Value.string d.name::(Ah d.on++(iV d.rank::(c0++(c1++(c2++[h.v]))))))[22]?=some h.v:=by
  have e:(Value.string d.name::(Ah d.on++(iV d.rank::(c0++(c1++(c2++[h.v]))))))=(Value.string d.name::(Ah d.on++(iV d.rank::(c0++(c1++c2)))))++[h.v]:=by simp
  rw[e,yS (by simp[A7,c,g,m])]
  simp[A7,c,g,m]
 refine ⟨z ?_,z ?_,z ?_,a,o⟩
 ·exact Cj (p:=.string d.name::(Ah d.on++[iV d.rank])) _ (by simpa using f) rfl l
 ·exact Cj (p:=.string d.name::(Ah d.on++(iV d.rank::c0))) _ (by simpa using f) (by simp[A7,c]) i
 ·exact Cj (p:=.string d.name::(Ah d.on++(iV d.rank::(c0++c1)))) _ (by simpa using f) (by simp[A7,c,g]) j
theorem OU{N:NP}{w W:World}{L:Bh}{b:Nat}{R:LV}{x:An}(a:W.rangeAt b 0 R)(g:B8 N w L R x):E1 N w W b 1 x.season∧E1 N w W b 7 x.cap∧E1 N w W b 13 x.start:=by
 obtain ⟨c0,c1,c2,rfl,d,c,i⟩:=g.cells
 have f:=d.len;have j:=c.len
 have z:∀ {k:Nat} {e:Ex},E1 N w W b (0+k) e->E1 N w W b k e:=fun h=>by rwa [yA] at h
 refine ⟨z ?_,z ?_,z ?_⟩
 ·exact Cj (p:=[.string x.name]) _ (by simpa using a) rfl d
 ·exact Cj (p:=.string x.name::c0) _ (by simpa using a) (by simp[f]) c
 ·exact Cj (p:=.string x.name::(c0++c1)) _ (by simpa using a) (by simp[f,j]) i
theorem RH{B:Nat}{w:World}{v:Value}{rows:List LV}(h:Gb B w v rows){g:Nat}{c:Array Value}{ty:TypeId}(b:w.heap[g]?=some (.cells c ty (0,0)))(f:ty≠26):v.ownBlock≠some g:=fun e=>by
 rcases h.2 with ⟨rfl,_⟩|⟨k,cap,d,rfl,_,a,_⟩
 ·cases e
 ·cases e
  rw[b] at a
  cases a
  exact f rfl
theorem Qo{B b:Nat}{w:World}{v:Value}{l:List LV}(h:Gb B w v l)(hb:b<=B):Gb b w v l:=by
 obtain ⟨h1,h2⟩:=h
 refine ⟨h1,h2.imp id ?_⟩
 rintro ⟨g,cap,a,e,h4,h5⟩
 exact ⟨g,cap,a,e,by omega,h5⟩
structure U8 (L:Bh) (x:An):Prop where
 lets:L.lets.n=x.lets.length
 crops:L.crops.n=x.crops.length
 reaches:L.reaches.n=x.reaches.length
 farms:L.farms.n=x.farms.length
 rots:L.rots.n=x.rots.length
 rights:L.rights.n=x.rights.length
 duties:L.duties.n=x.duties.length
theorem Mr{N:NP}{w:World}{L:Bh}{cs:LV}{x:An}(h:B8 N w L cs x)(hN:∀b,N b->b < w.heap.size)(cb:Fw x):
  Calls Try.prog 22 #[.agg cs.toArray] w fun e w'=>∃v,e=.returned v∧Je w.heap.size N w (Cv x) w' v:=by
 have af:Hid (U8 L x):=yb ⟨h.lets.1,h.crops.1,h.reaches.1,h.farms.1,h.rots.1,h.rights.1,h.duties.1⟩
 have be:=yb h.ok
 have b4:=yb cb.top
 have au:=yb cb
 have b9:=yb h.at
 obtain ⟨w0,bm⟩:∃w0,w0=w.alloc (.cells cs.toArray 35):=⟨_,rfl⟩
 have cd:Below w.heap.size w w0:=by rw[bm];exact (yg _ _).alloc (ye _) _
 have cz:w0.heap.size=w.heap.size+1:=by rw[bm];simp
 have ce:w0.heap[w.heap.size]?=some (.cells cs.toArray 35 (0,0)):=by rw[bm];exact World.alloc_heap_new _ _
 have h0:B8 N w0 L cs x:=h.same (fun _ h=>h) (fun b hb=>cd.block b (hN b hb))
 have bw:=yb h0.tops
 have bp:=yb h0
 have cj:=yb cd;have de:=yb cz;have dg:=yb hN
 have b3:Hid (∀wr,Below (w.heap.size+1) w0 wr->∀q v,cs[q]?=some v->wr.cell? (aV w.heap.size q)=some v):=yb (fun wr cg q v hq=>by
  have e:=cg.block w.heap.size (by omega)
  simp only[World.cell?,e,ce]
  simpa using hq)
 have ay:Hid (∀wr,Below (w.heap.size+1) w0 wr->∀b,N b->wr.heap[b]?=w0.heap[b]?):=yb (fun wr cg b hb=>cg.block b (by have:=hN b hb;omega))
 have cl:Hid (w0.rangeAt w.heap.size 0 cs):=yb (by
  have:=yR ce 0 cs.length
  simpa using this)
 have V:Hid (Je (w.heap.size+1) N w0 ([]++(x.lets.take 0).flatMap (fun d=> [d.value])) w0 (.slice none 0 0)):=yb ⟨yg _ _,by omega,[],Qm _ _,trivial⟩
 have cm:=yb bm
 clear cd cz ce h0 hN cb bm
 obtain ⟨ks,cc⟩:∃ks,ks=cs:=⟨_,rfl⟩
 rw[<-cc] at b9 bp b3 cl
 have HK:=yb cc
 obtain ⟨c0,c1,c2,rfl,g0,g1,g2⟩:=h.cells
 obtain ⟨a0,p0,rfl,e0⟩:=g0.cells
 obtain ⟨a1,p1,rfl,e1⟩:=g1.cells
 obtain ⟨a2,p2,rfl,e2⟩:=g2.cells
 clear h g0 g1 g2 e0 e1 e2 cc
 unfold Av.v at*
 simp only[z7,zj] at cm HK ⊢
 go_enter Try.func22,Try.ntmps22
 go_upto_region 2 with fail
 rw[<-cm.o]
 go_wp2
 go_loopw [3,4] (fun v3 iv wr=>∃i:Nat,i<=L.lets.n∧iv=iV i∧Hid (Je (w.heap.size+1) N w0 (([]:List Ex)++(x.lets.take i).flatMap (fun d=> [d.value])) wr v3)) (fun _ iv _=>L.lets.n - (intOf iv).toNat)
 case atStart=>exact ⟨0,yz _,rfl,V⟩
 case round=>
  clear V
  obtain ⟨i,hi,rfl,H⟩:=hrel
  have hf:wr.cell? (aV w.heap.size 19)=some (.slice L.lets.a L.lets.n L.lets.c):=b3.o wr H.o.below 19 _ b9.o.lets
  have ar:L.lets.n<=140737488355328:=be.o.lets.1
  by_cases ag:i < L.lets.n
  ·have U:i < x.lets.length:=by rw[<-af.o.lets];exact ag
   have Z:(i:Int) < (L.lets.n:Int):=by omega
   obtain ⟨b,o,he,Y,c,X,aa⟩:=bw.o.lets i U
   rw[he] at hf
   have t:Hid (([]:List Ex)++(x.lets.take (i+1)).flatMap (fun d=> [d.value])=(([]:List Ex)++(x.lets.take i).flatMap (fun d=> [d.value]))++[x.lets[i].value]):=yb (by rw[BF U,yl])
   have ae:(([]:List Ex)++(x.lets.take i).flatMap (fun d=> [d.value])).length<=20000:=by
    have h1:=Cf (l:=x.lets) (f:=(fun d=> [d.value])) (c:=1) (i:=i) (fun _ _=>by simp)
    have h2:=b4.o.t1;have h3:=au.o.lets
    rw[ym]
    simp only[yI]
    omega
   generalize x.lets[i].value=E at aa t
   have bh:=yb aa
   obtain ⟨a',p',rfl,_⟩:=aa.cells
   have bd:=yb (A2 X ((ay.o wr H.o.below) b Y))
   obtain ⟨rows,G,A⟩:=H.o.own
   have M:=yb G;have O:=yb A
   have J:Hid (rows.length+1<=1000000000):=yb (by rw[A.length];omega)
   clear X aa he G A ae Y
   have F:Hid (Below wr.heap.size wr (wr.alloc (.cells #[iV E.op,iV E.n,iV E.u,.string E.rn,iV E.ri,.slice a' E.args.length p'] 26))):=yb ((yg _ _).alloc (ye _) _)
   have I:=yb (M.o.up F.o)
   have a8:=yb (H.o.below.trans (F.o.mono H.o.size))
   have K:Hid ((wr.alloc (.cells #[iV E.op,iV E.n,iV E.u,.string E.rn,iV E.ri,.slice a' E.args.length p'] 26)).heap[wr.heap.size]?=some (.cells #[iV E.op,iV E.n,iV E.u,.string E.rn,iV E.ri,.slice a' E.args.length p'] 26 (0,0))):=yb (by
    have h:=World.alloc_heap_new wr (.cells #[iV E.op,iV E.n,iV E.u,.string E.rn,iV E.ri,.slice a' E.args.length p'] 26)
    exact h)
   have r:Hid ((w.heap.size+1)<=(wr.alloc (.cells #[iV E.op,iV E.n,iV E.u,.string E.rn,iV E.ri,.slice a' E.args.length p'] 26)).heap.size):=yb (yr H.o.size F.o.size)
   go_wp2_with (first|(refine yj rfl 26 _ rfl b (o+i*7+1) rfl [iV E.op,iV E.n,iV E.u,.string E.rn,iV E.ri,.slice a' E.args.length p'] _ bd.o qq rfl (by kernel_rfl) ?_)|(at_builtin;refine Be (w.heap.size+1) rfl _ _ rfl u3 rows rfl I.o (wr.heap.size) 1 1 [[iV E.op,iV E.n,iV E.u,.string E.rn,iV E.ri,.slice a' E.args.length p']] #[iV E.op,iV E.n,iV E.u,.string E.rn,iV E.ri,.slice a' E.args.length p'] rfl rfl K.o rfl (by simp[Value.oneCell']) rfl J.o r.o ?_;intro ax n5 c5 w5 y C;have ad:=yb y;have ab:=yb (DS a8.o r.o I.o C);have ac:Hid ((w.heap.size+1)<=w5.heap.size):=yb (yr r.o C.size);have aq:=yb C;clear y C))
   exact ⟨⟨i+1,by omega,by push_cast;rfl,yb ⟨ab.o,ac.o,_,ad.o,by rw[t.o];exact O.o.append ⟨bh.o,trivial⟩⟩⟩,by simp[intOf];omega⟩
  ·obtain rfl:i=L.lets.n:=by omega
   have Z:decide ((L.lets.n:Int) < (L.lets.n:Int))=false:=by simp
   have P:Hid (Je (w.heap.size+1) N w0 (([]:List Ex)++x.lets.flatMap (fun d=> [d.value])) wr u3):=yb (by
    have h:=H.o
    rw[af.o.lets,yw] at h
    exact h)
   obtain ⟨⟨C0,r0,k0⟩,⟨C1,r1,k1⟩,⟨C2,r2,k2⟩⟩:=OU (W:=wr) (A2 cl.o (P.o.below.block _ (xF _))) bp.o
   have bz:Hid (Iq x=OT x++[x.season,x.cap,x.start]):=yb rfl
   generalize x.season=m at k0 bz
   generalize x.cap=g at k1 bz
   generalize x.start=j at k2 bz
   have an:=yb k0;have al:=yb k1;have aj:=yb k2
   obtain ⟨a0,p0,rfl,_⟩:=k0.cells
   obtain ⟨a1,p1,rfl,_⟩:=k1.cells
   obtain ⟨a2,p2,rfl,_⟩:=k2.cells
   have am:=yb r0;have ao:=yb r1;have ak:=yb r2
   obtain ⟨rows,G,A⟩:=P.o.own
   have M:=yb G;have O:=yb A
   have J:Hid (rows.length+3<=1000000000):=yb (by
    have h2:=b4.o.t1
    have h3:rows.length=(OT x).length:=A.length
    omega)
   clear r0 r1 r2 G A
   have F:Hid (Below wr.heap.size wr (wr.alloc (.cells #[iV m.op,iV m.n,iV m.u,.string m.rn,iV m.ri,.slice a0 m.args.length p0,iV g.op,iV g.n,iV g.u,.string g.rn,iV g.ri,.slice a1 g.args.length p1,iV j.op,iV j.n,iV j.u,.string j.rn,iV j.ri,.slice a2 j.args.length p2] 26))):=yb ((yg _ _).alloc (ye _) _)
   have I:=yb (M.o.up F.o)
   have a8:=yb (P.o.below.trans (F.o.mono P.o.size))
   have K:Hid ((wr.alloc (.cells #[iV m.op,iV m.n,iV m.u,.string m.rn,iV m.ri,.slice a0 m.args.length p0,iV g.op,iV g.n,iV g.u,.string g.rn,iV g.ri,.slice a1 g.args.length p1,iV j.op,iV j.n,iV j.u,.string j.rn,iV j.ri,.slice a2 j.args.length p2] 26)).heap[wr.heap.size]?=some (.cells #[iV m.op,iV m.n,iV m.u,.string m.rn,iV m.ri,.slice a0 m.args.length p0,iV g.op,iV g.n,iV g.u,.string g.rn,iV g.ri,.slice a1 g.args.length p1,iV j.op,iV j.n,iV j.u,.string j.rn,iV j.ri,.slice a2 j.args.length p2] 26 (0,0))):=yb (by
    have h:=World.alloc_heap_new wr (.cells #[iV m.op,iV m.n,iV m.u,.string m.rn,iV m.ri,.slice a0 m.args.length p0,iV g.op,iV g.n,iV g.u,.string g.rn,iV g.ri,.slice a1 g.args.length p1,iV j.op,iV j.n,iV j.u,.string j.rn,iV j.ri,.slice a2 j.args.length p2] 26)
    exact h)
   have r:Hid ((w.heap.size+1)<=(wr.alloc (.cells #[iV m.op,iV m.n,iV m.u,.string m.rn,iV m.ri,.slice a0 m.args.length p0,iV g.op,iV g.n,iV g.u,.string g.rn,iV g.ri,.slice a1 g.args.length p1,iV j.op,iV j.n,iV j.u,.string j.rn,iV j.ri,.slice a2 j.args.length p2] 26)).heap.size):=yb (yr P.o.size F.o.size)
   go_wp2_with (first|(refine yj rfl 26 _ rfl w.heap.size (1) rfl [iV m.op,iV m.n,iV m.u,.string m.rn,iV m.ri,.slice a0 m.args.length p0] _ am.o qq rfl (by kernel_rfl) ?_)|(refine yj rfl 26 _ rfl w.heap.size (7) rfl [iV g.op,iV g.n,iV g.u,.string g.rn,iV g.ri,.slice a1 g.args.length p1] _ ao.o qq rfl (by kernel_rfl) ?_)|(refine yj rfl 26 _ rfl w.heap.size (13) rfl [iV j.op,iV j.n,iV j.u,.string j.rn,iV j.ri,.slice a2 j.args.length p2] _ ak.o qq rfl (by kernel_rfl) ?_)|(at_builtin;refine Be (w.heap.size+1) rfl _ _ rfl u3 rows rfl I.o (wr.heap.size) 3 3 [[iV m.op,iV m.n,iV m.u,.string m.rn,iV m.ri,.slice a0 m.args.length p0],[iV g.op,iV g.n,iV g.u,.string g.rn,iV g.ri,.slice a1 g.args.length p1],[iV j.op,iV j.n,iV j.u,.string j.rn,iV j.ri,.slice a2 j.args.length p2]] #[iV m.op,iV m.n,iV m.u,.string m.rn,iV m.ri,.slice a0 m.args.length p0,iV g.op,iV g.n,iV g.u,.string g.rn,iV g.ri,.slice a1 g.args.length p1,iV j.op,iV j.n,iV j.u,.string j.rn,iV j.ri,.slice a2 j.args.length p2] rfl rfl K.o rfl (by simp[Value.oneCell']) rfl J.o r.o ?_;intro ax n5 c5 w5 y C;have ad:=yb y;have ab:=yb (DS a8.o r.o I.o C);have ac:Hid ((w.heap.size+1)<=w5.heap.size):=yb (yr r.o C.size);have aq:=yb C;clear y C))
   have V:Hid (Je (w.heap.size+1) N w0 (Iq x++(x.crops.take 0).flatMap (fun d=> [d.need])) w5 (.slice ax n5 c5)):=yb ⟨ab.o,ac.o,_,ad.o,by
    rw[zG,zL,zn,bz.o]
    exact O.o.append ⟨an.o,al.o,aj.o,trivial⟩⟩
   clear hf Z H P ad ab ac aq O M J K r a8 I F
   go_loopw [3,5] (fun v3 iv wr=>∃i:Nat,i<=L.crops.n∧iv=iV i∧Hid (Je (w.heap.size+1) N w0 (Iq x++(x.crops.take i).flatMap (fun d=> [d.need])) wr v3)) (fun _ iv _=>L.crops.n - (intOf iv).toNat)
   case atStart=>exact ⟨0,yz _,rfl,V⟩
   case round=>
    clear V
    obtain ⟨i,hi,rfl,H⟩:=hrel
    have hf:wr.cell? (aV w.heap.size 20)=some (.slice L.crops.a L.crops.n L.crops.c):=b3.o wr H.o.below 20 _ b9.o.crops
    have ar:L.crops.n<=140737488355328:=be.o.crops.1
    by_cases ag:i < L.crops.n
    ·have U:i < x.crops.length:=by rw[<-af.o.crops];exact ag
     have Z:(i:Int) < (L.crops.n:Int):=by omega
     obtain ⟨b,o,he,Y,c,X,aa⟩:=bw.o.crops i U
     rw[he] at hf
     have t:Hid (Iq x++(x.crops.take (i+1)).flatMap (fun d=> [d.need])=(Iq x++(x.crops.take i).flatMap (fun d=> [d.need]))++[x.crops[i].need]):=yb (by rw[BF U,yl])
     have ae:(Iq x++(x.crops.take i).flatMap (fun d=> [d.need])).length<=20000:=by
      have h1:=Cf (l:=x.crops) (f:=(fun d=> [d.need])) (c:=1) (i:=i) (fun _ _=>by simp)
      have h2:=b4.o.t2;have h3:=au.o.crops
      rw[ym]
      skip
      omega
     generalize x.crops[i].need=E at aa t
     have bh:=yb aa
     obtain ⟨a',p',rfl,_⟩:=aa.cells
     have bd:=yb (A2 X ((ay.o wr H.o.below) b Y))
     obtain ⟨rows,G,A⟩:=H.o.own
     have M:=yb G;have O:=yb A
     have J:Hid (rows.length+1<=1000000000):=yb (by rw[A.length];omega)
     clear X aa he G A ae Y
     have F:Hid (Below wr.heap.size wr (wr.alloc (.cells #[iV E.op,iV E.n,iV E.u,.string E.rn,iV E.ri,.slice a' E.args.length p'] 26))):=yb ((yg _ _).alloc (ye _) _)
     have I:=yb (M.o.up F.o)
     have a8:=yb (H.o.below.trans (F.o.mono H.o.size))
     have K:Hid ((wr.alloc (.cells #[iV E.op,iV E.n,iV E.u,.string E.rn,iV E.ri,.slice a' E.args.length p'] 26)).heap[wr.heap.size]?=some (.cells #[iV E.op,iV E.n,iV E.u,.string E.rn,iV E.ri,.slice a' E.args.length p'] 26 (0,0))):=yb (by
      have h:=World.alloc_heap_new wr (.cells #[iV E.op,iV E.n,iV E.u,.string E.rn,iV E.ri,.slice a' E.args.length p'] 26)
      exact h)
     have r:Hid ((w.heap.size+1)<=(wr.alloc (.cells #[iV E.op,iV E.n,iV E.u,.string E.rn,iV E.ri,.slice a' E.args.length p'] 26)).heap.size):=yb (yr H.o.size F.o.size)
     go_wp2_with (first|(refine yj rfl 26 _ rfl b (o+i*7+1) rfl [iV E.op,iV E.n,iV E.u,.string E.rn,iV E.ri,.slice a' E.args.length p'] _ bd.o qq rfl (by kernel_rfl) ?_)|(at_builtin;refine Be (w.heap.size+1) rfl _ _ rfl u3 rows rfl I.o (wr.heap.size) 1 1 [[iV E.op,iV E.n,iV E.u,.string E.rn,iV E.ri,.slice a' E.args.length p']] #[iV E.op,iV E.n,iV E.u,.string E.rn,iV E.ri,.slice a' E.args.length p'] rfl rfl K.o rfl (by simp[Value.oneCell']) rfl J.o r.o ?_;intro ax n5 c5 w5 y C;have ad:=yb y;have ab:=yb (DS a8.o r.o I.o C);have ac:Hid ((w.heap.size+1)<=w5.heap.size):=yb (yr r.o C.size);have aq:=yb C;clear y C))
     exact ⟨⟨i+1,by omega,by push_cast;rfl,yb ⟨ab.o,ac.o,_,ad.o,by rw[t.o];exact O.o.append ⟨bh.o,trivial⟩⟩⟩,by simp[intOf];omega⟩
    ·obtain rfl:i=L.crops.n:=by omega
     have Z:decide ((L.crops.n:Int) < (L.crops.n:Int))=false:=by simp
     have P:Hid (Je (w.heap.size+1) N w0 (Iq x++x.crops.flatMap (fun d=> [d.need])) wr u3):=yb (by
      have h:=H.o
      rw[af.o.crops,yw] at h
      exact h)
     go_wp2
     obtain ⟨d8,rfl⟩:∃z:World,z=wr:=⟨_,rfl⟩
     obtain ⟨d6,rfl⟩:∃z:Value,z=u3:=⟨_,rfl⟩
     have V:Hid (Je (w.heap.size+1) N w0 (IV x++(x.reaches.take 0).flatMap Ee) d8 d6):=yb (by
      rw[zG,zL,zn];exact P.o)
     clear hf Z H P
     go_loopw [3,6] (fun v3 iv wr=>∃i:Nat,i<=L.reaches.n∧iv=iV i∧Hid (Je (w.heap.size+1) N w0 (IV x++(x.reaches.take i).flatMap Ee) wr v3)) (fun _ iv _=>L.reaches.n - (intOf iv).toNat)
     case atStart=>exact ⟨0,yz _,rfl,V⟩
     case round=>
      clear V
      obtain ⟨i,hi,rfl,H⟩:=hrel
      have hf:wr.cell? (aV w.heap.size 21)=some (.slice L.reaches.a L.reaches.n L.reaches.c):=b3.o wr H.o.below 21 _ b9.o.reaches
      have ar:L.reaches.n<=140737488355328:=be.o.reaches.1
      by_cases ag:i < L.reaches.n
      ·have U:i < x.reaches.length:=by rw[<-af.o.reaches];exact ag
       have Z:(i:Int) < (L.reaches.n:Int):=by omega
       obtain ⟨b,o,R,he,Y,ap,X,hv⟩:=bp.o.reaches.2.2 i U
       rw[he] at hf
       have t:Hid (IV x++(x.reaches.take (i+1)).flatMap Ee=(IV x++(x.reaches.take i).flatMap Ee)++[x.reaches[i].delay,x.reaches[i].cap,x.reaches[i].bank,x.reaches[i].siphon,x.reaches[i].evap0,x.reaches[i].evap1,x.reaches[i].seep0,x.reaches[i].seep1]):=yb (by rw[BF U,yl];rfl)
       have ae:(IV x++(x.reaches.take i).flatMap Ee).length<=20000:=by
        have h1:=Cf (l:=x.reaches) (f:=Ee) (c:=8) (i:=i) (fun _ _=>by simp[Ee])
        have h2:=b4.o.t3;have h3:=au.o.reaches
        rw[ym]
        omega
       have b5:=yb (A2 X ((ay.o wr H.o.below) b Y))
       have ai:=yb (yU (II _ _ hv))
       have b7:Hid ((Try.prog.info? 51).map (·.size)=some R.length):=yb (by rw[ap];kernel_rfl)
       have az:Hid ((Try.prog.info? 51).map (·.size)=some R.toArray.size):=yb (by rw[yB];exact b7.o)
       have bq:=yb ap
       have b8:(wr.alloc (.cells R.toArray 51)).rangeAt wr.heap.size 0 R:=by
        have:=yR (World.alloc_heap_new wr (.cells R.toArray 51)) 0 R.length
        simpa using this
       obtain ⟨⟨C0,r0,k0⟩,⟨C1,r1,k1⟩,⟨C2,r2,k2⟩,⟨C3,r3,k3⟩,⟨C4,r4,k4⟩,⟨C5,r5,k5⟩,⟨C6,r6,k6⟩,⟨C7,r7,k7⟩⟩:=NJ b8 hv
       generalize x.reaches[i].delay=m at k0 t
       generalize x.reaches[i].cap=g at k1 t
       generalize x.reaches[i].bank=j at k2 t
       generalize x.reaches[i].siphon=s at k3 t
       generalize x.reaches[i].evap0=B at k4 t
       generalize x.reaches[i].evap1=Q at k5 t
       generalize x.reaches[i].seep0=S at k6 t
       generalize x.reaches[i].seep1=T at k7 t
       have an:=yb k0
       have al:=yb k1
       have aj:=yb k2
       have bb:=yb k3
       have bk:=yb k4
       have cx:=yb k5
       have co:=yb k6
       have cr:=yb k7
       obtain ⟨a0,p0,rfl,_⟩:=k0.cells
       obtain ⟨a1,p1,rfl,_⟩:=k1.cells
       obtain ⟨a2,p2,rfl,_⟩:=k2.cells
       obtain ⟨a3,p3,rfl,_⟩:=k3.cells
       obtain ⟨a4,p4,rfl,_⟩:=k4.cells
       obtain ⟨a5,p5,rfl,_⟩:=k5.cells
       obtain ⟨a6,p6,rfl,_⟩:=k6.cells
       obtain ⟨a7,p7,rfl,_⟩:=k7.cells
       have am:=yb r0
       have ao:=yb r1
       have ak:=yb r2
       have ba:=yb r3
       have bt:=yb r4
       have d2:=yb r5
       have cn:=yb r6
       have d0:=yb r7
       obtain ⟨rows,G,A⟩:=H.o.own
       have O:=yb A
       have J:Hid (rows.length+8<=1000000000):=yb (by rw[A.length];omega)
       have ah:Hid (Below wr.heap.size wr (wr.alloc (.cells R.toArray 51))):=yb ((yg _ _).alloc (ye _) _)
       have M:=yb (G.up ah.o)
       have bj:=yb (H.o.below.trans (ah.o.mono H.o.size))
       have aw:Hid ((w.heap.size+1)<=(wr.alloc (.cells R.toArray 51)).heap.size):=yb (yr H.o.size ah.o.size)
       clear X he G A ae Y ap hv b8 r0 r1 r2 r3 r4 r5 r6 r7
       have F:Hid (Below (wr.alloc (.cells R.toArray 51)).heap.size (wr.alloc (.cells R.toArray 51)) ((wr.alloc (.cells R.toArray 51)).alloc (.cells #[iV m.op,iV m.n,iV m.u,.string m.rn,iV m.ri,.slice a0 m.args.length p0,iV g.op,iV g.n,iV g.u,.string g.rn,iV g.ri,.slice a1 g.args.length p1,iV j.op,iV j.n,iV j.u,.string j.rn,iV j.ri,.slice a2 j.args.length p2,iV s.op,iV s.n,iV s.u,.string s.rn,iV s.ri,.slice a3 s.args.length p3,iV B.op,iV B.n,iV B.u,.string B.rn,iV B.ri,.slice a4 B.args.length p4,iV Q.op,iV Q.n,iV Q.u,.string Q.rn,iV Q.ri,.slice a5 Q.args.length p5,iV S.op,iV S.n,iV S.u,.string S.rn,iV S.ri,.slice a6 S.args.length p6,iV T.op,iV T.n,iV T.u,.string T.rn,iV T.ri,.slice a7 T.args.length p7] 26))):=yb ((yg _ _).alloc (ye _) _)
       have I:=yb (M.o.up F.o)
       have a8:=yb (bj.o.trans (F.o.mono aw.o))
       have K:Hid (((wr.alloc (.cells R.toArray 51)).alloc (.cells #[iV m.op,iV m.n,iV m.u,.string m.rn,iV m.ri,.slice a0 m.args.length p0,iV g.op,iV g.n,iV g.u,.string g.rn,iV g.ri,.slice a1 g.args.length p1,iV j.op,iV j.n,iV j.u,.string j.rn,iV j.ri,.slice a2 j.args.length p2,iV s.op,iV s.n,iV s.u,.string s.rn,iV s.ri,.slice a3 s.args.length p3,iV B.op,iV B.n,iV B.u,.string B.rn,iV B.ri,.slice a4 B.args.length p4,iV Q.op,iV Q.n,iV Q.u,.string Q.rn,iV Q.ri,.slice a5 Q.args.length p5,iV S.op,iV S.n,iV S.u,.string S.rn,iV S.ri,.slice a6 S.args.length p6,iV T.op,iV T.n,iV T.u,.string T.rn,iV T.ri,.slice a7 T.args.length p7] 26)).heap[wr.heap.size+1]?=some (.cells #[iV m.op,iV m.n,iV m.u,.string m.rn,iV m.ri,.slice a0 m.args.length p0,iV g.op,iV g.n,iV g.u,.string g.rn,iV g.ri,.slice a1 g.args.length p1,iV j.op,iV j.n,iV j.u,.string j.rn,iV j.ri,.slice a2 j.args.length p2,iV s.op,iV s.n,iV s.u,.string s.rn,iV s.ri,.slice a3 s.args.length p3,iV B.op,iV B.n,iV B.u,.string B.rn,iV B.ri,.slice a4 B.args.length p4,iV Q.op,iV Q.n,iV Q.u,.string Q.rn,iV Q.ri,.slice a5 Q.args.length p5,iV S.op,iV S.n,iV S.u,.string S.rn,iV S.ri,.slice a6 S.args.length p6,iV T.op,iV T.n,iV T.u,.string T.rn,iV T.ri,.slice a7 T.args.length p7] 26 (0,0))):=yb (by
        have h:=World.alloc_heap_new (wr.alloc (.cells R.toArray 51)) (.cells #[iV m.op,iV m.n,iV m.u,.string m.rn,iV m.ri,.slice a0 m.args.length p0,iV g.op,iV g.n,iV g.u,.string g.rn,iV g.ri,.slice a1 g.args.length p1,iV j.op,iV j.n,iV j.u,.string j.rn,iV j.ri,.slice a2 j.args.length p2,iV s.op,iV s.n,iV s.u,.string s.rn,iV s.ri,.slice a3 s.args.length p3,iV B.op,iV B.n,iV B.u,.string B.rn,iV B.ri,.slice a4 B.args.length p4,iV Q.op,iV Q.n,iV Q.u,.string Q.rn,iV Q.ri,.slice a5 Q.args.length p5,iV S.op,iV S.n,iV S.u,.string S.rn,iV S.ri,.slice a6 S.args.length p6,iV T.op,iV T.n,iV T.u,.string T.rn,iV T.ri,.slice a7 T.args.length p7] 26)
        rw[zv] at h;exact h)
       have r:Hid ((w.heap.size+1)<=((wr.alloc (.cells R.toArray 51)).alloc (.cells #[iV m.op,iV m.n,iV m.u,.string m.rn,iV m.ri,.slice a0 m.args.length p0,iV g.op,iV g.n,iV g.u,.string g.rn,iV g.ri,.slice a1 g.args.length p1,iV j.op,iV j.n,iV j.u,.string j.rn,iV j.ri,.slice a2 j.args.length p2,iV s.op,iV s.n,iV s.u,.string s.rn,iV s.ri,.slice a3 s.args.length p3,iV B.op,iV B.n,iV B.u,.string B.rn,iV B.ri,.slice a4 B.args.length p4,iV Q.op,iV Q.n,iV Q.u,.string Q.rn,iV Q.ri,.slice a5 Q.args.length p5,iV S.op,iV S.n,iV S.u,.string S.rn,iV S.ri,.slice a6 S.args.length p6,iV T.op,iV T.n,iV T.u,.string T.rn,iV T.ri,.slice a7 T.args.length p7] 26)).heap.size):=yb (yr aw.o F.o.size)
       go_wp2_with (first|(refine yj rfl 51 _ rfl b (o+i*51) rfl R _ b5.o qG rfl b7.o ?_)|(refine yX rfl 51 _ _ rfl wr.heap.size R.toArray rfl rfl 51 _ (World.alloc_heap_new _ _) az.o (by simp[bq.o]) ai.o ?_;rw[World.setRow_alloc_new])|(refine yj rfl 26 _ rfl wr.heap.size (3) rfl [iV m.op,iV m.n,iV m.u,.string m.rn,iV m.ri,.slice a0 m.args.length p0] _ am.o qq rfl (by kernel_rfl) ?_)|(refine yj rfl 26 _ rfl wr.heap.size (9) rfl [iV g.op,iV g.n,iV g.u,.string g.rn,iV g.ri,.slice a1 g.args.length p1] _ ao.o qq rfl (by kernel_rfl) ?_)|(refine yj rfl 26 _ rfl wr.heap.size (15) rfl [iV j.op,iV j.n,iV j.u,.string j.rn,iV j.ri,.slice a2 j.args.length p2] _ ak.o qq rfl (by kernel_rfl) ?_)|(refine yj rfl 26 _ rfl wr.heap.size (21) rfl [iV s.op,iV s.n,iV s.u,.string s.rn,iV s.ri,.slice a3 s.args.length p3] _ ba.o qq rfl (by kernel_rfl) ?_)|(refine yj rfl 26 _ rfl wr.heap.size (27) rfl [iV B.op,iV B.n,iV B.u,.string B.rn,iV B.ri,.slice a4 B.args.length p4] _ bt.o qq rfl (by kernel_rfl) ?_)|(refine yj rfl 26 _ rfl wr.heap.size (33) rfl [iV Q.op,iV Q.n,iV Q.u,.string Q.rn,iV Q.ri,.slice a5 Q.args.length p5] _ d2.o qq rfl (by kernel_rfl) ?_)|(refine yj rfl 26 _ rfl wr.heap.size (39) rfl [iV S.op,iV S.n,iV S.u,.string S.rn,iV S.ri,.slice a6 S.args.length p6] _ cn.o qq rfl (by kernel_rfl) ?_)|(refine yj rfl 26 _ rfl wr.heap.size (45) rfl [iV T.op,iV T.n,iV T.u,.string T.rn,iV T.ri,.slice a7 T.args.length p7] _ d0.o qq rfl (by kernel_rfl) ?_)|(at_builtin;refine Be (w.heap.size+1) rfl _ _ rfl u3 rows rfl I.o (wr.heap.size+1) 8 8 [[iV m.op,iV m.n,iV m.u,.string m.rn,iV m.ri,.slice a0 m.args.length p0],[iV g.op,iV g.n,iV g.u,.string g.rn,iV g.ri,.slice a1 g.args.length p1],[iV j.op,iV j.n,iV j.u,.string j.rn,iV j.ri,.slice a2 j.args.length p2],[iV s.op,iV s.n,iV s.u,.string s.rn,iV s.ri,.slice a3 s.args.length p3],[iV B.op,iV B.n,iV B.u,.string B.rn,iV B.ri,.slice a4 B.args.length p4],[iV Q.op,iV Q.n,iV Q.u,.string Q.rn,iV Q.ri,.slice a5 Q.args.length p5],[iV S.op,iV S.n,iV S.u,.string S.rn,iV S.ri,.slice a6 S.args.length p6],[iV T.op,iV T.n,iV T.u,.string T.rn,iV T.ri,.slice a7 T.args.length p7]] #[iV m.op,iV m.n,iV m.u,.string m.rn,iV m.ri,.slice a0 m.args.length p0,iV g.op,iV g.n,iV g.u,.string g.rn,iV g.ri,.slice a1 g.args.length p1,iV j.op,iV j.n,iV j.u,.string j.rn,iV j.ri,.slice a2 j.args.length p2,iV s.op,iV s.n,iV s.u,.string s.rn,iV s.ri,.slice a3 s.args.length p3,iV B.op,iV B.n,iV B.u,.string B.rn,iV B.ri,.slice a4 B.args.length p4,iV Q.op,iV Q.n,iV Q.u,.string Q.rn,iV Q.ri,.slice a5 Q.args.length p5,iV S.op,iV S.n,iV S.u,.string S.rn,iV S.ri,.slice a6 S.args.length p6,iV T.op,iV T.n,iV T.u,.string T.rn,iV T.ri,.slice a7 T.args.length p7] rfl rfl K.o rfl (by simp[Value.oneCell']) rfl J.o r.o ?_;intro ax n5 c5 w5 y C;have ad:=yb y;have ab:=yb (DS a8.o r.o I.o C);have ac:Hid ((w.heap.size+1)<=w5.heap.size):=yb (yr r.o C.size);have aq:=yb C;clear y C))
       exact ⟨⟨i+1,by omega,by push_cast;rfl,yb ⟨ab.o,ac.o,_,ad.o,by rw[t.o];exact O.o.append ⟨an.o,al.o,aj.o,bb.o,bk.o,cx.o,co.o,cr.o,trivial⟩⟩⟩,by simp[intOf];omega⟩
      ·obtain rfl:i=L.reaches.n:=by omega
       have Z:decide ((L.reaches.n:Int) < (L.reaches.n:Int))=false:=by simp
       have P:Hid (Je (w.heap.size+1) N w0 (IV x++x.reaches.flatMap Ee) wr u3):=yb (by
        have h:=H.o
        rw[af.o.reaches,yw] at h
        exact h)
       go_wp2
       obtain ⟨df,rfl⟩:∃z:World,z=wr:=⟨_,rfl⟩
       obtain ⟨dm,rfl⟩:∃z:Value,z=u3:=⟨_,rfl⟩
       have V:Hid (Je (w.heap.size+1) N w0 (IW x++(x.farms.take 0).flatMap (fun d=> [d.area])) df dm):=yb (by
        rw[zG,zL,zn];exact P.o)
       clear hf Z H P
       go_loopw [3,8] (fun v3 iv wr=>∃i:Nat,i<=L.farms.n∧iv=iV i∧Hid (Je (w.heap.size+1) N w0 (IW x++(x.farms.take i).flatMap (fun d=> [d.area])) wr v3)) (fun _ iv _=>L.farms.n - (intOf iv).toNat)
       case atStart=>exact ⟨0,yz _,rfl,V⟩
       case round=>
        clear V
        obtain ⟨i,hi,rfl,H⟩:=hrel
        have hf:wr.cell? (aV w.heap.size 22)=some (.slice L.farms.a L.farms.n L.farms.c):=b3.o wr H.o.below 22 _ b9.o.farms
        have ar:L.farms.n<=140737488355328:=be.o.farms.1
        by_cases ag:i < L.farms.n
        ·have U:i < x.farms.length:=by rw[<-af.o.farms];exact ag
         have Z:(i:Int) < (L.farms.n:Int):=by omega
         obtain ⟨b,o,he,Y,c,X,aa⟩:=bw.o.farms i U
         rw[he] at hf
         have t:Hid (IW x++(x.farms.take (i+1)).flatMap (fun d=> [d.area])=(IW x++(x.farms.take i).flatMap (fun d=> [d.area]))++[x.farms[i].area]):=yb (by rw[BF U,yl])
         have ae:(IW x++(x.farms.take i).flatMap (fun d=> [d.area])).length<=20000:=by
          have h1:=Cf (l:=x.farms) (f:=(fun d=> [d.area])) (c:=1) (i:=i) (fun _ _=>by simp)
          have h2:=b4.o.t4;have h3:=au.o.farms
          rw[ym]
          skip
          omega
         generalize x.farms[i].area=E at aa t
         have bh:=yb aa
         obtain ⟨a',p',rfl,_⟩:=aa.cells
         have bd:=yb (A2 X ((ay.o wr H.o.below) b Y))
         obtain ⟨rows,G,A⟩:=H.o.own
         have M:=yb G;have O:=yb A
         have J:Hid (rows.length+1<=1000000000):=yb (by rw[A.length];omega)
         clear X aa he G A ae Y
         have F:Hid (Below wr.heap.size wr (wr.alloc (.cells #[iV E.op,iV E.n,iV E.u,.string E.rn,iV E.ri,.slice a' E.args.length p'] 26))):=yb ((yg _ _).alloc (ye _) _)
         have I:=yb (M.o.up F.o)
         have a8:=yb (H.o.below.trans (F.o.mono H.o.size))
         have K:Hid ((wr.alloc (.cells #[iV E.op,iV E.n,iV E.u,.string E.rn,iV E.ri,.slice a' E.args.length p'] 26)).heap[wr.heap.size]?=some (.cells #[iV E.op,iV E.n,iV E.u,.string E.rn,iV E.ri,.slice a' E.args.length p'] 26 (0,0))):=yb (by
          have h:=World.alloc_heap_new wr (.cells #[iV E.op,iV E.n,iV E.u,.string E.rn,iV E.ri,.slice a' E.args.length p'] 26)
          exact h)
         have r:Hid ((w.heap.size+1)<=(wr.alloc (.cells #[iV E.op,iV E.n,iV E.u,.string E.rn,iV E.ri,.slice a' E.args.length p'] 26)).heap.size):=yb (yr H.o.size F.o.size)
         go_wp2_with (first|(refine yj rfl 26 _ rfl b (o+i*12+4) rfl [iV E.op,iV E.n,iV E.u,.string E.rn,iV E.ri,.slice a' E.args.length p'] _ bd.o qq rfl (by kernel_rfl) ?_)|(at_builtin;refine Be (w.heap.size+1) rfl _ _ rfl u3 rows rfl I.o (wr.heap.size) 1 1 [[iV E.op,iV E.n,iV E.u,.string E.rn,iV E.ri,.slice a' E.args.length p']] #[iV E.op,iV E.n,iV E.u,.string E.rn,iV E.ri,.slice a' E.args.length p'] rfl rfl K.o rfl (by simp[Value.oneCell']) rfl J.o r.o ?_;intro ax n5 c5 w5 y C;have ad:=yb y;have ab:=yb (DS a8.o r.o I.o C);have ac:Hid ((w.heap.size+1)<=w5.heap.size):=yb (yr r.o C.size);have aq:=yb C;clear y C))
         exact ⟨⟨i+1,by omega,by push_cast;rfl,yb ⟨ab.o,ac.o,_,ad.o,by rw[t.o];exact O.o.append ⟨bh.o,trivial⟩⟩⟩,by simp[intOf];omega⟩
        ·obtain rfl:i=L.farms.n:=by omega
         have Z:decide ((L.farms.n:Int) < (L.farms.n:Int))=false:=by simp
         have P:Hid (Je (w.heap.size+1) N w0 (IW x++x.farms.flatMap (fun d=> [d.area])) wr u3):=yb (by
          have h:=H.o
          rw[af.o.farms,yw] at h
          exact h)
         go_wp2
         obtain ⟨dd,rfl⟩:∃z:World,z=wr:=⟨_,rfl⟩
         obtain ⟨dj,rfl⟩:∃z:Value,z=u3:=⟨_,rfl⟩
         have V:Hid (Je (w.heap.size+1) N w0 (GG x++(x.rots.take 0).flatMap GD) dd dj):=yb (by
          rw[zG,zL,zn];exact P.o)
         clear hf Z H P
         go_loopw [3,9] (fun v3 iv wr=>∃i:Nat,i<=L.rots.n∧iv=iV i∧Hid (Je (w.heap.size+1) N w0 (GG x++(x.rots.take i).flatMap GD) wr v3)) (fun _ iv _=>L.rots.n - (intOf iv).toNat)
         case atStart=>exact ⟨0,yz _,rfl,V⟩
         case round=>
          clear V
          obtain ⟨i,hi,rfl,H⟩:=hrel
          have hf:wr.cell? (aV w.heap.size 23)=some (.slice L.rots.a L.rots.n L.rots.c):=b3.o wr H.o.below 23 _ b9.o.rots
          have ar:L.rots.n<=140737488355328:=be.o.rots.1
          by_cases ag:i < L.rots.n
          ·have U:i < x.rots.length:=by rw[<-af.o.rots];exact ag
           have Z:(i:Int) < (L.rots.n:Int):=by omega
           obtain ⟨b,o,R,he,Y,ap,X,hv⟩:=bp.o.rots.2.2 i U
           rw[he] at hf
           have t:Hid (GG x++(x.rots.take (i+1)).flatMap GD=(GG x++(x.rots.take i).flatMap GD)++([x.rots[i].flow,x.rots[i].frm,x.rots[i].to]++x.rots[i].turns.flatMap (fun k:Bt=> [k.len]))):=yb (by rw[BF U,yl];rfl)
           have ae:(GG x++(x.rots.take i).flatMap GD).length<=20000:=by
            have h1:=Cf (l:=x.rots) (f:=GD) (c:=73) (i:=i) (fun d hd=>by
             have h1:(d.turns.flatMap (fun k:Bt=> [k.len])).length<=d.turns.length*1:=AH fun _ _=>by simp
             have:=au.o.turns d hd
             simp only[GD,ym,yE,yI];omega)
            have h2:=b4.o.t5;have h3:=au.o.rots
            rw[ym]
            omega
           have c9:x.rots[i].turns.length<=70:=au.o.turns _ (yy U)
           have b5:=yb (A2 X ((ay.o wr H.o.below) b Y))
           have ai:=yb (yU (Ii hv))
           have b7:Hid ((Try.prog.info? 64).map (·.size)=some R.length):=yb (by rw[ap];kernel_rfl)
           have az:Hid ((Try.prog.info? 64).map (·.size)=some R.toArray.size):=yb (by rw[yB];exact b7.o)
           have bq:=yb ap
           have b8:(wr.alloc (.cells R.toArray 64)).rangeAt wr.heap.size 0 R:=by
            have:=yR (World.alloc_heap_new wr (.cells R.toArray 64)) 0 R.length
            simpa using this
           obtain ⟨⟨C0,r0,k0⟩,⟨C1,r1,k1⟩,⟨C2,r2,k2⟩,cp,bv⟩:=Qn b8 hv
           have da:=yb cp
           have c3:=yb bv
           have dr:(A4 L i).n<=140737488355328:=by rw[bv.1];exact bv.2.1
           generalize x.rots[i].flow=m at k0 t
           generalize x.rots[i].frm=g at k1 t
           generalize x.rots[i].to=j at k2 t
           generalize x.rots[i].turns=D at c3 c9 t
           have an:=yb k0;have al:=yb k1;have aj:=yb k2
           obtain ⟨a0,p0,rfl,_⟩:=k0.cells
           obtain ⟨a1,p1,rfl,_⟩:=k1.cells
           obtain ⟨a2,p2,rfl,_⟩:=k2.cells
           have am:=yb r0;have ao:=yb r1;have ak:=yb r2
           obtain ⟨rows,G,A⟩:=H.o.own
           have O:=yb A
           have J:Hid (rows.length+3<=1000000000):=yb (by rw[A.length];omega)
           have ah:Hid (Below wr.heap.size wr (wr.alloc (.cells R.toArray 64))):=yb ((yg _ _).alloc (ye _) _)
           have M:=yb (G.up ah.o)
           have bj:=yb (H.o.below.trans (ah.o.mono H.o.size))
           have aw:Hid ((w.heap.size+1)<=(wr.alloc (.cells R.toArray 64)).heap.size):=yb (yr H.o.size ah.o.size)
           have bo:Hid ((wr.alloc (.cells R.toArray 64)).heap[wr.heap.size]?=some (.cells R.toArray 64 (0,0))):=yb (World.alloc_heap_new _ _)
           have dc:=yb c9;have cv:=yb ae
           clear X he G A ae Y ap hv b8 r0 r1 r2 cp bv c9
           obtain ⟨gb,ch⟩:∃gb,gb=wr.heap.size:=⟨_,rfl⟩
           have dt:=yb ch
           clear ch
           have F:Hid (Below (wr.alloc (.cells R.toArray 64)).heap.size (wr.alloc (.cells R.toArray 64)) ((wr.alloc (.cells R.toArray 64)).alloc (.cells #[iV m.op,iV m.n,iV m.u,.string m.rn,iV m.ri,.slice a0 m.args.length p0,iV g.op,iV g.n,iV g.u,.string g.rn,iV g.ri,.slice a1 g.args.length p1,iV j.op,iV j.n,iV j.u,.string j.rn,iV j.ri,.slice a2 j.args.length p2] 26))):=yb ((yg _ _).alloc (ye _) _)
           have I:=yb (M.o.up F.o)
           have a8:=yb (bj.o.trans (F.o.mono aw.o))
           have K:Hid (((wr.alloc (.cells R.toArray 64)).alloc (.cells #[iV m.op,iV m.n,iV m.u,.string m.rn,iV m.ri,.slice a0 m.args.length p0,iV g.op,iV g.n,iV g.u,.string g.rn,iV g.ri,.slice a1 g.args.length p1,iV j.op,iV j.n,iV j.u,.string j.rn,iV j.ri,.slice a2 j.args.length p2] 26)).heap[wr.heap.size+1]?=some (.cells #[iV m.op,iV m.n,iV m.u,.string m.rn,iV m.ri,.slice a0 m.args.length p0,iV g.op,iV g.n,iV g.u,.string g.rn,iV g.ri,.slice a1 g.args.length p1,iV j.op,iV j.n,iV j.u,.string j.rn,iV j.ri,.slice a2 j.args.length p2] 26 (0,0))):=yb (by
            have h:=World.alloc_heap_new (wr.alloc (.cells R.toArray 64)) (.cells #[iV m.op,iV m.n,iV m.u,.string m.rn,iV m.ri,.slice a0 m.args.length p0,iV g.op,iV g.n,iV g.u,.string g.rn,iV g.ri,.slice a1 g.args.length p1,iV j.op,iV j.n,iV j.u,.string j.rn,iV j.ri,.slice a2 j.args.length p2] 26)
            rw[zv] at h;exact h)
           have r:Hid ((w.heap.size+1)<=((wr.alloc (.cells R.toArray 64)).alloc (.cells #[iV m.op,iV m.n,iV m.u,.string m.rn,iV m.ri,.slice a0 m.args.length p0,iV g.op,iV g.n,iV g.u,.string g.rn,iV g.ri,.slice a1 g.args.length p1,iV j.op,iV j.n,iV j.u,.string j.rn,iV j.ri,.slice a2 j.args.length p2] 26)).heap.size):=yb (yr aw.o F.o.size)
           go_wp2_with (first|(refine yj rfl 64 _ rfl b (o+i*23) rfl R _ b5.o qL rfl b7.o ?_)|(refine yX rfl 64 _ _ rfl wr.heap.size R.toArray rfl rfl 64 _ (World.alloc_heap_new _ _) az.o (by simp[bq.o]) ai.o ?_;rw[World.setRow_alloc_new])|(refine yj rfl 26 _ rfl wr.heap.size (4) rfl [iV m.op,iV m.n,iV m.u,.string m.rn,iV m.ri,.slice a0 m.args.length p0] _ am.o qq rfl (by kernel_rfl) ?_)|(refine yj rfl 26 _ rfl wr.heap.size (10) rfl [iV g.op,iV g.n,iV g.u,.string g.rn,iV g.ri,.slice a1 g.args.length p1] _ ao.o qq rfl (by kernel_rfl) ?_)|(refine yj rfl 26 _ rfl wr.heap.size (16) rfl [iV j.op,iV j.n,iV j.u,.string j.rn,iV j.ri,.slice a2 j.args.length p2] _ ak.o qq rfl (by kernel_rfl) ?_)|(at_builtin;refine Be (w.heap.size+1) rfl _ _ rfl u3 rows rfl I.o (wr.heap.size+1) 3 3 [[iV m.op,iV m.n,iV m.u,.string m.rn,iV m.ri,.slice a0 m.args.length p0],[iV g.op,iV g.n,iV g.u,.string g.rn,iV g.ri,.slice a1 g.args.length p1],[iV j.op,iV j.n,iV j.u,.string j.rn,iV j.ri,.slice a2 j.args.length p2]] #[iV m.op,iV m.n,iV m.u,.string m.rn,iV m.ri,.slice a0 m.args.length p0,iV g.op,iV g.n,iV g.u,.string g.rn,iV g.ri,.slice a1 g.args.length p1,iV j.op,iV j.n,iV j.u,.string j.rn,iV j.ri,.slice a2 j.args.length p2] rfl rfl K.o rfl (by simp[Value.oneCell']) rfl J.o r.o ?_;intro ax n5 c5 w5 y C;have ad:=yb y;have ab:=yb (DS a8.o r.o I.o C);have ac:Hid ((w.heap.size+1)<=w5.heap.size):=yb (yr r.o C.size);have aq:=yb C;clear y C))
           have av:Hid (w5.heap[wr.heap.size]?=some (.cells R.toArray 64 (0,0))):=yb (by
            have e1:((wr.alloc (.cells R.toArray 64)).alloc (.cells #[iV m.op,iV m.n,iV m.u,.string m.rn,iV m.ri,.slice a0 m.args.length p0,iV g.op,iV g.n,iV g.u,.string g.rn,iV g.ri,.slice a1 g.args.length p1,iV j.op,iV j.n,iV j.u,.string j.rn,iV j.ri,.slice a2 j.args.length p2] 26)).heap[wr.heap.size]?=some (.cells R.toArray 64 (0,0)):=(F.o.block _ (by simp)).trans bo.o
            exact (aq.o.block _ (yf.1 e1).1 (fun e=>RH I.o e1 (by decide) e.symm)).trans e1)
           have cw:Hid (Je (w.heap.size+1) N w0 ((GG x++(x.rots.take i).flatMap GD)++([m,g,j]++(D.take 0).flatMap (fun k:Bt=> [k.len]))) w5 (.slice ax n5 c5)):=yb ⟨ab.o,ac.o,_,ad.o,by
            rw[zG,zL,zn]
            exact O.o.append ⟨an.o,al.o,aj.o,trivial⟩⟩
           clear ad ab ac aq O M J K r a8 I F bj aw ah bo H hf
           obtain ⟨wo,rfl⟩:∃z:World,z=wr:=⟨_,rfl⟩
           obtain ⟨vo,rfl⟩:∃z:Value,z=u3:=⟨_,rfl⟩
           go_loopw [3,11] (fun v3 iv wr=>∃k:Nat,k<=(A4 L i).n∧iv=iV k∧Hid (Je (w.heap.size+1) N w0 ((GG x++(x.rots.take i).flatMap GD)++([m,g,j]++(D.take k).flatMap (fun k:Bt=> [k.len]))) wr v3)∧Hid (wr.heap[wo.heap.size]?=some (.cells R.toArray 64 (0,0)))) (fun _ iv _=>(A4 L i).n - (intOf iv).toNat)
           case atStart=>exact ⟨0,yz _,rfl,cw,av⟩
           case round=>
            clear cw av
            obtain ⟨k,hk,rfl,bi,ca⟩:=hrel
            have d5:wr.cell? (aV wo.heap.size 22)=some (.slice (A4 L i).a (A4 L i).n (A4 L i).c):=by
             simp only[World.cell?,ca.o]
             have h:=da.o
             unfold Av.v at h
             simpa using h
            by_cases dn:k < (A4 L i).n
            ·have cy:k < D.length:=by rw[<-c3.o.1];exact dn
             have di:(k:Int) < ((A4 L i).n:Int):=by omega
             obtain ⟨b2,o2,c2,d1,cq,d9,c4,ck,ct,rfl,bs⟩:=c3.o.2.2 k cy
             rw[d1] at d5
             have cu:w0.rangeAt b2 (o2+k*8+2) ct:=by
              have:=AK (p:=Ah D[k].farm) (c:=ct) (q:=[]) (by simpa using c4)
              exact this
             have c7:Hid (((GG x++(x.rots.take i).flatMap GD)++([m,g,j]++(D.take (k+1)).flatMap (fun k:Bt=> [k.len])))=((GG x++(x.rots.take i).flatMap GD)++([m,g,j]++(D.take k).flatMap (fun k:Bt=> [k.len])))++[D[k].len]):=yb (by rw[BF cy];simp only[yl])
             generalize D[k].len=s at bs c7
             have bb:=yb bs
             obtain ⟨a3,p3,rfl,_⟩:=bs.cells
             have ba:=yb (A2 cu ((ay.o wr bi.o.below) b2 cq))
             obtain ⟨bn,bu,bg⟩:=bi.o.own
             have cf:=yb bu;have c8:=yb bg
             have J:Hid (bn.length+1<=1000000000):=yb (by
              have h1:=Cf (l:=D) (f:=(fun k:Bt=> [k.len])) (c:=1) (i:=k) (fun _ _=>by simp)
              have h2:=dc.o;have h3:=cv.o
              rw[bg.length]
              simp only[ym,yE,yI] at h3 ⊢
              omega)
             clear c4 cu bu bg cq d9 ck d1
             have F:Hid (Below wr.heap.size wr (wr.alloc (.cells #[iV s.op,iV s.n,iV s.u,.string s.rn,iV s.ri,.slice a3 s.args.length p3] 26))):=yb ((yg _ _).alloc (ye _) _)
             have I:=yb (cf.o.up F.o)
             have a8:=yb (bi.o.below.trans (F.o.mono bi.o.size))
             have K:Hid ((wr.alloc (.cells #[iV s.op,iV s.n,iV s.u,.string s.rn,iV s.ri,.slice a3 s.args.length p3] 26)).heap[wr.heap.size]?=some (.cells #[iV s.op,iV s.n,iV s.u,.string s.rn,iV s.ri,.slice a3 s.args.length p3] 26 (0,0))):=yb (by
              have h:=World.alloc_heap_new wr (.cells #[iV s.op,iV s.n,iV s.u,.string s.rn,iV s.ri,.slice a3 s.args.length p3] 26)
              exact h)
             have r:Hid ((w.heap.size+1)<=(wr.alloc (.cells #[iV s.op,iV s.n,iV s.u,.string s.rn,iV s.ri,.slice a3 s.args.length p3] 26)).heap.size):=yb (yr bi.o.size F.o.size)
             go_wp2_with (first|(refine yj rfl 26 _ rfl b2 (o2+k*8+2) rfl [iV s.op,iV s.n,iV s.u,.string s.rn,iV s.ri,.slice a3 s.args.length p3] _ ba.o qq rfl (by kernel_rfl) ?_)|(at_builtin;refine Be (w.heap.size+1) rfl _ _ rfl u3 bn rfl I.o (wr.heap.size) 1 1 [[iV s.op,iV s.n,iV s.u,.string s.rn,iV s.ri,.slice a3 s.args.length p3]] #[iV s.op,iV s.n,iV s.u,.string s.rn,iV s.ri,.slice a3 s.args.length p3] rfl rfl K.o rfl (by simp[Value.oneCell']) rfl J.o r.o ?_;intro dq n6 c6 w6 y C;have db:=yb y;have d7:=yb (DS a8.o r.o I.o C);have dk:Hid ((w.heap.size+1)<=w6.heap.size):=yb (yr r.o C.size);have d3:=yb C;clear y C))
             have av:Hid (w6.heap[wo.heap.size]?=some (.cells R.toArray 64 (0,0))):=yb (by
              have e1:=(F.o.block _ (yf.1 ca.o).1).trans ca.o
              exact (d3.o.block _ (yf.1 e1).1 (fun e=>RH I.o e1 (by decide) e.symm)).trans e1)
             exact ⟨⟨k+1,by omega,by push_cast;rfl,yb ⟨d7.o,dk.o,_,db.o,by rw[c7.o];exact c8.o.append ⟨bb.o,trivial⟩⟩,av⟩,by simp[intOf];omega⟩
            ·obtain rfl:k=(A4 L i).n:=by omega
             have di:decide (((A4 L i).n:Int) < ((A4 L i).n:Int))=false:=by simp
             have ci:Hid (Je (w.heap.size+1) N w0 (GG x++(x.rots.take (i+1)).flatMap GD) wr u3):=yb (by
              rw[t.o]
              have h:=bi.o
              rw[c3.o.1,yw] at h
              exact h)
             go_wp2
             exact ⟨⟨i+1,by omega,by push_cast;rfl,ci⟩,by simp[intOf];omega⟩
          ·obtain rfl:i=L.rots.n:=by omega
           have Z:decide ((L.rots.n:Int) < (L.rots.n:Int))=false:=by simp
           have P:Hid (Je (w.heap.size+1) N w0 (GG x++x.rots.flatMap GD) wr u3):=yb (by
            have h:=H.o
            rw[af.o.rots,yw] at h
            exact h)
           go_wp2
           obtain ⟨d4,rfl⟩:∃z:World,z=wr:=⟨_,rfl⟩
           obtain ⟨dl,rfl⟩:∃z:Value,z=u3:=⟨_,rfl⟩
           have V:Hid (Je (w.heap.size+1) N w0 (IX x++(x.rights.take 0).flatMap Ef) d4 dl):=yb (by
            rw[zG,zL,zn];exact P.o)
           clear hf Z H P
           go_loopw [3,12] (fun v3 iv wr=>∃i:Nat,i<=L.rights.n∧iv=iV i∧Hid (Je (w.heap.size+1) N w0 (IX x++(x.rights.take i).flatMap Ef) wr v3)) (fun _ iv _=>L.rights.n - (intOf iv).toNat)
           case atStart=>exact ⟨0,yz _,rfl,V⟩
           case round=>
            clear V
            obtain ⟨i,hi,rfl,H⟩:=hrel
            have hf:wr.cell? (aV w.heap.size 24)=some (.slice L.rights.a L.rights.n L.rights.c):=b3.o wr H.o.below 24 _ b9.o.rights
            have ar:L.rights.n<=140737488355328:=be.o.rights.1
            by_cases ag:i < L.rights.n
            ·have U:i < x.rights.length:=by rw[<-af.o.rights];exact ag
             have Z:(i:Int) < (L.rights.n:Int):=by omega
             obtain ⟨b,o,R,he,Y,ap,X,hv⟩:=bp.o.rights.2.2 i U
             rw[he] at hf
             have t:Hid (IX x++(x.rights.take (i+1)).flatMap Ef=(IX x++(x.rights.take i).flatMap Ef)++[x.rights[i].flow,x.rights[i].frm,x.rights[i].to,x.rights[i].every,x.rights[i].len]):=yb (by rw[BF U,yl];rfl)
             have ae:(IX x++(x.rights.take i).flatMap Ef).length<=20000:=by
              have h1:=Cf (l:=x.rights) (f:=Ef) (c:=5) (i:=i) (fun _ _=>by simp[Ef])
              have h2:=b4.o.t6;have h3:=au.o.rights
              rw[ym]
              omega
             have b5:=yb (A2 X ((ay.o wr H.o.below) b Y))
             have ai:=yb (yU (IJ _ _ hv))
             have b7:Hid ((Try.prog.info? 68).map (·.size)=some R.length):=yb (by rw[ap];kernel_rfl)
             have az:Hid ((Try.prog.info? 68).map (·.size)=some R.toArray.size):=yb (by rw[yB];exact b7.o)
             have bq:=yb ap
             have b8:(wr.alloc (.cells R.toArray 68)).rangeAt wr.heap.size 0 R:=by
              have:=yR (World.alloc_heap_new wr (.cells R.toArray 68)) 0 R.length
              simpa using this
             obtain ⟨⟨C0,r0,k0⟩,⟨C1,r1,k1⟩,⟨C2,r2,k2⟩,⟨C3,r3,k3⟩,⟨C4,r4,k4⟩⟩:=NK b8 hv
             generalize x.rights[i].flow=m at k0 t
             generalize x.rights[i].frm=g at k1 t
             generalize x.rights[i].to=j at k2 t
             generalize x.rights[i].every=s at k3 t
             generalize x.rights[i].len=B at k4 t
             have an:=yb k0
             have al:=yb k1
             have aj:=yb k2
             have bb:=yb k3
             have bk:=yb k4
             obtain ⟨a0,p0,rfl,_⟩:=k0.cells
             obtain ⟨a1,p1,rfl,_⟩:=k1.cells
             obtain ⟨a2,p2,rfl,_⟩:=k2.cells
             obtain ⟨a3,p3,rfl,_⟩:=k3.cells
             obtain ⟨a4,p4,rfl,_⟩:=k4.cells
             have am:=yb r0
             have ao:=yb r1
             have ak:=yb r2
             have ba:=yb r3
             have bt:=yb r4
             obtain ⟨rows,G,A⟩:=H.o.own
             have O:=yb A
             have J:Hid (rows.length+5<=1000000000):=yb (by rw[A.length];omega)
             have ah:Hid (Below wr.heap.size wr (wr.alloc (.cells R.toArray 68))):=yb ((yg _ _).alloc (ye _) _)
             have M:=yb (G.up ah.o)
             have bj:=yb (H.o.below.trans (ah.o.mono H.o.size))
             have aw:Hid ((w.heap.size+1)<=(wr.alloc (.cells R.toArray 68)).heap.size):=yb (yr H.o.size ah.o.size)
             clear X he G A ae Y ap hv b8 r0 r1 r2 r3 r4
             have F:Hid (Below (wr.alloc (.cells R.toArray 68)).heap.size (wr.alloc (.cells R.toArray 68)) ((wr.alloc (.cells R.toArray 68)).alloc (.cells #[iV m.op,iV m.n,iV m.u,.string m.rn,iV m.ri,.slice a0 m.args.length p0,iV g.op,iV g.n,iV g.u,.string g.rn,iV g.ri,.slice a1 g.args.length p1,iV j.op,iV j.n,iV j.u,.string j.rn,iV j.ri,.slice a2 j.args.length p2,iV s.op,iV s.n,iV s.u,.string s.rn,iV s.ri,.slice a3 s.args.length p3,iV B.op,iV B.n,iV B.u,.string B.rn,iV B.ri,.slice a4 B.args.length p4] 26))):=yb ((yg _ _).alloc (ye _) _)
             have I:=yb (M.o.up F.o)
             have a8:=yb (bj.o.trans (F.o.mono aw.o))
             have K:Hid (((wr.alloc (.cells R.toArray 68)).alloc (.cells #[iV m.op,iV m.n,iV m.u,.string m.rn,iV m.ri,.slice a0 m.args.length p0,iV g.op,iV g.n,iV g.u,.string g.rn,iV g.ri,.slice a1 g.args.length p1,iV j.op,iV j.n,iV j.u,.string j.rn,iV j.ri,.slice a2 j.args.length p2,iV s.op,iV s.n,iV s.u,.string s.rn,iV s.ri,.slice a3 s.args.length p3,iV B.op,iV B.n,iV B.u,.string B.rn,iV B.ri,.slice a4 B.args.length p4] 26)).heap[wr.heap.size+1]?=some (.cells #[iV m.op,iV m.n,iV m.u,.string m.rn,iV m.ri,.slice a0 m.args.length p0,iV g.op,iV g.n,iV g.u,.string g.rn,iV g.ri,.slice a1 g.args.length p1,iV j.op,iV j.n,iV j.u,.string j.rn,iV j.ri,.slice a2 j.args.length p2,iV s.op,iV s.n,iV s.u,.string s.rn,iV s.ri,.slice a3 s.args.length p3,iV B.op,iV B.n,iV B.u,.string B.rn,iV B.ri,.slice a4 B.args.length p4] 26 (0,0))):=yb (by
              have h:=World.alloc_heap_new (wr.alloc (.cells R.toArray 68)) (.cells #[iV m.op,iV m.n,iV m.u,.string m.rn,iV m.ri,.slice a0 m.args.length p0,iV g.op,iV g.n,iV g.u,.string g.rn,iV g.ri,.slice a1 g.args.length p1,iV j.op,iV j.n,iV j.u,.string j.rn,iV j.ri,.slice a2 j.args.length p2,iV s.op,iV s.n,iV s.u,.string s.rn,iV s.ri,.slice a3 s.args.length p3,iV B.op,iV B.n,iV B.u,.string B.rn,iV B.ri,.slice a4 B.args.length p4] 26)
              rw[zv] at h;exact h)
             have r:Hid ((w.heap.size+1)<=((wr.alloc (.cells R.toArray 68)).alloc (.cells #[iV m.op,iV m.n,iV m.u,.string m.rn,iV m.ri,.slice a0 m.args.length p0,iV g.op,iV g.n,iV g.u,.string g.rn,iV g.ri,.slice a1 g.args.length p1,iV j.op,iV j.n,iV j.u,.string j.rn,iV j.ri,.slice a2 j.args.length p2,iV s.op,iV s.n,iV s.u,.string s.rn,iV s.ri,.slice a3 s.args.length p3,iV B.op,iV B.n,iV B.u,.string B.rn,iV B.ri,.slice a4 B.args.length p4] 26)).heap.size):=yb (yr aw.o F.o.size)
             go_wp2_with (first|(refine yj rfl 68 _ rfl b (o+i*37) rfl R _ b5.o qN rfl b7.o ?_)|(refine yX rfl 68 _ _ rfl wr.heap.size R.toArray rfl rfl 68 _ (World.alloc_heap_new _ _) az.o (by simp[bq.o]) ai.o ?_;rw[World.setRow_alloc_new])|(refine yj rfl 26 _ rfl wr.heap.size (7) rfl [iV m.op,iV m.n,iV m.u,.string m.rn,iV m.ri,.slice a0 m.args.length p0] _ am.o qq rfl (by kernel_rfl) ?_)|(refine yj rfl 26 _ rfl wr.heap.size (13) rfl [iV g.op,iV g.n,iV g.u,.string g.rn,iV g.ri,.slice a1 g.args.length p1] _ ao.o qq rfl (by kernel_rfl) ?_)|(refine yj rfl 26 _ rfl wr.heap.size (19) rfl [iV j.op,iV j.n,iV j.u,.string j.rn,iV j.ri,.slice a2 j.args.length p2] _ ak.o qq rfl (by kernel_rfl) ?_)|(refine yj rfl 26 _ rfl wr.heap.size (25) rfl [iV s.op,iV s.n,iV s.u,.string s.rn,iV s.ri,.slice a3 s.args.length p3] _ ba.o qq rfl (by kernel_rfl) ?_)|(refine yj rfl 26 _ rfl wr.heap.size (31) rfl [iV B.op,iV B.n,iV B.u,.string B.rn,iV B.ri,.slice a4 B.args.length p4] _ bt.o qq rfl (by kernel_rfl) ?_)|(at_builtin;refine Be (w.heap.size+1) rfl _ _ rfl u3 rows rfl I.o (wr.heap.size+1) 5 5 [[iV m.op,iV m.n,iV m.u,.string m.rn,iV m.ri,.slice a0 m.args.length p0],[iV g.op,iV g.n,iV g.u,.string g.rn,iV g.ri,.slice a1 g.args.length p1],[iV j.op,iV j.n,iV j.u,.string j.rn,iV j.ri,.slice a2 j.args.length p2],[iV s.op,iV s.n,iV s.u,.string s.rn,iV s.ri,.slice a3 s.args.length p3],[iV B.op,iV B.n,iV B.u,.string B.rn,iV B.ri,.slice a4 B.args.length p4]] #[iV m.op,iV m.n,iV m.u,.string m.rn,iV m.ri,.slice a0 m.args.length p0,iV g.op,iV g.n,iV g.u,.string g.rn,iV g.ri,.slice a1 g.args.length p1,iV j.op,iV j.n,iV j.u,.string j.rn,iV j.ri,.slice a2 j.args.length p2,iV s.op,iV s.n,iV s.u,.string s.rn,iV s.ri,.slice a3 s.args.length p3,iV B.op,iV B.n,iV B.u,.string B.rn,iV B.ri,.slice a4 B.args.length p4] rfl rfl K.o rfl (by simp[Value.oneCell']) rfl J.o r.o ?_;intro ax n5 c5 w5 y C;have ad:=yb y;have ab:=yb (DS a8.o r.o I.o C);have ac:Hid ((w.heap.size+1)<=w5.heap.size):=yb (yr r.o C.size);have aq:=yb C;clear y C))
             exact ⟨⟨i+1,by omega,by push_cast;rfl,yb ⟨ab.o,ac.o,_,ad.o,by rw[t.o];exact O.o.append ⟨an.o,al.o,aj.o,bb.o,bk.o,trivial⟩⟩⟩,by simp[intOf];omega⟩
            ·obtain rfl:i=L.rights.n:=by omega
             have Z:decide ((L.rights.n:Int) < (L.rights.n:Int))=false:=by simp
             have P:Hid (Je (w.heap.size+1) N w0 (IX x++x.rights.flatMap Ef) wr u3):=yb (by
              have h:=H.o
              rw[af.o.rights,yw] at h
              exact h)
             go_wp2
             obtain ⟨dh,rfl⟩:∃z:World,z=wr:=⟨_,rfl⟩
             obtain ⟨dp,rfl⟩:∃z:Value,z=u3:=⟨_,rfl⟩
             have V:Hid (Je (w.heap.size+1) N w0 (IY x++(x.duties.take 0).flatMap (fun d=> [d.due])) dh dp):=yb (by
              rw[zG,zL,zn];exact P.o)
             clear hf Z H P
             go_loopw [3,14] (fun v3 iv wr=>∃i:Nat,i<=L.duties.n∧iv=iV i∧Hid (Je (w.heap.size+1) N w0 (IY x++(x.duties.take i).flatMap (fun d=> [d.due])) wr v3)) (fun _ iv _=>L.duties.n - (intOf iv).toNat)
             case atStart=>exact ⟨0,yz _,rfl,V⟩
             case round=>
              clear V
              obtain ⟨i,hi,rfl,H⟩:=hrel
              have hf:wr.cell? (aV w.heap.size 25)=some (.slice L.duties.a L.duties.n L.duties.c):=b3.o wr H.o.below 25 _ b9.o.duties
              have ar:L.duties.n<=140737488355328:=be.o.duties.1
              by_cases ag:i < L.duties.n
              ·have U:i < x.duties.length:=by rw[<-af.o.duties];exact ag
               have Z:(i:Int) < (L.duties.n:Int):=by omega
               obtain ⟨b,o,he,Y,c,X,aa⟩:=bw.o.duties i U
               rw[he] at hf
               have t:Hid (IY x++(x.duties.take (i+1)).flatMap (fun d=> [d.due])=(IY x++(x.duties.take i).flatMap (fun d=> [d.due]))++[x.duties[i].due]):=yb (by rw[BF U,yl])
               have ae:(IY x++(x.duties.take i).flatMap (fun d=> [d.due])).length<=20000:=by
                have h1:=Cf (l:=x.duties) (f:=(fun d=> [d.due])) (c:=1) (i:=i) (fun _ _=>by simp)
                have h2:=b4.o.t7;have h3:=au.o.duties
                rw[ym]
                skip
                omega
               generalize x.duties[i].due=E at aa t
               have bh:=yb aa
               obtain ⟨a',p',rfl,_⟩:=aa.cells
               have bd:=yb (A2 X ((ay.o wr H.o.below) b Y))
               obtain ⟨rows,G,A⟩:=H.o.own
               have M:=yb G;have O:=yb A
               have J:Hid (rows.length+1<=1000000000):=yb (by rw[A.length];omega)
               clear X aa he G A ae Y
               have F:Hid (Below wr.heap.size wr (wr.alloc (.cells #[iV E.op,iV E.n,iV E.u,.string E.rn,iV E.ri,.slice a' E.args.length p'] 26))):=yb ((yg _ _).alloc (ye _) _)
               have I:=yb (M.o.up F.o)
               have a8:=yb (H.o.below.trans (F.o.mono H.o.size))
               have K:Hid ((wr.alloc (.cells #[iV E.op,iV E.n,iV E.u,.string E.rn,iV E.ri,.slice a' E.args.length p'] 26)).heap[wr.heap.size]?=some (.cells #[iV E.op,iV E.n,iV E.u,.string E.rn,iV E.ri,.slice a' E.args.length p'] 26 (0,0))):=yb (by
                have h:=World.alloc_heap_new wr (.cells #[iV E.op,iV E.n,iV E.u,.string E.rn,iV E.ri,.slice a' E.args.length p'] 26)
                exact h)
               have r:Hid ((w.heap.size+1)<=(wr.alloc (.cells #[iV E.op,iV E.n,iV E.u,.string E.rn,iV E.ri,.slice a' E.args.length p'] 26)).heap.size):=yb (yr H.o.size F.o.size)
               go_wp2_with (first|(refine yj rfl 26 _ rfl b (o+i*11+5) rfl [iV E.op,iV E.n,iV E.u,.string E.rn,iV E.ri,.slice a' E.args.length p'] _ bd.o qq rfl (by kernel_rfl) ?_)|(at_builtin;refine Be (w.heap.size+1) rfl _ _ rfl u3 rows rfl I.o (wr.heap.size) 1 1 [[iV E.op,iV E.n,iV E.u,.string E.rn,iV E.ri,.slice a' E.args.length p']] #[iV E.op,iV E.n,iV E.u,.string E.rn,iV E.ri,.slice a' E.args.length p'] rfl rfl K.o rfl (by simp[Value.oneCell']) rfl J.o r.o ?_;intro ax n5 c5 w5 y C;have ad:=yb y;have ab:=yb (DS a8.o r.o I.o C);have ac:Hid ((w.heap.size+1)<=w5.heap.size):=yb (yr r.o C.size);have aq:=yb C;clear y C))
               exact ⟨⟨i+1,by omega,by push_cast;rfl,yb ⟨ab.o,ac.o,_,ad.o,by rw[t.o];exact O.o.append ⟨bh.o,trivial⟩⟩⟩,by simp[intOf];omega⟩
              ·obtain rfl:i=L.duties.n:=by omega
               have Z:decide ((L.duties.n:Int) < (L.duties.n:Int))=false:=by simp
               have P:Hid (Je (w.heap.size+1) N w0 (IY x++x.duties.flatMap (fun d=> [d.due])) wr u3):=yb (by
                have h:=H.o
                rw[af.o.duties,yw] at h
                exact h)
               go_wp2
               go_ret
               refine ⟨_,rfl,⟨cj.o.trans (P.o.below.mono (by have:=de.o;omega)),by have:=P.o.size;omega,?_⟩⟩
               obtain ⟨rows,G,A⟩:=P.o.own
               exact ⟨rows,Qo G (by omega),At.mono (fun cs e hE=>hE.same (fun _ h=>h) (fun b hb=>(cj.o.block b (dg.o b hb)).symm)) A⟩
end Go.Proofs.Ytghepahgkcigpaa
