/- The reference's Top: the expressions that are no argument (printed by gen_vb.py). -/
import Derived.Test.YtghepahgkcigpaaRn0
import Derived.Test.YtghepahgkcigpaaRn3
import Derived.Test.YtghepahgkcigpaaRn7
import Derived.Test.YtghepahgkcigpaaRn8
set_option maxRecDepth 100000
set_option maxHeartbeats 32000000
set_option linter.unusedSimpArgs false
namespace Go.Proofs.Ytghepahgkcigpaa
open Go.RowKit
def H8(B:Nat)(w:World)(v:Value)(rows:List LV):Prop:=w.ownsRow B 26 6 v rows.length rows.flatten
theorem Sz(B:Nat)(w:World):H8 B w (.slice none 0 0) []:=⟨rfl,.inl ⟨rfl,rfl⟩⟩
theorem H8.up{B:Nat}{w w':World}{v:Value}{l:List LV}(h:H8 B w v l)(hb:Below w.heap.size w w'):H8 B w' v l:=by
 obtain ⟨h1,h2⟩:=h
 refine ⟨h1,h2.imp id ?_⟩
 rintro ⟨g,cap,a,h3,h4,h5,h6⟩
 exact ⟨g,cap,a,h3,h4,(hb.block g (ye.1 h5).1).trans h5,h6⟩
theorem EC{B:Nat}{c w w':World}{v:Value}{l:List LV}(h:Below B c w)(i:B<=w.heap.size)(d:H8 B w v l)(a:w.grownBy w' v.ownBlock):Below B c w':=by
 refine h.trans ⟨a.os,a.tape,a.output,a.size,fun b hb=>a.block b (by omega) (fun e=>?_)⟩
 rcases d.2 with ⟨rfl,_⟩|⟨g,cap,f,rfl,h4,_⟩
 ·cases e
 ·simp only[Value.ownBlock,yY] at e
  omega
theorem BB{ops:Array Oper}{rest:List Oper}{o:Oper}{a:Act}{Q:QT}{W:World}(B:Nat)(D:o.guard=none)(s x:Operand)(G:o.op=.call {callee:=.builtin .append,args:=#[s,x],argTypes:=#[24,24]})
 (v:Value)(rows:List LV)(hs:a.eval s=v)(b:H8 B W v rows)(g m c:Nat)(f:List LV)(row:Array Value)(E:a.eval x=.slice (some ⟨g,0,none⟩) m c)(M:m=f.length)(O:W.heap[g]?=some (.cells row 26 (0,0)))(e:row.toList=f.flatten)(r:∀u∈row.toList,u.oneCell'=true)(y:row.toList.length=f.length*6)
 (J:rows.length+f.length<=1000000000)(p:B<=W.heap.size)
 (h:∀(I:Option Addr) (n c:Nat) w',H8 B w' (.slice I n c) (rows++f)->W.grownBy w' v.ownBlock->wpList Try.prog ops Q rest (a.put o.dst (.slice I n c)) w'):wpList Try.prog ops Q (o::rest) a W:=by
 subst M
 refine yG D fun K H=>?_
 have k:(Try.prog.info? 26).map (fun i=>(i.zero,i.size,i.bytes))=some (some (.agg #[iV 0,iV 0,iV 0,.string ⟨#[]⟩,iV 0,.slice none 0 0]),6,72):=by kernel_rfl
 obtain ⟨N,hi,C,t,z⟩:=info_parts k
 by_cases h0:f=[]
 ·subst h0
  have q:=Fx qC hi W B o.type v rows.length _ (by have:=b;unfold H8 at this;rw[<-t] at this;exact this) (some (aV g 0)) c
  obtain ⟨va,F,vc,rfl⟩:∃a n c,v=.slice a n c:=by
   rcases b.2 with ⟨rfl,L⟩|⟨g,cap,A,rfl,_⟩
   ·exact ⟨_,_,_,rfl⟩
   ·exact ⟨_,_,_,rfl⟩
  unfold Oper.wp
  simp only[yM] at E
  simp[execOp,G,resolve,invoke,builtin,hs,E,q,Result.andThen]
  exact H _ _ (h va F vc W (by simpa using b) ⟨rfl,rfl,rfl,yf _,fun _ _ _=>rfl⟩)
 ·have l:∀j u,f.flatten[j]?=some u->W.cell? (((aV g 0):Addr).add j)=some u:=fun j u P=>by
   rw[zD,<-e] at*
   simp only[World.cell?,O]
   simpa using P
  refine qu W s x 24 G B 26 N _ 6 72 qC hi C t z rfl (by decide) v rows.length _ hs b (aV g 0) f.length c f.flatten E (by rw[<-e];exact y) l (by rw[<-e];exact r) (by unfold maxLen;omega) (by omega) p ?_
  intro v' w' d w _
  obtain ⟨va,F,vc,rfl⟩:∃a n c,v'=.slice a n c:=by
   rcases d.2 with ⟨rfl,L⟩|⟨g,cap,A,rfl,_⟩
   ·exact ⟨_,_,_,rfl⟩
   ·exact ⟨_,_,_,rfl⟩
  exact H _ _ (h va F vc w' (by unfold H8;rw[yq,List.flatten_append];exact d) w)
def F2(d:At):List Ex:=[d.delay,d.cap,d.bank,d.siphon,d.evap0,d.evap1,d.seep0,d.seep1]
def I6(d:B6):List Ex:=[d.flow,d.frm,d.to]++d.turns.flatMap fun k=> [k.len]
def F3(d:AG):List Ex:=[d.flow,d.frm,d.to,d.every,d.len]
def QH(x:Am):List Ex:=x.lets.flatMap fun d=> [d.value]
def JH(x:Am):List Ex:=QH x++[x.season,x.cap,x.start]
def Kg(x:Am):List Ex:=JH x++x.crops.flatMap fun d=> [d.need]
def Kh(x:Am):List Ex:=Kg x++x.reaches.flatMap F2
def I7(x:Am):List Ex:=Kh x++x.farms.flatMap fun d=> [d.area]
def Ki(x:Am):List Ex:=I7 x++x.rots.flatMap I6
def Kj(x:Am):List Ex:=Ki x++x.rights.flatMap F3
def CP(x:Am):List Ex:=Kj x++x.duties.flatMap fun d=> [d.due]
theorem BU{α β:Type}{l:List α}{f:α->List β}{i:Nat}(h:i < l.length):(l.take (i+1)).flatMap f=(l.take i).flatMap f++f l[i]:=by
 rw[yt h,zG];simp
theorem Cw{α β:Type}{l:List α}{f:α->List β}{c i:Nat}(h:∀a∈l,(f a).length<=c):((l.take i).flatMap f).length<=l.length*c:=by
 have h1:=AK (l:=l.take i) (f:=f) (c:=c) (fun a b=>h a (List.mem_of_mem_take b))
 have h2:(l.take i).length<=l.length:=by simp;omega
 exact yl h1 (qe _ h2)
structure Fw (x:Am):Prop where
 lets:x.lets.length<=100
 crops:x.crops.length<=100
 reaches:x.reaches.length<=100
 farms:x.farms.length<=100
 rots:x.rots.length<=70
 rights:x.rights.length<=300
 duties:x.duties.length<=300
 turns:∀d∈x.rots,d.turns.length<=70
structure XC (x:Am):Prop where
 t1:(QH x).length<=100
 t2:(JH x).length<=103
 t3:(Kg x).length<=203
 t4:(Kh x).length<=1003
 t5:(I7 x).length<=1103
 t6:(Ki x).length<=6213
 t7:(Kj x).length<=7713
 tE:(CP x).length<=8013
theorem Fw.top{x:Am}(h:Fw x):XC x:=by
 have e1:(QH x).length<=x.lets.length*1:=AK fun _ _=>by simp
 have c:(x.crops.flatMap fun d=> [d.need]).length<=x.crops.length*1:=AK fun _ _=>by simp
 have o:(x.reaches.flatMap F2).length<=x.reaches.length*8:=AK fun _ _=>by simp[F2]
 have g:(x.farms.flatMap fun d=> [d.area]).length<=x.farms.length*1:=AK fun _ _=>by simp
 have e:(x.rots.flatMap I6).length<=x.rots.length*73:=AK fun d hd=>by
  have h1:(d.turns.flatMap fun k:Bv=> [k.len]).length<=d.turns.length*1:=AK fun _ _=>by simp
  have:=h.turns d hd
  simp only[I6,yq,yI,yM];omega
 have n:(x.rights.flatMap F3).length<=x.rights.length*5:=AK fun _ _=>by simp[F3]
 have i:(x.duties.flatMap fun d=> [d.due]).length<=x.duties.length*1:=AK fun _ _=>by simp
 have:=h.lets;have:=h.crops;have:=h.reaches;have:=h.farms;have:=h.rots;have:=h.rights;have:=h.duties
 have f:(JH x).length=(QH x).length+3:=by unfold JH;simp
 have a:(Kg x).length=(JH x).length+(x.crops.flatMap fun d=> [d.need]).length:=by unfold Kg;rw[yq]
 have b:(Kh x).length=(Kg x).length+(x.reaches.flatMap F2).length:=by unfold Kh;rw[yq]
 have l:(I7 x).length=(Kh x).length+(x.farms.flatMap fun d=> [d.area]).length:=by unfold I7;rw[yq]
 have j:(Ki x).length=(I7 x).length+(x.rots.flatMap I6).length:=by unfold Ki;rw[yq]
 have p:(Kj x).length=(Ki x).length+(x.rights.flatMap F3).length:=by unfold Kj;rw[yq]
 have m:(CP x).length=(Kj x).length+(x.duties.flatMap fun d=> [d.due]).length:=by unfold CP;rw[yq]
 constructor<;>omega
structure KA (B:Nat) (N:Nat->Prop) (w0:World) (es:List Ex) (wr:World) (v:Value):Prop where
 below:Below B w0 wr
 size:B<=wr.heap.size
 own:∃rows,H8 B wr v rows∧Az (fun cs e=>AS N w0 e cs) rows es
theorem Az.len{α β:Type}{R:α->β->Prop}{l:List α}{m:List β}(h:Az R l m):l.length=m.length:=h.length
def Ue(N:NP)(w:World)(b o:Nat)(e:Ex):Prop:=N b∧∃c,w.rangeAt b o c∧AS N w e c
theorem KZ{N:NP}{w:World}{b o:Nat}{p c q:LV}{e:Ex}{off:Nat}(hN:N b)(f:w.rangeAt b o (p++(c++q)))(a:p.length=off)(d:AS N w e c):Ue N w b (o+off) e:=by
 have:=AO f
 rw[a] at this
 exact ⟨hN,c,this,d⟩
structure XD (N:Nat->Prop) (w:World) (L:Bw) (x:Am):Prop where
 lets:∀i (hi:i < x.lets.length),∃b o,L.lets.a=some ⟨b,o,none⟩∧Ue N w b (o+i*7+1) x.lets[i].value
 crops:∀i (hi:i < x.crops.length),∃b o,L.crops.a=some ⟨b,o,none⟩∧Ue N w b (o+i*7+1) x.crops[i].need
 farms:∀i (hi:i < x.farms.length),∃b o,L.farms.a=some ⟨b,o,none⟩∧Ue N w b (o+i*12+4) x.farms[i].area
 duties:∀i (hi:i < x.duties.length),∃b o,L.duties.a=some ⟨b,o,none⟩∧Ue N w b (o+i*11+5) x.duties[i].due
theorem Bb.tops{N:NP}{w:World}{L:Bw}{cs:LV}{x:Am}(h:Bb N w L cs x):XD N w L x:=by
 refine ⟨fun i hi=>?_,fun i hi=>?_,fun i hi=>?_,fun i hi=>?_⟩
 ·obtain ⟨b,o,c,g1,d,f,a,_,c1,rfl,e⟩:=h.lets.2.2 i hi
  exact ⟨b,o,g1,KZ (p:=[.string (x.lets[i]).name]) (q:=[]) d (by simpa using a) rfl e⟩
 ·obtain ⟨b,o,c,g1,d,f,a,_,c1,rfl,e⟩:=h.crops.2.2 i hi
  exact ⟨b,o,g1,KZ (p:=[.string (x.crops[i]).name]) (q:=[]) d (by simpa using a) rfl e⟩
 ·obtain ⟨b,o,c,g1,d,f,a,_,_,_,c1,rfl,e⟩:=h.farms.2.2 i hi
  exact ⟨b,o,g1,KZ (p:=.string (x.farms[i]).name::(An (x.farms[i]).on++[.bool (x.farms[i]).river])) (q:=An (x.farms[i]).crop) d (by simpa using a) rfl e⟩
 ·obtain ⟨b,o,c,g1,d,f,a,_,_,_,c1,rfl,e⟩:=h.duties.2.2 i hi
  exact ⟨b,o,g1,KZ (p:=.string (x.duties[i]).name::(An (x.duties[i]).farm++An (x.duties[i]).reach)) (q:=[]) d (by simpa using a) rfl e⟩
def EL(N:NP)(w W:World)(b o:Nat)(e:Ex):Prop:=∃c,W.rangeAt b o c∧AS N w e c
theorem Cz{N:NP}{w W:World}{b o:Nat}{p c q:LV}{e:Ex}(off:Nat)(f:W.rangeAt b o (p++(c++q)))(a:p.length=off)(d:AS N w e c):EL N w W b (o+off) e:=by
 have:=AO f
 rw[a] at this
 exact ⟨c,this,d⟩
theorem Po{N:NP}{w W:World}{b:Nat}{R:LV}{d:At}(a:W.rangeAt b 0 R)(y:CT N w R d):EL N w W b 3 d.delay∧EL N w W b 9 d.cap∧EL N w W b 15 d.bank∧EL N w W b 21 d.siphon∧EL N w W b 27 d.evap0∧EL N w W b 33 d.evap1∧EL N w W b 39 d.seep0∧EL N w W b 45 d.seep1:=by
 obtain ⟨_,_,c0,c1,c2,i,c4,u,B,D,rfl,t,m,s,o,v,x,n,A⟩:=y
 have c:=t.len;have f:=m.len;have g:=s.len;have j:=o.len;have l:=v.len;have r:=x.len;have C:=n.len
 have z:∀ {k:Nat} {e:Ex},EL N w W b (0+k) e->EL N w W b k e:=fun h=>by rwa [yB] at h
 refine ⟨z ?_,z ?_,z ?_,z ?_,z ?_,z ?_,z ?_,z ?_⟩
 ·exact Cz (p:=.string d.name::An d.frm) _ (by simpa using a) rfl t
 ·exact Cz (p:=.string d.name::(An d.frm++c0)) _ (by simpa using a) (by simp[A8,c]) m
 ·exact Cz (p:=.string d.name::(An d.frm++(c0++c1))) _ (by simpa using a) (by simp[A8,c,f]) s
 ·exact Cz (p:=.string d.name::(An d.frm++(c0++(c1++c2)))) _ (by simpa using a) (by simp[A8,c,f,g]) o
 ·exact Cz (p:=.string d.name::(An d.frm++(c0++(c1++(c2++i))))) _ (by simpa using a) (by simp[A8,c,f,g,j]) v
 ·exact Cz (p:=.string d.name::(An d.frm++(c0++(c1++(c2++(i++c4)))))) _ (by simpa using a) (by simp[A8,c,f,g,j,l]) x
 ·exact Cz (p:=.string d.name::(An d.frm++(c0++(c1++(c2++(i++(c4++u))))))) _ (by simpa using a) (by simp[A8,c,f,g,j,l,r]) n
 ·exact Cz (p:=.string d.name::(An d.frm++(c0++(c1++(c2++(i++(c4++(u++B)))))))) (q:=[]) _ (by simpa using a) (by simp[A8,c,f,g,j,l,r,C]) A
theorem Pq{N:NP}{w W:World}{b:Nat}{R:LV}{d:AG}(a:W.rangeAt b 0 R)(n:CU N w R d):EL N w W b 7 d.flow∧EL N w W b 13 d.frm∧EL N w W b 19 d.to∧EL N w W b 25 d.every∧EL N w W b 31 d.len:=by
 obtain ⟨_,_,_,c0,c1,c2,r,c4,rfl,m,g,l,j,s⟩:=n
 have c:=m.len;have f:=g.len;have i:=l.len;have o:=j.len
 have z:∀ {k:Nat} {e:Ex},EL N w W b (0+k) e->EL N w W b k e:=fun h=>by rwa [yB] at h
 refine ⟨z ?_,z ?_,z ?_,z ?_,z ?_⟩
 ·exact Cz (p:=iV d.kind::.string d.name::(An d.farm++(An d.reach++[iV d.rank]))) _ (by simpa using a) rfl m
 ·exact Cz (p:=iV d.kind::.string d.name::(An d.farm++(An d.reach++(iV d.rank::c0)))) _ (by simpa using a) (by simp[A8,c]) g
 ·exact Cz (p:=iV d.kind::.string d.name::(An d.farm++(An d.reach++(iV d.rank::(c0++c1))))) _ (by simpa using a) (by simp[A8,c,f]) l
 ·exact Cz (p:=iV d.kind::.string d.name::(An d.farm++(An d.reach++(iV d.rank::(c0++(c1++c2)))))) _ (by simpa using a) (by simp[A8,c,f,i]) j
 ·exact Cz (p:=iV d.kind::.string d.name::(An d.farm++(An d.reach++(iV d.rank::(c0++(c1++(c2++r))))))) (q:=[]) _ (by simpa using a) (by simp[A8,c,f,i,o]) s
theorem SA{N:NP}{w W:World}{b:Nat}{R:LV}{h:Ai}{d:B6}(f:W.rangeAt b 0 R)(n:Hc N w h R d):EL N w W b 4 d.flow∧EL N w W b 10 d.frm∧EL N w W b 16 d.to∧R[22]?=some h.v∧Av N w 8 (E0 N w) h d.turns:=by
 obtain ⟨_,_,c0,c1,c2,rfl,m,i,l,o⟩:=n
 have c:=m.len;have g:=i.len;have j:=l.len
 have z:∀ {k:Nat} {e:Ex},EL N w W b (0+k) e->EL N w W b k e:=fun h=>by rwa [yB] at h
 have a:(Value.string d.name::(An d.on++(iV d.rank::(c0++(c1++(c2++[h.v]))))))[22]?=some h.v:=by
  have e:(Value.string d.name::(An d.on++(iV d.rank::(c0++(c1++(c2++[h.v]))))))=(Value.string d.name::(An d.on++(iV d.rank::(c0++(c1++c2)))))++[h.v]:=by simp
  rw[e,yL (by simp[A8,c,g,j])]
  simp[A8,c,g,j]
 refine ⟨z ?_,z ?_,z ?_,a,o⟩
 ·exact Cz (p:=.string d.name::(An d.on++[iV d.rank])) _ (by simpa using f) rfl m
 ·exact Cz (p:=.string d.name::(An d.on++(iV d.rank::c0))) _ (by simpa using f) (by simp[A8,c]) i
 ·exact Cz (p:=.string d.name::(An d.on++(iV d.rank::(c0++c1)))) _ (by simpa using f) (by simp[A8,c,g]) l
theorem QI{N:NP}{w W:World}{L:Bw}{b:Nat}{R:LV}{x:Am}(a:W.rangeAt b 0 R)(g:Bb N w L R x):EL N w W b 1 x.season∧EL N w W b 7 x.cap∧EL N w W b 13 x.start:=by
 obtain ⟨c0,c1,c2,rfl,d,c,j⟩:=g.cells
 have f:=d.len;have i:=c.len
 have z:∀ {k:Nat} {e:Ex},EL N w W b (0+k) e->EL N w W b k e:=fun h=>by rwa [yB] at h
 refine ⟨z ?_,z ?_,z ?_⟩
 ·exact Cz (p:=[.string x.name]) _ (by simpa using a) rfl d
 ·exact Cz (p:=.string x.name::c0) _ (by simpa using a) (by simp[f]) c
 ·exact Cz (p:=.string x.name::(c0++c1)) _ (by simpa using a) (by simp[f,i]) j
theorem Uf{B:Nat}{w:World}{v:Value}{rows:List LV}(h:H8 B w v rows){g:Nat}{c:Array Value}{ty:TypeId}(b:w.heap[g]?=some (.cells c ty (0,0)))(d:ty≠26):v.ownBlock≠some g:=fun e=>by
 rcases h.2 with ⟨rfl,_⟩|⟨k,cap,a,rfl,_,hk,_⟩
 ·cases e
 ·cases e
  rw[b] at hk
  cases hk
  exact d rfl
theorem SB{B b:Nat}{w:World}{v:Value}{l:List LV}(h:H8 B w v l)(hb:b<=B):H8 b w v l:=by
 obtain ⟨h1,h2⟩:=h
 refine ⟨h1,h2.imp id ?_⟩
 rintro ⟨g,cap,a,e,h4,h5⟩
 exact ⟨g,cap,a,e,by omega,h5⟩
structure Wl (L:Bw) (x:Am):Prop where
 lets:L.lets.n=x.lets.length
 crops:L.crops.n=x.crops.length
 reaches:L.reaches.n=x.reaches.length
 farms:L.farms.n=x.farms.length
 rots:L.rots.n=x.rots.length
 rights:L.rights.n=x.rights.length
 duties:L.duties.n=x.duties.length
theorem NZ{N:NP}{w:World}{L:Bw}{cs:LV}{x:Am}(h:Bb N w L cs x)(hN:∀b,N b->b < w.heap.size)(cj:Fw x):
  Calls Try.prog 22 #[.agg cs.toArray] w fun e w'=>∃v,e=.returned v∧KA w.heap.size N w (CP x) w' v:=by
 have ag:Hid (Wl L x):=yb ⟨h.lets.1,h.crops.1,h.reaches.1,h.farms.1,h.rots.1,h.rights.1,h.duties.1⟩
 have bh:=yb h.ok
 have az:=yb cj.top
 have ax:=yb cj
 have be:=yb h.at
 obtain ⟨w0,bu⟩:∃w0,w0=w.alloc (.cells cs.toArray 35):=⟨_,rfl⟩
 have ch:Below w.heap.size w w0:=by rw[bu];exact (yg _ _).alloc (yf _) _
 have cq:w0.heap.size=w.heap.size+1:=by rw[bu];simp
 have ce:w0.heap[w.heap.size]?=some (.cells cs.toArray 35 (0,0)):=by rw[bu];exact World.alloc_heap_new _ _
 have h0:Bb N w0 L cs x:=h.same (fun _ h=>h) (fun b hb=>ch.block b (hN b hb))
 have c8:=yb h0.tops
 have bq:=yb h0
 have cp:=yb ch;have dj:=yb cq;have dt:=yb hN
 have bd:Hid (∀wr,Below (w.heap.size+1) w0 wr->∀q v,cs[q]?=some v->wr.cell? (aV w.heap.size q)=some v):=yb (fun wr cg q v hq=>by
  have e:=cg.block w.heap.size (by omega)
  simp only[World.cell?,e,ce]
  simpa using hq)
 have ba:Hid (∀wr,Below (w.heap.size+1) w0 wr->∀b,N b->wr.heap[b]?=w0.heap[b]?):=yb (fun wr cg b hb=>cg.block b (by have:=hN b hb;omega))
 have cn:Hid (w0.rangeAt w.heap.size 0 cs):=yb (by
  have:=yU ce 0 cs.length
  simpa using this)
 have Y:Hid (KA (w.heap.size+1) N w0 ([]++(x.lets.take 0).flatMap (fun d=> [d.value])) w0 (.slice none 0 0)):=yb ⟨yg _ _,by omega,[],Sz _ _,trivial⟩
 have d6:=yb bu
 clear ch cq ce h0 hN cj bu
 obtain ⟨ks,ck⟩:∃ks,ks=cs:=⟨_,rfl⟩
 rw[<-ck] at be bq bd cn
 have HK:=yb ck
 obtain ⟨c0,c1,c2,rfl,g0,g1,g2⟩:=h.cells
 obtain ⟨a0,p0,rfl,e0⟩:=g0.cells
 obtain ⟨a1,p1,rfl,e1⟩:=g1.cells
 obtain ⟨a2,p2,rfl,e2⟩:=g2.cells
 clear h g0 g1 g2 e0 e1 e2 ck
 unfold Ai.v at*
 simp only[z8,zk] at d6 HK ⊢
 go_enter Try.func22,Try.ntmps22
 go_upto_region 2 with fail
 rw[<-d6.o]
 go_wp2
 go_loopw [3,4] (fun v3 iv wr=>∃i:Nat,i<=L.lets.n∧iv=iV i∧Hid (KA (w.heap.size+1) N w0 (([]:List Ex)++(x.lets.take i).flatMap (fun d=> [d.value])) wr v3)) (fun _ iv _=>L.lets.n - (intOf iv).toNat)
 case atStart=>exact ⟨0,yC _,rfl,Y⟩
 case round=>
  clear Y
  obtain ⟨i,hi,rfl,H⟩:=hrel
  have hf:wr.cell? (aV w.heap.size 19)=some (.slice L.lets.a L.lets.n L.lets.c):=bd.o wr H.o.below 19 _ be.o.lets
  have au:L.lets.n<=140737488355328:=bh.o.lets.1
  by_cases ah:i < L.lets.n
  ·have U:i < x.lets.length:=by rw[<-ag.o.lets];exact ah
   have Z:(i:Int) < (L.lets.n:Int):=by omega
   obtain ⟨b,o,he,X,c,V,aa⟩:=c8.o.lets i U
   rw[he] at hf
   have t:Hid (([]:List Ex)++(x.lets.take (i+1)).flatMap (fun d=> [d.value])=(([]:List Ex)++(x.lets.take i).flatMap (fun d=> [d.value]))++[x.lets[i].value]):=yb (by rw[BU U,yp])
   have af:(([]:List Ex)++(x.lets.take i).flatMap (fun d=> [d.value])).length<=20000:=by
    have h1:=Cw (l:=x.lets) (f:=(fun d=> [d.value])) (c:=1) (i:=i) (fun _ _=>by simp)
    have h2:=az.o.t1;have h3:=ax.o.lets
    rw[yq]
    simp only[yM]
    omega
   generalize x.lets[i].value=E at aa t
   have bg:=yb aa
   obtain ⟨a',p',rfl,_⟩:=aa.cells
   have bj:=yb (A2 V ((ba.o wr H.o.below) b X))
   obtain ⟨rows,G,A⟩:=H.o.own
   have M:=yb G;have O:=yb A
   have J:Hid (rows.length+1<=1000000000):=yb (by rw[A.length];omega)
   clear V aa he G A af X
   have F:Hid (Below wr.heap.size wr (wr.alloc (.cells #[iV E.op,iV E.n,iV E.u,.string E.rn,iV E.ri,.slice a' E.args.length p'] 26))):=yb ((yg _ _).alloc (yf _) _)
   have I:=yb (M.o.up F.o)
   have a8:=yb (H.o.below.trans (F.o.mono H.o.size))
   have K:Hid ((wr.alloc (.cells #[iV E.op,iV E.n,iV E.u,.string E.rn,iV E.ri,.slice a' E.args.length p'] 26)).heap[wr.heap.size]?=some (.cells #[iV E.op,iV E.n,iV E.u,.string E.rn,iV E.ri,.slice a' E.args.length p'] 26 (0,0))):=yb (by
    have h:=World.alloc_heap_new wr (.cells #[iV E.op,iV E.n,iV E.u,.string E.rn,iV E.ri,.slice a' E.args.length p'] 26)
    exact h)
   have r:Hid ((w.heap.size+1)<=(wr.alloc (.cells #[iV E.op,iV E.n,iV E.u,.string E.rn,iV E.ri,.slice a' E.args.length p'] 26)).heap.size):=yb (yl H.o.size F.o.size)
   go_wp2_with (first|(refine ym rfl 26 _ rfl b (o+i*7+1) rfl [iV E.op,iV E.n,iV E.u,.string E.rn,iV E.ri,.slice a' E.args.length p'] _ bj.o qD rfl (by kernel_rfl) ?_)|(at_builtin;refine BB (w.heap.size+1) rfl _ _ rfl u3 rows rfl I.o (wr.heap.size) 1 1 [[iV E.op,iV E.n,iV E.u,.string E.rn,iV E.ri,.slice a' E.args.length p']] #[iV E.op,iV E.n,iV E.u,.string E.rn,iV E.ri,.slice a' E.args.length p'] rfl rfl K.o rfl (by simp[Value.oneCell']) rfl J.o r.o ?_;intro aw n5 c5 w5 y C;have ae:=yb y;have ac:=yb (EC a8.o r.o I.o C);have ad:Hid ((w.heap.size+1)<=w5.heap.size):=yb (yl r.o C.size);have ar:=yb C;clear y C))
   exact ⟨⟨i+1,by omega,by push_cast;rfl,yb ⟨ac.o,ad.o,_,ae.o,by rw[t.o];exact O.o.append ⟨bg.o,trivial⟩⟩⟩,by simp[intOf];omega⟩
  ·obtain rfl:i=L.lets.n:=by omega
   have Z:decide ((L.lets.n:Int) < (L.lets.n:Int))=false:=by simp
   have P:Hid (KA (w.heap.size+1) N w0 (([]:List Ex)++x.lets.flatMap (fun d=> [d.value])) wr u3):=yb (by
    have h:=H.o
    rw[ag.o.lets,yx] at h
    exact h)
   obtain ⟨⟨C0,r0,k0⟩,⟨C1,r1,k1⟩,⟨C2,r2,k2⟩⟩:=QI (W:=wr) (A2 cn.o (P.o.below.block _ (xK _))) bq.o
   have c9:Hid (JH x=QH x++[x.season,x.cap,x.start]):=yb rfl
   generalize x.season=j at k0 c9
   generalize x.cap=g at k1 c9
   generalize x.start=m at k2 c9
   have am:=yb k0;have an:=yb k1;have ap:=yb k2
   obtain ⟨a0,p0,rfl,_⟩:=k0.cells
   obtain ⟨a1,p1,rfl,_⟩:=k1.cells
   obtain ⟨a2,p2,rfl,_⟩:=k2.cells
   have aq:=yb r0;have ak:=yb r1;have al:=yb r2
   obtain ⟨rows,G,A⟩:=P.o.own
   have M:=yb G;have O:=yb A
   have J:Hid (rows.length+3<=1000000000):=yb (by
    have h2:=az.o.t1
    have h3:rows.length=(QH x).length:=A.length
    omega)
   clear r0 r1 r2 G A
   have F:Hid (Below wr.heap.size wr (wr.alloc (.cells #[iV j.op,iV j.n,iV j.u,.string j.rn,iV j.ri,.slice a0 j.args.length p0,iV g.op,iV g.n,iV g.u,.string g.rn,iV g.ri,.slice a1 g.args.length p1,iV m.op,iV m.n,iV m.u,.string m.rn,iV m.ri,.slice a2 m.args.length p2] 26))):=yb ((yg _ _).alloc (yf _) _)
   have I:=yb (M.o.up F.o)
   have a8:=yb (P.o.below.trans (F.o.mono P.o.size))
   have K:Hid ((wr.alloc (.cells #[iV j.op,iV j.n,iV j.u,.string j.rn,iV j.ri,.slice a0 j.args.length p0,iV g.op,iV g.n,iV g.u,.string g.rn,iV g.ri,.slice a1 g.args.length p1,iV m.op,iV m.n,iV m.u,.string m.rn,iV m.ri,.slice a2 m.args.length p2] 26)).heap[wr.heap.size]?=some (.cells #[iV j.op,iV j.n,iV j.u,.string j.rn,iV j.ri,.slice a0 j.args.length p0,iV g.op,iV g.n,iV g.u,.string g.rn,iV g.ri,.slice a1 g.args.length p1,iV m.op,iV m.n,iV m.u,.string m.rn,iV m.ri,.slice a2 m.args.length p2] 26 (0,0))):=yb (by
    have h:=World.alloc_heap_new wr (.cells #[iV j.op,iV j.n,iV j.u,.string j.rn,iV j.ri,.slice a0 j.args.length p0,iV g.op,iV g.n,iV g.u,.string g.rn,iV g.ri,.slice a1 g.args.length p1,iV m.op,iV m.n,iV m.u,.string m.rn,iV m.ri,.slice a2 m.args.length p2] 26)
    exact h)
   have r:Hid ((w.heap.size+1)<=(wr.alloc (.cells #[iV j.op,iV j.n,iV j.u,.string j.rn,iV j.ri,.slice a0 j.args.length p0,iV g.op,iV g.n,iV g.u,.string g.rn,iV g.ri,.slice a1 g.args.length p1,iV m.op,iV m.n,iV m.u,.string m.rn,iV m.ri,.slice a2 m.args.length p2] 26)).heap.size):=yb (yl P.o.size F.o.size)
   go_wp2_with (first|(refine ym rfl 26 _ rfl w.heap.size (1) rfl [iV j.op,iV j.n,iV j.u,.string j.rn,iV j.ri,.slice a0 j.args.length p0] _ aq.o qD rfl (by kernel_rfl) ?_)|(refine ym rfl 26 _ rfl w.heap.size (7) rfl [iV g.op,iV g.n,iV g.u,.string g.rn,iV g.ri,.slice a1 g.args.length p1] _ ak.o qD rfl (by kernel_rfl) ?_)|(refine ym rfl 26 _ rfl w.heap.size (13) rfl [iV m.op,iV m.n,iV m.u,.string m.rn,iV m.ri,.slice a2 m.args.length p2] _ al.o qD rfl (by kernel_rfl) ?_)|(at_builtin;refine BB (w.heap.size+1) rfl _ _ rfl u3 rows rfl I.o (wr.heap.size) 3 3 [[iV j.op,iV j.n,iV j.u,.string j.rn,iV j.ri,.slice a0 j.args.length p0],[iV g.op,iV g.n,iV g.u,.string g.rn,iV g.ri,.slice a1 g.args.length p1],[iV m.op,iV m.n,iV m.u,.string m.rn,iV m.ri,.slice a2 m.args.length p2]] #[iV j.op,iV j.n,iV j.u,.string j.rn,iV j.ri,.slice a0 j.args.length p0,iV g.op,iV g.n,iV g.u,.string g.rn,iV g.ri,.slice a1 g.args.length p1,iV m.op,iV m.n,iV m.u,.string m.rn,iV m.ri,.slice a2 m.args.length p2] rfl rfl K.o rfl (by simp[Value.oneCell']) rfl J.o r.o ?_;intro aw n5 c5 w5 y C;have ae:=yb y;have ac:=yb (EC a8.o r.o I.o C);have ad:Hid ((w.heap.size+1)<=w5.heap.size):=yb (yl r.o C.size);have ar:=yb C;clear y C))
   have Y:Hid (KA (w.heap.size+1) N w0 (JH x++(x.crops.take 0).flatMap (fun d=> [d.need])) w5 (.slice aw n5 c5)):=yb ⟨ac.o,ad.o,_,ae.o,by
    rw[zM,zQ,zt,c9.o]
    exact O.o.append ⟨am.o,an.o,ap.o,trivial⟩⟩
   clear hf Z H P ae ac ad ar O M J K r a8 I F
   go_loopw [3,5] (fun v3 iv wr=>∃i:Nat,i<=L.crops.n∧iv=iV i∧Hid (KA (w.heap.size+1) N w0 (JH x++(x.crops.take i).flatMap (fun d=> [d.need])) wr v3)) (fun _ iv _=>L.crops.n - (intOf iv).toNat)
   case atStart=>exact ⟨0,yC _,rfl,Y⟩
   case round=>
    clear Y
    obtain ⟨i,hi,rfl,H⟩:=hrel
    have hf:wr.cell? (aV w.heap.size 20)=some (.slice L.crops.a L.crops.n L.crops.c):=bd.o wr H.o.below 20 _ be.o.crops
    have au:L.crops.n<=140737488355328:=bh.o.crops.1
    by_cases ah:i < L.crops.n
    ·have U:i < x.crops.length:=by rw[<-ag.o.crops];exact ah
     have Z:(i:Int) < (L.crops.n:Int):=by omega
     obtain ⟨b,o,he,X,c,V,aa⟩:=c8.o.crops i U
     rw[he] at hf
     have t:Hid (JH x++(x.crops.take (i+1)).flatMap (fun d=> [d.need])=(JH x++(x.crops.take i).flatMap (fun d=> [d.need]))++[x.crops[i].need]):=yb (by rw[BU U,yp])
     have af:(JH x++(x.crops.take i).flatMap (fun d=> [d.need])).length<=20000:=by
      have h1:=Cw (l:=x.crops) (f:=(fun d=> [d.need])) (c:=1) (i:=i) (fun _ _=>by simp)
      have h2:=az.o.t2;have h3:=ax.o.crops
      rw[yq]
      skip
      omega
     generalize x.crops[i].need=E at aa t
     have bg:=yb aa
     obtain ⟨a',p',rfl,_⟩:=aa.cells
     have bj:=yb (A2 V ((ba.o wr H.o.below) b X))
     obtain ⟨rows,G,A⟩:=H.o.own
     have M:=yb G;have O:=yb A
     have J:Hid (rows.length+1<=1000000000):=yb (by rw[A.length];omega)
     clear V aa he G A af X
     have F:Hid (Below wr.heap.size wr (wr.alloc (.cells #[iV E.op,iV E.n,iV E.u,.string E.rn,iV E.ri,.slice a' E.args.length p'] 26))):=yb ((yg _ _).alloc (yf _) _)
     have I:=yb (M.o.up F.o)
     have a8:=yb (H.o.below.trans (F.o.mono H.o.size))
     have K:Hid ((wr.alloc (.cells #[iV E.op,iV E.n,iV E.u,.string E.rn,iV E.ri,.slice a' E.args.length p'] 26)).heap[wr.heap.size]?=some (.cells #[iV E.op,iV E.n,iV E.u,.string E.rn,iV E.ri,.slice a' E.args.length p'] 26 (0,0))):=yb (by
      have h:=World.alloc_heap_new wr (.cells #[iV E.op,iV E.n,iV E.u,.string E.rn,iV E.ri,.slice a' E.args.length p'] 26)
      exact h)
     have r:Hid ((w.heap.size+1)<=(wr.alloc (.cells #[iV E.op,iV E.n,iV E.u,.string E.rn,iV E.ri,.slice a' E.args.length p'] 26)).heap.size):=yb (yl H.o.size F.o.size)
     go_wp2_with (first|(refine ym rfl 26 _ rfl b (o+i*7+1) rfl [iV E.op,iV E.n,iV E.u,.string E.rn,iV E.ri,.slice a' E.args.length p'] _ bj.o qD rfl (by kernel_rfl) ?_)|(at_builtin;refine BB (w.heap.size+1) rfl _ _ rfl u3 rows rfl I.o (wr.heap.size) 1 1 [[iV E.op,iV E.n,iV E.u,.string E.rn,iV E.ri,.slice a' E.args.length p']] #[iV E.op,iV E.n,iV E.u,.string E.rn,iV E.ri,.slice a' E.args.length p'] rfl rfl K.o rfl (by simp[Value.oneCell']) rfl J.o r.o ?_;intro aw n5 c5 w5 y C;have ae:=yb y;have ac:=yb (EC a8.o r.o I.o C);have ad:Hid ((w.heap.size+1)<=w5.heap.size):=yb (yl r.o C.size);have ar:=yb C;clear y C))
     exact ⟨⟨i+1,by omega,by push_cast;rfl,yb ⟨ac.o,ad.o,_,ae.o,by rw[t.o];exact O.o.append ⟨bg.o,trivial⟩⟩⟩,by simp[intOf];omega⟩
    ·obtain rfl:i=L.crops.n:=by omega
     have Z:decide ((L.crops.n:Int) < (L.crops.n:Int))=false:=by simp
     have P:Hid (KA (w.heap.size+1) N w0 (JH x++x.crops.flatMap (fun d=> [d.need])) wr u3):=yb (by
      have h:=H.o
      rw[ag.o.crops,yx] at h
      exact h)
     go_wp2
     obtain ⟨d9,rfl⟩:∃z:World,z=wr:=⟨_,rfl⟩
     obtain ⟨dg,rfl⟩:∃z:Value,z=u3:=⟨_,rfl⟩
     have Y:Hid (KA (w.heap.size+1) N w0 (Kg x++(x.reaches.take 0).flatMap F2) d9 dg):=yb (by
      rw[zM,zQ,zt];exact P.o)
     clear hf Z H P
     go_loopw [3,6] (fun v3 iv wr=>∃i:Nat,i<=L.reaches.n∧iv=iV i∧Hid (KA (w.heap.size+1) N w0 (Kg x++(x.reaches.take i).flatMap F2) wr v3)) (fun _ iv _=>L.reaches.n - (intOf iv).toNat)
     case atStart=>exact ⟨0,yC _,rfl,Y⟩
     case round=>
      clear Y
      obtain ⟨i,hi,rfl,H⟩:=hrel
      have hf:wr.cell? (aV w.heap.size 21)=some (.slice L.reaches.a L.reaches.n L.reaches.c):=bd.o wr H.o.below 21 _ be.o.reaches
      have au:L.reaches.n<=140737488355328:=bh.o.reaches.1
      by_cases ah:i < L.reaches.n
      ·have U:i < x.reaches.length:=by rw[<-ag.o.reaches];exact ah
       have Z:(i:Int) < (L.reaches.n:Int):=by omega
       obtain ⟨b,o,R,he,X,ao,V,hv⟩:=bq.o.reaches.2.2 i U
       rw[he] at hf
       have t:Hid (Kg x++(x.reaches.take (i+1)).flatMap F2=(Kg x++(x.reaches.take i).flatMap F2)++[x.reaches[i].delay,x.reaches[i].cap,x.reaches[i].bank,x.reaches[i].siphon,x.reaches[i].evap0,x.reaches[i].evap1,x.reaches[i].seep0,x.reaches[i].seep1]):=yb (by rw[BU U,yp];rfl)
       have af:(Kg x++(x.reaches.take i).flatMap F2).length<=20000:=by
        have h1:=Cw (l:=x.reaches) (f:=F2) (c:=8) (i:=i) (fun _ _=>by simp[F2])
        have h2:=az.o.t3;have h3:=ax.o.reaches
        rw[yq]
        omega
       have bb:=yb (A2 V ((ba.o wr H.o.below) b X))
       have aj:=yb (yV (K6 _ _ hv))
       have b3:Hid ((Try.prog.info? 51).map (·.size)=some R.length):=yb (by rw[ao];kernel_rfl)
       have b5:Hid ((Try.prog.info? 51).map (·.size)=some R.toArray.size):=yb (by rw[yD];exact b3.o)
       have c3:=yb ao
       have b4:(wr.alloc (.cells R.toArray 51)).rangeAt wr.heap.size 0 R:=by
        have:=yU (World.alloc_heap_new wr (.cells R.toArray 51)) 0 R.length
        simpa using this
       obtain ⟨⟨C0,r0,k0⟩,⟨C1,r1,k1⟩,⟨C2,r2,k2⟩,⟨C3,r3,k3⟩,⟨C4,r4,k4⟩,⟨C5,r5,k5⟩,⟨C6,r6,k6⟩,⟨C7,r7,k7⟩⟩:=Po b4 hv
       generalize x.reaches[i].delay=j at k0 t
       generalize x.reaches[i].cap=g at k1 t
       generalize x.reaches[i].bank=m at k2 t
       generalize x.reaches[i].siphon=s at k3 t
       generalize x.reaches[i].evap0=B at k4 t
       generalize x.reaches[i].evap1=T at k5 t
       generalize x.reaches[i].seep0=Q at k6 t
       generalize x.reaches[i].seep1=S at k7 t
       have am:=yb k0
       have an:=yb k1
       have ap:=yb k2
       have b8:=yb k3
       have bo:=yb k4
       have cz:=yb k5
       have d4:=yb k6
       have co:=yb k7
       obtain ⟨a0,p0,rfl,_⟩:=k0.cells
       obtain ⟨a1,p1,rfl,_⟩:=k1.cells
       obtain ⟨a2,p2,rfl,_⟩:=k2.cells
       obtain ⟨a3,p3,rfl,_⟩:=k3.cells
       obtain ⟨a4,p4,rfl,_⟩:=k4.cells
       obtain ⟨a5,p5,rfl,_⟩:=k5.cells
       obtain ⟨a6,p6,rfl,_⟩:=k6.cells
       obtain ⟨a7,p7,rfl,_⟩:=k7.cells
       have aq:=yb r0
       have ak:=yb r1
       have al:=yb r2
       have b9:=yb r3
       have bw:=yb r4
       have cy:=yb r5
       have d7:=yb r6
       have cv:=yb r7
       obtain ⟨rows,G,A⟩:=H.o.own
       have O:=yb A
       have J:Hid (rows.length+8<=1000000000):=yb (by rw[A.length];omega)
       have ai:Hid (Below wr.heap.size wr (wr.alloc (.cells R.toArray 51))):=yb ((yg _ _).alloc (yf _) _)
       have M:=yb (G.up ai.o)
       have bn:=yb (H.o.below.trans (ai.o.mono H.o.size))
       have av:Hid ((w.heap.size+1)<=(wr.alloc (.cells R.toArray 51)).heap.size):=yb (yl H.o.size ai.o.size)
       clear V he G A af X ao hv b4 r0 r1 r2 r3 r4 r5 r6 r7
       have F:Hid (Below (wr.alloc (.cells R.toArray 51)).heap.size (wr.alloc (.cells R.toArray 51)) ((wr.alloc (.cells R.toArray 51)).alloc (.cells #[iV j.op,iV j.n,iV j.u,.string j.rn,iV j.ri,.slice a0 j.args.length p0,iV g.op,iV g.n,iV g.u,.string g.rn,iV g.ri,.slice a1 g.args.length p1,iV m.op,iV m.n,iV m.u,.string m.rn,iV m.ri,.slice a2 m.args.length p2,iV s.op,iV s.n,iV s.u,.string s.rn,iV s.ri,.slice a3 s.args.length p3,iV B.op,iV B.n,iV B.u,.string B.rn,iV B.ri,.slice a4 B.args.length p4,iV T.op,iV T.n,iV T.u,.string T.rn,iV T.ri,.slice a5 T.args.length p5,iV Q.op,iV Q.n,iV Q.u,.string Q.rn,iV Q.ri,.slice a6 Q.args.length p6,iV S.op,iV S.n,iV S.u,.string S.rn,iV S.ri,.slice a7 S.args.length p7] 26))):=yb ((yg _ _).alloc (yf _) _)
       have I:=yb (M.o.up F.o)
       have a8:=yb (bn.o.trans (F.o.mono av.o))
       have K:Hid (((wr.alloc (.cells R.toArray 51)).alloc (.cells #[iV j.op,iV j.n,iV j.u,.string j.rn,iV j.ri,.slice a0 j.args.length p0,iV g.op,iV g.n,iV g.u,.string g.rn,iV g.ri,.slice a1 g.args.length p1,iV m.op,iV m.n,iV m.u,.string m.rn,iV m.ri,.slice a2 m.args.length p2,iV s.op,iV s.n,iV s.u,.string s.rn,iV s.ri,.slice a3 s.args.length p3,iV B.op,iV B.n,iV B.u,.string B.rn,iV B.ri,.slice a4 B.args.length p4,iV T.op,iV T.n,iV T.u,.string T.rn,iV T.ri,.slice a5 T.args.length p5,iV Q.op,iV Q.n,iV Q.u,.string Q.rn,iV Q.ri,.slice a6 Q.args.length p6,iV S.op,iV S.n,iV S.u,.string S.rn,iV S.ri,.slice a7 S.args.length p7] 26)).heap[wr.heap.size+1]?=some (.cells #[iV j.op,iV j.n,iV j.u,.string j.rn,iV j.ri,.slice a0 j.args.length p0,iV g.op,iV g.n,iV g.u,.string g.rn,iV g.ri,.slice a1 g.args.length p1,iV m.op,iV m.n,iV m.u,.string m.rn,iV m.ri,.slice a2 m.args.length p2,iV s.op,iV s.n,iV s.u,.string s.rn,iV s.ri,.slice a3 s.args.length p3,iV B.op,iV B.n,iV B.u,.string B.rn,iV B.ri,.slice a4 B.args.length p4,iV T.op,iV T.n,iV T.u,.string T.rn,iV T.ri,.slice a5 T.args.length p5,iV Q.op,iV Q.n,iV Q.u,.string Q.rn,iV Q.ri,.slice a6 Q.args.length p6,iV S.op,iV S.n,iV S.u,.string S.rn,iV S.ri,.slice a7 S.args.length p7] 26 (0,0))):=yb (by
        have h:=World.alloc_heap_new (wr.alloc (.cells R.toArray 51)) (.cells #[iV j.op,iV j.n,iV j.u,.string j.rn,iV j.ri,.slice a0 j.args.length p0,iV g.op,iV g.n,iV g.u,.string g.rn,iV g.ri,.slice a1 g.args.length p1,iV m.op,iV m.n,iV m.u,.string m.rn,iV m.ri,.slice a2 m.args.length p2,iV s.op,iV s.n,iV s.u,.string s.rn,iV s.ri,.slice a3 s.args.length p3,iV B.op,iV B.n,iV B.u,.string B.rn,iV B.ri,.slice a4 B.args.length p4,iV T.op,iV T.n,iV T.u,.string T.rn,iV T.ri,.slice a5 T.args.length p5,iV Q.op,iV Q.n,iV Q.u,.string Q.rn,iV Q.ri,.slice a6 Q.args.length p6,iV S.op,iV S.n,iV S.u,.string S.rn,iV S.ri,.slice a7 S.args.length p7] 26)
        rw[zB] at h;exact h)
       have r:Hid ((w.heap.size+1)<=((wr.alloc (.cells R.toArray 51)).alloc (.cells #[iV j.op,iV j.n,iV j.u,.string j.rn,iV j.ri,.slice a0 j.args.length p0,iV g.op,iV g.n,iV g.u,.string g.rn,iV g.ri,.slice a1 g.args.length p1,iV m.op,iV m.n,iV m.u,.string m.rn,iV m.ri,.slice a2 m.args.length p2,iV s.op,iV s.n,iV s.u,.string s.rn,iV s.ri,.slice a3 s.args.length p3,iV B.op,iV B.n,iV B.u,.string B.rn,iV B.ri,.slice a4 B.args.length p4,iV T.op,iV T.n,iV T.u,.string T.rn,iV T.ri,.slice a5 T.args.length p5,iV Q.op,iV Q.n,iV Q.u,.string Q.rn,iV Q.ri,.slice a6 Q.args.length p6,iV S.op,iV S.n,iV S.u,.string S.rn,iV S.ri,.slice a7 S.args.length p7] 26)).heap.size):=yb (yl av.o F.o.size)
       go_wp2_with (first|(refine ym rfl 51 _ rfl b (o+i*51) rfl R _ bb.o qS rfl b3.o ?_)|(refine yZ rfl 51 _ _ rfl wr.heap.size R.toArray rfl rfl 51 _ (World.alloc_heap_new _ _) b5.o (by simp[c3.o]) aj.o ?_;rw[World.setRow_alloc_new])|(refine ym rfl 26 _ rfl wr.heap.size (3) rfl [iV j.op,iV j.n,iV j.u,.string j.rn,iV j.ri,.slice a0 j.args.length p0] _ aq.o qD rfl (by kernel_rfl) ?_)|(refine ym rfl 26 _ rfl wr.heap.size (9) rfl [iV g.op,iV g.n,iV g.u,.string g.rn,iV g.ri,.slice a1 g.args.length p1] _ ak.o qD rfl (by kernel_rfl) ?_)|(refine ym rfl 26 _ rfl wr.heap.size (15) rfl [iV m.op,iV m.n,iV m.u,.string m.rn,iV m.ri,.slice a2 m.args.length p2] _ al.o qD rfl (by kernel_rfl) ?_)|(refine ym rfl 26 _ rfl wr.heap.size (21) rfl [iV s.op,iV s.n,iV s.u,.string s.rn,iV s.ri,.slice a3 s.args.length p3] _ b9.o qD rfl (by kernel_rfl) ?_)|(refine ym rfl 26 _ rfl wr.heap.size (27) rfl [iV B.op,iV B.n,iV B.u,.string B.rn,iV B.ri,.slice a4 B.args.length p4] _ bw.o qD rfl (by kernel_rfl) ?_)|(refine ym rfl 26 _ rfl wr.heap.size (33) rfl [iV T.op,iV T.n,iV T.u,.string T.rn,iV T.ri,.slice a5 T.args.length p5] _ cy.o qD rfl (by kernel_rfl) ?_)|(refine ym rfl 26 _ rfl wr.heap.size (39) rfl [iV Q.op,iV Q.n,iV Q.u,.string Q.rn,iV Q.ri,.slice a6 Q.args.length p6] _ d7.o qD rfl (by kernel_rfl) ?_)|(refine ym rfl 26 _ rfl wr.heap.size (45) rfl [iV S.op,iV S.n,iV S.u,.string S.rn,iV S.ri,.slice a7 S.args.length p7] _ cv.o qD rfl (by kernel_rfl) ?_)|(at_builtin;refine BB (w.heap.size+1) rfl _ _ rfl u3 rows rfl I.o (wr.heap.size+1) 8 8 [[iV j.op,iV j.n,iV j.u,.string j.rn,iV j.ri,.slice a0 j.args.length p0],[iV g.op,iV g.n,iV g.u,.string g.rn,iV g.ri,.slice a1 g.args.length p1],[iV m.op,iV m.n,iV m.u,.string m.rn,iV m.ri,.slice a2 m.args.length p2],[iV s.op,iV s.n,iV s.u,.string s.rn,iV s.ri,.slice a3 s.args.length p3],[iV B.op,iV B.n,iV B.u,.string B.rn,iV B.ri,.slice a4 B.args.length p4],[iV T.op,iV T.n,iV T.u,.string T.rn,iV T.ri,.slice a5 T.args.length p5],[iV Q.op,iV Q.n,iV Q.u,.string Q.rn,iV Q.ri,.slice a6 Q.args.length p6],[iV S.op,iV S.n,iV S.u,.string S.rn,iV S.ri,.slice a7 S.args.length p7]] #[iV j.op,iV j.n,iV j.u,.string j.rn,iV j.ri,.slice a0 j.args.length p0,iV g.op,iV g.n,iV g.u,.string g.rn,iV g.ri,.slice a1 g.args.length p1,iV m.op,iV m.n,iV m.u,.string m.rn,iV m.ri,.slice a2 m.args.length p2,iV s.op,iV s.n,iV s.u,.string s.rn,iV s.ri,.slice a3 s.args.length p3,iV B.op,iV B.n,iV B.u,.string B.rn,iV B.ri,.slice a4 B.args.length p4,iV T.op,iV T.n,iV T.u,.string T.rn,iV T.ri,.slice a5 T.args.length p5,iV Q.op,iV Q.n,iV Q.u,.string Q.rn,iV Q.ri,.slice a6 Q.args.length p6,iV S.op,iV S.n,iV S.u,.string S.rn,iV S.ri,.slice a7 S.args.length p7] rfl rfl K.o rfl (by simp[Value.oneCell']) rfl J.o r.o ?_;intro aw n5 c5 w5 y C;have ae:=yb y;have ac:=yb (EC a8.o r.o I.o C);have ad:Hid ((w.heap.size+1)<=w5.heap.size):=yb (yl r.o C.size);have ar:=yb C;clear y C))
       exact ⟨⟨i+1,by omega,by push_cast;rfl,yb ⟨ac.o,ad.o,_,ae.o,by rw[t.o];exact O.o.append ⟨am.o,an.o,ap.o,b8.o,bo.o,cz.o,d4.o,co.o,trivial⟩⟩⟩,by simp[intOf];omega⟩
      ·obtain rfl:i=L.reaches.n:=by omega
       have Z:decide ((L.reaches.n:Int) < (L.reaches.n:Int))=false:=by simp
       have P:Hid (KA (w.heap.size+1) N w0 (Kg x++x.reaches.flatMap F2) wr u3):=yb (by
        have h:=H.o
        rw[ag.o.reaches,yx] at h
        exact h)
       go_wp2
       obtain ⟨da,rfl⟩:∃z:World,z=wr:=⟨_,rfl⟩
       obtain ⟨dd,rfl⟩:∃z:Value,z=u3:=⟨_,rfl⟩
       have Y:Hid (KA (w.heap.size+1) N w0 (Kh x++(x.farms.take 0).flatMap (fun d=> [d.area])) da dd):=yb (by
        rw[zM,zQ,zt];exact P.o)
       clear hf Z H P
       go_loopw [3,8] (fun v3 iv wr=>∃i:Nat,i<=L.farms.n∧iv=iV i∧Hid (KA (w.heap.size+1) N w0 (Kh x++(x.farms.take i).flatMap (fun d=> [d.area])) wr v3)) (fun _ iv _=>L.farms.n - (intOf iv).toNat)
       case atStart=>exact ⟨0,yC _,rfl,Y⟩
       case round=>
        clear Y
        obtain ⟨i,hi,rfl,H⟩:=hrel
        have hf:wr.cell? (aV w.heap.size 22)=some (.slice L.farms.a L.farms.n L.farms.c):=bd.o wr H.o.below 22 _ be.o.farms
        have au:L.farms.n<=140737488355328:=bh.o.farms.1
        by_cases ah:i < L.farms.n
        ·have U:i < x.farms.length:=by rw[<-ag.o.farms];exact ah
         have Z:(i:Int) < (L.farms.n:Int):=by omega
         obtain ⟨b,o,he,X,c,V,aa⟩:=c8.o.farms i U
         rw[he] at hf
         have t:Hid (Kh x++(x.farms.take (i+1)).flatMap (fun d=> [d.area])=(Kh x++(x.farms.take i).flatMap (fun d=> [d.area]))++[x.farms[i].area]):=yb (by rw[BU U,yp])
         have af:(Kh x++(x.farms.take i).flatMap (fun d=> [d.area])).length<=20000:=by
          have h1:=Cw (l:=x.farms) (f:=(fun d=> [d.area])) (c:=1) (i:=i) (fun _ _=>by simp)
          have h2:=az.o.t4;have h3:=ax.o.farms
          rw[yq]
          skip
          omega
         generalize x.farms[i].area=E at aa t
         have bg:=yb aa
         obtain ⟨a',p',rfl,_⟩:=aa.cells
         have bj:=yb (A2 V ((ba.o wr H.o.below) b X))
         obtain ⟨rows,G,A⟩:=H.o.own
         have M:=yb G;have O:=yb A
         have J:Hid (rows.length+1<=1000000000):=yb (by rw[A.length];omega)
         clear V aa he G A af X
         have F:Hid (Below wr.heap.size wr (wr.alloc (.cells #[iV E.op,iV E.n,iV E.u,.string E.rn,iV E.ri,.slice a' E.args.length p'] 26))):=yb ((yg _ _).alloc (yf _) _)
         have I:=yb (M.o.up F.o)
         have a8:=yb (H.o.below.trans (F.o.mono H.o.size))
         have K:Hid ((wr.alloc (.cells #[iV E.op,iV E.n,iV E.u,.string E.rn,iV E.ri,.slice a' E.args.length p'] 26)).heap[wr.heap.size]?=some (.cells #[iV E.op,iV E.n,iV E.u,.string E.rn,iV E.ri,.slice a' E.args.length p'] 26 (0,0))):=yb (by
          have h:=World.alloc_heap_new wr (.cells #[iV E.op,iV E.n,iV E.u,.string E.rn,iV E.ri,.slice a' E.args.length p'] 26)
          exact h)
         have r:Hid ((w.heap.size+1)<=(wr.alloc (.cells #[iV E.op,iV E.n,iV E.u,.string E.rn,iV E.ri,.slice a' E.args.length p'] 26)).heap.size):=yb (yl H.o.size F.o.size)
         go_wp2_with (first|(refine ym rfl 26 _ rfl b (o+i*12+4) rfl [iV E.op,iV E.n,iV E.u,.string E.rn,iV E.ri,.slice a' E.args.length p'] _ bj.o qD rfl (by kernel_rfl) ?_)|(at_builtin;refine BB (w.heap.size+1) rfl _ _ rfl u3 rows rfl I.o (wr.heap.size) 1 1 [[iV E.op,iV E.n,iV E.u,.string E.rn,iV E.ri,.slice a' E.args.length p']] #[iV E.op,iV E.n,iV E.u,.string E.rn,iV E.ri,.slice a' E.args.length p'] rfl rfl K.o rfl (by simp[Value.oneCell']) rfl J.o r.o ?_;intro aw n5 c5 w5 y C;have ae:=yb y;have ac:=yb (EC a8.o r.o I.o C);have ad:Hid ((w.heap.size+1)<=w5.heap.size):=yb (yl r.o C.size);have ar:=yb C;clear y C))
         exact ⟨⟨i+1,by omega,by push_cast;rfl,yb ⟨ac.o,ad.o,_,ae.o,by rw[t.o];exact O.o.append ⟨bg.o,trivial⟩⟩⟩,by simp[intOf];omega⟩
        ·obtain rfl:i=L.farms.n:=by omega
         have Z:decide ((L.farms.n:Int) < (L.farms.n:Int))=false:=by simp
         have P:Hid (KA (w.heap.size+1) N w0 (Kh x++x.farms.flatMap (fun d=> [d.area])) wr u3):=yb (by
          have h:=H.o
          rw[ag.o.farms,yx] at h
          exact h)
         go_wp2
         obtain ⟨dk,rfl⟩:∃z:World,z=wr:=⟨_,rfl⟩
         obtain ⟨dc,rfl⟩:∃z:Value,z=u3:=⟨_,rfl⟩
         have Y:Hid (KA (w.heap.size+1) N w0 (I7 x++(x.rots.take 0).flatMap I6) dk dc):=yb (by
          rw[zM,zQ,zt];exact P.o)
         clear hf Z H P
         go_loopw [3,9] (fun v3 iv wr=>∃i:Nat,i<=L.rots.n∧iv=iV i∧Hid (KA (w.heap.size+1) N w0 (I7 x++(x.rots.take i).flatMap I6) wr v3)) (fun _ iv _=>L.rots.n - (intOf iv).toNat)
         case atStart=>exact ⟨0,yC _,rfl,Y⟩
         case round=>
          clear Y
          obtain ⟨i,hi,rfl,H⟩:=hrel
          have hf:wr.cell? (aV w.heap.size 23)=some (.slice L.rots.a L.rots.n L.rots.c):=bd.o wr H.o.below 23 _ be.o.rots
          have au:L.rots.n<=140737488355328:=bh.o.rots.1
          by_cases ah:i < L.rots.n
          ·have U:i < x.rots.length:=by rw[<-ag.o.rots];exact ah
           have Z:(i:Int) < (L.rots.n:Int):=by omega
           obtain ⟨b,o,R,he,X,ao,V,hv⟩:=bq.o.rots.2.2 i U
           rw[he] at hf
           have t:Hid (I7 x++(x.rots.take (i+1)).flatMap I6=(I7 x++(x.rots.take i).flatMap I6)++([x.rots[i].flow,x.rots[i].frm,x.rots[i].to]++x.rots[i].turns.flatMap (fun k:Bv=> [k.len]))):=yb (by rw[BU U,yp];rfl)
           have af:(I7 x++(x.rots.take i).flatMap I6).length<=20000:=by
            have h1:=Cw (l:=x.rots) (f:=I6) (c:=73) (i:=i) (fun d hd=>by
             have h1:(d.turns.flatMap (fun k:Bv=> [k.len])).length<=d.turns.length*1:=AK fun _ _=>by simp
             have:=ax.o.turns d hd
             simp only[I6,yq,yI,yM];omega)
            have h2:=az.o.t5;have h3:=ax.o.rots
            rw[yq]
            omega
           have cm:x.rots[i].turns.length<=70:=ax.o.turns _ (yz U)
           have bb:=yb (A2 V ((ba.o wr H.o.below) b X))
           have aj:=yb (yV (Jw hv))
           have b3:Hid ((Try.prog.info? 64).map (·.size)=some R.length):=yb (by rw[ao];kernel_rfl)
           have b5:Hid ((Try.prog.info? 64).map (·.size)=some R.toArray.size):=yb (by rw[yD];exact b3.o)
           have c3:=yb ao
           have b4:(wr.alloc (.cells R.toArray 64)).rangeAt wr.heap.size 0 R:=by
            have:=yU (World.alloc_heap_new wr (.cells R.toArray 64)) 0 R.length
            simpa using this
           obtain ⟨⟨C0,r0,k0⟩,⟨C1,r1,k1⟩,⟨C2,r2,k2⟩,cr,c7⟩:=SA b4 hv
           have dx:=yb cr
           have ca:=yb c7
           have dy:(A4 L i).n<=140737488355328:=by rw[c7.1];exact c7.2.1
           generalize x.rots[i].flow=j at k0 t
           generalize x.rots[i].frm=g at k1 t
           generalize x.rots[i].to=m at k2 t
           generalize x.rots[i].turns=D at ca cm t
           have am:=yb k0;have an:=yb k1;have ap:=yb k2
           obtain ⟨a0,p0,rfl,_⟩:=k0.cells
           obtain ⟨a1,p1,rfl,_⟩:=k1.cells
           obtain ⟨a2,p2,rfl,_⟩:=k2.cells
           have aq:=yb r0;have ak:=yb r1;have al:=yb r2
           obtain ⟨rows,G,A⟩:=H.o.own
           have O:=yb A
           have J:Hid (rows.length+3<=1000000000):=yb (by rw[A.length];omega)
           have ai:Hid (Below wr.heap.size wr (wr.alloc (.cells R.toArray 64))):=yb ((yg _ _).alloc (yf _) _)
           have M:=yb (G.up ai.o)
           have bn:=yb (H.o.below.trans (ai.o.mono H.o.size))
           have av:Hid ((w.heap.size+1)<=(wr.alloc (.cells R.toArray 64)).heap.size):=yb (yl H.o.size ai.o.size)
           have bp:Hid ((wr.alloc (.cells R.toArray 64)).heap[wr.heap.size]?=some (.cells R.toArray 64 (0,0))):=yb (World.alloc_heap_new _ _)
           have dr:=yb cm;have cu:=yb af
           clear V he G A af X ao hv b4 r0 r1 r2 cr c7 cm
           obtain ⟨gb,d3⟩:∃gb,gb=wr.heap.size:=⟨_,rfl⟩
           have e3:=yb d3
           clear d3
           have F:Hid (Below (wr.alloc (.cells R.toArray 64)).heap.size (wr.alloc (.cells R.toArray 64)) ((wr.alloc (.cells R.toArray 64)).alloc (.cells #[iV j.op,iV j.n,iV j.u,.string j.rn,iV j.ri,.slice a0 j.args.length p0,iV g.op,iV g.n,iV g.u,.string g.rn,iV g.ri,.slice a1 g.args.length p1,iV m.op,iV m.n,iV m.u,.string m.rn,iV m.ri,.slice a2 m.args.length p2] 26))):=yb ((yg _ _).alloc (yf _) _)
           have I:=yb (M.o.up F.o)
           have a8:=yb (bn.o.trans (F.o.mono av.o))
           have K:Hid (((wr.alloc (.cells R.toArray 64)).alloc (.cells #[iV j.op,iV j.n,iV j.u,.string j.rn,iV j.ri,.slice a0 j.args.length p0,iV g.op,iV g.n,iV g.u,.string g.rn,iV g.ri,.slice a1 g.args.length p1,iV m.op,iV m.n,iV m.u,.string m.rn,iV m.ri,.slice a2 m.args.length p2] 26)).heap[wr.heap.size+1]?=some (.cells #[iV j.op,iV j.n,iV j.u,.string j.rn,iV j.ri,.slice a0 j.args.length p0,iV g.op,iV g.n,iV g.u,.string g.rn,iV g.ri,.slice a1 g.args.length p1,iV m.op,iV m.n,iV m.u,.string m.rn,iV m.ri,.slice a2 m.args.length p2] 26 (0,0))):=yb (by
            have h:=World.alloc_heap_new (wr.alloc (.cells R.toArray 64)) (.cells #[iV j.op,iV j.n,iV j.u,.string j.rn,iV j.ri,.slice a0 j.args.length p0,iV g.op,iV g.n,iV g.u,.string g.rn,iV g.ri,.slice a1 g.args.length p1,iV m.op,iV m.n,iV m.u,.string m.rn,iV m.ri,.slice a2 m.args.length p2] 26)
            rw[zB] at h;exact h)
           have r:Hid ((w.heap.size+1)<=((wr.alloc (.cells R.toArray 64)).alloc (.cells #[iV j.op,iV j.n,iV j.u,.string j.rn,iV j.ri,.slice a0 j.args.length p0,iV g.op,iV g.n,iV g.u,.string g.rn,iV g.ri,.slice a1 g.args.length p1,iV m.op,iV m.n,iV m.u,.string m.rn,iV m.ri,.slice a2 m.args.length p2] 26)).heap.size):=yb (yl av.o F.o.size)
           go_wp2_with (first|(refine ym rfl 64 _ rfl b (o+i*23) rfl R _ bb.o qX rfl b3.o ?_)|(refine yZ rfl 64 _ _ rfl wr.heap.size R.toArray rfl rfl 64 _ (World.alloc_heap_new _ _) b5.o (by simp[c3.o]) aj.o ?_;rw[World.setRow_alloc_new])|(refine ym rfl 26 _ rfl wr.heap.size (4) rfl [iV j.op,iV j.n,iV j.u,.string j.rn,iV j.ri,.slice a0 j.args.length p0] _ aq.o qD rfl (by kernel_rfl) ?_)|(refine ym rfl 26 _ rfl wr.heap.size (10) rfl [iV g.op,iV g.n,iV g.u,.string g.rn,iV g.ri,.slice a1 g.args.length p1] _ ak.o qD rfl (by kernel_rfl) ?_)|(refine ym rfl 26 _ rfl wr.heap.size (16) rfl [iV m.op,iV m.n,iV m.u,.string m.rn,iV m.ri,.slice a2 m.args.length p2] _ al.o qD rfl (by kernel_rfl) ?_)|(at_builtin;refine BB (w.heap.size+1) rfl _ _ rfl u3 rows rfl I.o (wr.heap.size+1) 3 3 [[iV j.op,iV j.n,iV j.u,.string j.rn,iV j.ri,.slice a0 j.args.length p0],[iV g.op,iV g.n,iV g.u,.string g.rn,iV g.ri,.slice a1 g.args.length p1],[iV m.op,iV m.n,iV m.u,.string m.rn,iV m.ri,.slice a2 m.args.length p2]] #[iV j.op,iV j.n,iV j.u,.string j.rn,iV j.ri,.slice a0 j.args.length p0,iV g.op,iV g.n,iV g.u,.string g.rn,iV g.ri,.slice a1 g.args.length p1,iV m.op,iV m.n,iV m.u,.string m.rn,iV m.ri,.slice a2 m.args.length p2] rfl rfl K.o rfl (by simp[Value.oneCell']) rfl J.o r.o ?_;intro aw n5 c5 w5 y C;have ae:=yb y;have ac:=yb (EC a8.o r.o I.o C);have ad:Hid ((w.heap.size+1)<=w5.heap.size):=yb (yl r.o C.size);have ar:=yb C;clear y C))
           have ay:Hid (w5.heap[wr.heap.size]?=some (.cells R.toArray 64 (0,0))):=yb (by
            have e1:((wr.alloc (.cells R.toArray 64)).alloc (.cells #[iV j.op,iV j.n,iV j.u,.string j.rn,iV j.ri,.slice a0 j.args.length p0,iV g.op,iV g.n,iV g.u,.string g.rn,iV g.ri,.slice a1 g.args.length p1,iV m.op,iV m.n,iV m.u,.string m.rn,iV m.ri,.slice a2 m.args.length p2] 26)).heap[wr.heap.size]?=some (.cells R.toArray 64 (0,0)):=(F.o.block _ (by simp)).trans bp.o
            exact (ar.o.block _ (ye.1 e1).1 (fun e=>Uf I.o e1 (by decide) e.symm)).trans e1)
           have cw:Hid (KA (w.heap.size+1) N w0 ((I7 x++(x.rots.take i).flatMap I6)++([j,g,m]++(D.take 0).flatMap (fun k:Bv=> [k.len]))) w5 (.slice aw n5 c5)):=yb ⟨ac.o,ad.o,_,ae.o,by
            rw[zM,zQ,zt]
            exact O.o.append ⟨am.o,an.o,ap.o,trivial⟩⟩
           clear ae ac ad ar O M J K r a8 I F bn av ai bp H hf
           obtain ⟨wo,rfl⟩:∃z:World,z=wr:=⟨_,rfl⟩
           obtain ⟨vo,rfl⟩:∃z:Value,z=u3:=⟨_,rfl⟩
           go_loopw [3,11] (fun v3 iv wr=>∃k:Nat,k<=(A4 L i).n∧iv=iV k∧Hid (KA (w.heap.size+1) N w0 ((I7 x++(x.rots.take i).flatMap I6)++([j,g,m]++(D.take k).flatMap (fun k:Bv=> [k.len]))) wr v3)∧Hid (wr.heap[wo.heap.size]?=some (.cells R.toArray 64 (0,0)))) (fun _ iv _=>(A4 L i).n - (intOf iv).toNat)
           case atStart=>exact ⟨0,yC _,rfl,cw,ay⟩
           case round=>
            clear cw ay
            obtain ⟨k,hk,rfl,bm,ci⟩:=hrel
            have dq:wr.cell? (aV wo.heap.size 22)=some (.slice (A4 L i).a (A4 L i).n (A4 L i).c):=by
             simp only[World.cell?,ci.o]
             have h:=dx.o
             unfold Ai.v at h
             simpa using h
            by_cases du:k < (A4 L i).n
            ·have d5:k < D.length:=by rw[<-ca.o.1];exact du
             have dv:(k:Int) < ((A4 L i).n:Int):=by omega
             obtain ⟨b2,o2,c2,d2,d1,dm,cd,cx,ct,rfl,bt⟩:=ca.o.2.2 k d5
             rw[d2] at dq
             have d8:w0.rangeAt b2 (o2+k*8+2) ct:=by
              have:=AO (p:=An D[k].farm) (c:=ct) (q:=[]) (by simpa using cd)
              exact this
             have cc:Hid (((I7 x++(x.rots.take i).flatMap I6)++([j,g,m]++(D.take (k+1)).flatMap (fun k:Bv=> [k.len])))=((I7 x++(x.rots.take i).flatMap I6)++([j,g,m]++(D.take k).flatMap (fun k:Bv=> [k.len])))++[D[k].len]):=yb (by rw[BU d5];simp only[yp])
             generalize D[k].len=s at bt cc
             have b8:=yb bt
             obtain ⟨a3,p3,rfl,_⟩:=bt.cells
             have b9:=yb (A2 d8 ((ba.o wr bm.o.below) b2 d1))
             obtain ⟨bv,bz,bi⟩:=bm.o.own
             have cf:=yb bz;have cl:=yb bi
             have J:Hid (bv.length+1<=1000000000):=yb (by
              have h1:=Cw (l:=D) (f:=(fun k:Bv=> [k.len])) (c:=1) (i:=k) (fun _ _=>by simp)
              have h2:=dr.o;have h3:=cu.o
              rw[bi.length]
              simp only[yq,yI,yM] at h3 ⊢
              omega)
             clear cd d8 bz bi d1 dm cx d2
             have F:Hid (Below wr.heap.size wr (wr.alloc (.cells #[iV s.op,iV s.n,iV s.u,.string s.rn,iV s.ri,.slice a3 s.args.length p3] 26))):=yb ((yg _ _).alloc (yf _) _)
             have I:=yb (cf.o.up F.o)
             have a8:=yb (bm.o.below.trans (F.o.mono bm.o.size))
             have K:Hid ((wr.alloc (.cells #[iV s.op,iV s.n,iV s.u,.string s.rn,iV s.ri,.slice a3 s.args.length p3] 26)).heap[wr.heap.size]?=some (.cells #[iV s.op,iV s.n,iV s.u,.string s.rn,iV s.ri,.slice a3 s.args.length p3] 26 (0,0))):=yb (by
              have h:=World.alloc_heap_new wr (.cells #[iV s.op,iV s.n,iV s.u,.string s.rn,iV s.ri,.slice a3 s.args.length p3] 26)
              exact h)
             have r:Hid ((w.heap.size+1)<=(wr.alloc (.cells #[iV s.op,iV s.n,iV s.u,.string s.rn,iV s.ri,.slice a3 s.args.length p3] 26)).heap.size):=yb (yl bm.o.size F.o.size)
             go_wp2_with (first|(refine ym rfl 26 _ rfl b2 (o2+k*8+2) rfl [iV s.op,iV s.n,iV s.u,.string s.rn,iV s.ri,.slice a3 s.args.length p3] _ b9.o qD rfl (by kernel_rfl) ?_)|(at_builtin;refine BB (w.heap.size+1) rfl _ _ rfl u3 bv rfl I.o (wr.heap.size) 1 1 [[iV s.op,iV s.n,iV s.u,.string s.rn,iV s.ri,.slice a3 s.args.length p3]] #[iV s.op,iV s.n,iV s.u,.string s.rn,iV s.ri,.slice a3 s.args.length p3] rfl rfl K.o rfl (by simp[Value.oneCell']) rfl J.o r.o ?_;intro dz n6 c6 w6 y C;have di:=yb y;have de:=yb (EC a8.o r.o I.o C);have dw:Hid ((w.heap.size+1)<=w6.heap.size):=yb (yl r.o C.size);have df:=yb C;clear y C))
             have ay:Hid (w6.heap[wo.heap.size]?=some (.cells R.toArray 64 (0,0))):=yb (by
              have e1:=(F.o.block _ (ye.1 ci.o).1).trans ci.o
              exact (df.o.block _ (ye.1 e1).1 (fun e=>Uf I.o e1 (by decide) e.symm)).trans e1)
             exact ⟨⟨k+1,by omega,by push_cast;rfl,yb ⟨de.o,dw.o,_,di.o,by rw[cc.o];exact cl.o.append ⟨b8.o,trivial⟩⟩,ay⟩,by simp[intOf];omega⟩
            ·obtain rfl:k=(A4 L i).n:=by omega
             have dv:decide (((A4 L i).n:Int) < ((A4 L i).n:Int))=false:=by simp
             have d0:Hid (KA (w.heap.size+1) N w0 (I7 x++(x.rots.take (i+1)).flatMap I6) wr u3):=yb (by
              rw[t.o]
              have h:=bm.o
              rw[ca.o.1,yx] at h
              exact h)
             go_wp2
             exact ⟨⟨i+1,by omega,by push_cast;rfl,d0⟩,by simp[intOf];omega⟩
          ·obtain rfl:i=L.rots.n:=by omega
           have Z:decide ((L.rots.n:Int) < (L.rots.n:Int))=false:=by simp
           have P:Hid (KA (w.heap.size+1) N w0 (I7 x++x.rots.flatMap I6) wr u3):=yb (by
            have h:=H.o
            rw[ag.o.rots,yx] at h
            exact h)
           go_wp2
           obtain ⟨db,rfl⟩:∃z:World,z=wr:=⟨_,rfl⟩
           obtain ⟨dl,rfl⟩:∃z:Value,z=u3:=⟨_,rfl⟩
           have Y:Hid (KA (w.heap.size+1) N w0 (Ki x++(x.rights.take 0).flatMap F3) db dl):=yb (by
            rw[zM,zQ,zt];exact P.o)
           clear hf Z H P
           go_loopw [3,12] (fun v3 iv wr=>∃i:Nat,i<=L.rights.n∧iv=iV i∧Hid (KA (w.heap.size+1) N w0 (Ki x++(x.rights.take i).flatMap F3) wr v3)) (fun _ iv _=>L.rights.n - (intOf iv).toNat)
           case atStart=>exact ⟨0,yC _,rfl,Y⟩
           case round=>
            clear Y
            obtain ⟨i,hi,rfl,H⟩:=hrel
            have hf:wr.cell? (aV w.heap.size 24)=some (.slice L.rights.a L.rights.n L.rights.c):=bd.o wr H.o.below 24 _ be.o.rights
            have au:L.rights.n<=140737488355328:=bh.o.rights.1
            by_cases ah:i < L.rights.n
            ·have U:i < x.rights.length:=by rw[<-ag.o.rights];exact ah
             have Z:(i:Int) < (L.rights.n:Int):=by omega
             obtain ⟨b,o,R,he,X,ao,V,hv⟩:=bq.o.rights.2.2 i U
             rw[he] at hf
             have t:Hid (Ki x++(x.rights.take (i+1)).flatMap F3=(Ki x++(x.rights.take i).flatMap F3)++[x.rights[i].flow,x.rights[i].frm,x.rights[i].to,x.rights[i].every,x.rights[i].len]):=yb (by rw[BU U,yp];rfl)
             have af:(Ki x++(x.rights.take i).flatMap F3).length<=20000:=by
              have h1:=Cw (l:=x.rights) (f:=F3) (c:=5) (i:=i) (fun _ _=>by simp[F3])
              have h2:=az.o.t6;have h3:=ax.o.rights
              rw[yq]
              omega
             have bb:=yb (A2 V ((ba.o wr H.o.below) b X))
             have aj:=yb (yV (K8 _ _ hv))
             have b3:Hid ((Try.prog.info? 68).map (·.size)=some R.length):=yb (by rw[ao];kernel_rfl)
             have b5:Hid ((Try.prog.info? 68).map (·.size)=some R.toArray.size):=yb (by rw[yD];exact b3.o)
             have c3:=yb ao
             have b4:(wr.alloc (.cells R.toArray 68)).rangeAt wr.heap.size 0 R:=by
              have:=yU (World.alloc_heap_new wr (.cells R.toArray 68)) 0 R.length
              simpa using this
             obtain ⟨⟨C0,r0,k0⟩,⟨C1,r1,k1⟩,⟨C2,r2,k2⟩,⟨C3,r3,k3⟩,⟨C4,r4,k4⟩⟩:=Pq b4 hv
             generalize x.rights[i].flow=j at k0 t
             generalize x.rights[i].frm=g at k1 t
             generalize x.rights[i].to=m at k2 t
             generalize x.rights[i].every=s at k3 t
             generalize x.rights[i].len=B at k4 t
             have am:=yb k0
             have an:=yb k1
             have ap:=yb k2
             have b8:=yb k3
             have bo:=yb k4
             obtain ⟨a0,p0,rfl,_⟩:=k0.cells
             obtain ⟨a1,p1,rfl,_⟩:=k1.cells
             obtain ⟨a2,p2,rfl,_⟩:=k2.cells
             obtain ⟨a3,p3,rfl,_⟩:=k3.cells
             obtain ⟨a4,p4,rfl,_⟩:=k4.cells
             have aq:=yb r0
             have ak:=yb r1
             have al:=yb r2
             have b9:=yb r3
             have bw:=yb r4
             obtain ⟨rows,G,A⟩:=H.o.own
             have O:=yb A
             have J:Hid (rows.length+5<=1000000000):=yb (by rw[A.length];omega)
             have ai:Hid (Below wr.heap.size wr (wr.alloc (.cells R.toArray 68))):=yb ((yg _ _).alloc (yf _) _)
             have M:=yb (G.up ai.o)
             have bn:=yb (H.o.below.trans (ai.o.mono H.o.size))
             have av:Hid ((w.heap.size+1)<=(wr.alloc (.cells R.toArray 68)).heap.size):=yb (yl H.o.size ai.o.size)
             clear V he G A af X ao hv b4 r0 r1 r2 r3 r4
             have F:Hid (Below (wr.alloc (.cells R.toArray 68)).heap.size (wr.alloc (.cells R.toArray 68)) ((wr.alloc (.cells R.toArray 68)).alloc (.cells #[iV j.op,iV j.n,iV j.u,.string j.rn,iV j.ri,.slice a0 j.args.length p0,iV g.op,iV g.n,iV g.u,.string g.rn,iV g.ri,.slice a1 g.args.length p1,iV m.op,iV m.n,iV m.u,.string m.rn,iV m.ri,.slice a2 m.args.length p2,iV s.op,iV s.n,iV s.u,.string s.rn,iV s.ri,.slice a3 s.args.length p3,iV B.op,iV B.n,iV B.u,.string B.rn,iV B.ri,.slice a4 B.args.length p4] 26))):=yb ((yg _ _).alloc (yf _) _)
             have I:=yb (M.o.up F.o)
             have a8:=yb (bn.o.trans (F.o.mono av.o))
             have K:Hid (((wr.alloc (.cells R.toArray 68)).alloc (.cells #[iV j.op,iV j.n,iV j.u,.string j.rn,iV j.ri,.slice a0 j.args.length p0,iV g.op,iV g.n,iV g.u,.string g.rn,iV g.ri,.slice a1 g.args.length p1,iV m.op,iV m.n,iV m.u,.string m.rn,iV m.ri,.slice a2 m.args.length p2,iV s.op,iV s.n,iV s.u,.string s.rn,iV s.ri,.slice a3 s.args.length p3,iV B.op,iV B.n,iV B.u,.string B.rn,iV B.ri,.slice a4 B.args.length p4] 26)).heap[wr.heap.size+1]?=some (.cells #[iV j.op,iV j.n,iV j.u,.string j.rn,iV j.ri,.slice a0 j.args.length p0,iV g.op,iV g.n,iV g.u,.string g.rn,iV g.ri,.slice a1 g.args.length p1,iV m.op,iV m.n,iV m.u,.string m.rn,iV m.ri,.slice a2 m.args.length p2,iV s.op,iV s.n,iV s.u,.string s.rn,iV s.ri,.slice a3 s.args.length p3,iV B.op,iV B.n,iV B.u,.string B.rn,iV B.ri,.slice a4 B.args.length p4] 26 (0,0))):=yb (by
              have h:=World.alloc_heap_new (wr.alloc (.cells R.toArray 68)) (.cells #[iV j.op,iV j.n,iV j.u,.string j.rn,iV j.ri,.slice a0 j.args.length p0,iV g.op,iV g.n,iV g.u,.string g.rn,iV g.ri,.slice a1 g.args.length p1,iV m.op,iV m.n,iV m.u,.string m.rn,iV m.ri,.slice a2 m.args.length p2,iV s.op,iV s.n,iV s.u,.string s.rn,iV s.ri,.slice a3 s.args.length p3,iV B.op,iV B.n,iV B.u,.string B.rn,iV B.ri,.slice a4 B.args.length p4] 26)
              rw[zB] at h;exact h)
             have r:Hid ((w.heap.size+1)<=((wr.alloc (.cells R.toArray 68)).alloc (.cells #[iV j.op,iV j.n,iV j.u,.string j.rn,iV j.ri,.slice a0 j.args.length p0,iV g.op,iV g.n,iV g.u,.string g.rn,iV g.ri,.slice a1 g.args.length p1,iV m.op,iV m.n,iV m.u,.string m.rn,iV m.ri,.slice a2 m.args.length p2,iV s.op,iV s.n,iV s.u,.string s.rn,iV s.ri,.slice a3 s.args.length p3,iV B.op,iV B.n,iV B.u,.string B.rn,iV B.ri,.slice a4 B.args.length p4] 26)).heap.size):=yb (yl av.o F.o.size)
             go_wp2_with (first|(refine ym rfl 68 _ rfl b (o+i*37) rfl R _ bb.o qZ rfl b3.o ?_)|(refine yZ rfl 68 _ _ rfl wr.heap.size R.toArray rfl rfl 68 _ (World.alloc_heap_new _ _) b5.o (by simp[c3.o]) aj.o ?_;rw[World.setRow_alloc_new])|(refine ym rfl 26 _ rfl wr.heap.size (7) rfl [iV j.op,iV j.n,iV j.u,.string j.rn,iV j.ri,.slice a0 j.args.length p0] _ aq.o qD rfl (by kernel_rfl) ?_)|(refine ym rfl 26 _ rfl wr.heap.size (13) rfl [iV g.op,iV g.n,iV g.u,.string g.rn,iV g.ri,.slice a1 g.args.length p1] _ ak.o qD rfl (by kernel_rfl) ?_)|(refine ym rfl 26 _ rfl wr.heap.size (19) rfl [iV m.op,iV m.n,iV m.u,.string m.rn,iV m.ri,.slice a2 m.args.length p2] _ al.o qD rfl (by kernel_rfl) ?_)|(refine ym rfl 26 _ rfl wr.heap.size (25) rfl [iV s.op,iV s.n,iV s.u,.string s.rn,iV s.ri,.slice a3 s.args.length p3] _ b9.o qD rfl (by kernel_rfl) ?_)|(refine ym rfl 26 _ rfl wr.heap.size (31) rfl [iV B.op,iV B.n,iV B.u,.string B.rn,iV B.ri,.slice a4 B.args.length p4] _ bw.o qD rfl (by kernel_rfl) ?_)|(at_builtin;refine BB (w.heap.size+1) rfl _ _ rfl u3 rows rfl I.o (wr.heap.size+1) 5 5 [[iV j.op,iV j.n,iV j.u,.string j.rn,iV j.ri,.slice a0 j.args.length p0],[iV g.op,iV g.n,iV g.u,.string g.rn,iV g.ri,.slice a1 g.args.length p1],[iV m.op,iV m.n,iV m.u,.string m.rn,iV m.ri,.slice a2 m.args.length p2],[iV s.op,iV s.n,iV s.u,.string s.rn,iV s.ri,.slice a3 s.args.length p3],[iV B.op,iV B.n,iV B.u,.string B.rn,iV B.ri,.slice a4 B.args.length p4]] #[iV j.op,iV j.n,iV j.u,.string j.rn,iV j.ri,.slice a0 j.args.length p0,iV g.op,iV g.n,iV g.u,.string g.rn,iV g.ri,.slice a1 g.args.length p1,iV m.op,iV m.n,iV m.u,.string m.rn,iV m.ri,.slice a2 m.args.length p2,iV s.op,iV s.n,iV s.u,.string s.rn,iV s.ri,.slice a3 s.args.length p3,iV B.op,iV B.n,iV B.u,.string B.rn,iV B.ri,.slice a4 B.args.length p4] rfl rfl K.o rfl (by simp[Value.oneCell']) rfl J.o r.o ?_;intro aw n5 c5 w5 y C;have ae:=yb y;have ac:=yb (EC a8.o r.o I.o C);have ad:Hid ((w.heap.size+1)<=w5.heap.size):=yb (yl r.o C.size);have ar:=yb C;clear y C))
             exact ⟨⟨i+1,by omega,by push_cast;rfl,yb ⟨ac.o,ad.o,_,ae.o,by rw[t.o];exact O.o.append ⟨am.o,an.o,ap.o,b8.o,bo.o,trivial⟩⟩⟩,by simp[intOf];omega⟩
            ·obtain rfl:i=L.rights.n:=by omega
             have Z:decide ((L.rights.n:Int) < (L.rights.n:Int))=false:=by simp
             have P:Hid (KA (w.heap.size+1) N w0 (Ki x++x.rights.flatMap F3) wr u3):=yb (by
              have h:=H.o
              rw[ag.o.rights,yx] at h
              exact h)
             go_wp2
             obtain ⟨dh,rfl⟩:∃z:World,z=wr:=⟨_,rfl⟩
             obtain ⟨dn,rfl⟩:∃z:Value,z=u3:=⟨_,rfl⟩
             have Y:Hid (KA (w.heap.size+1) N w0 (Kj x++(x.duties.take 0).flatMap (fun d=> [d.due])) dh dn):=yb (by
              rw[zM,zQ,zt];exact P.o)
             clear hf Z H P
             go_loopw [3,14] (fun v3 iv wr=>∃i:Nat,i<=L.duties.n∧iv=iV i∧Hid (KA (w.heap.size+1) N w0 (Kj x++(x.duties.take i).flatMap (fun d=> [d.due])) wr v3)) (fun _ iv _=>L.duties.n - (intOf iv).toNat)
             case atStart=>exact ⟨0,yC _,rfl,Y⟩
             case round=>
              clear Y
              obtain ⟨i,hi,rfl,H⟩:=hrel
              have hf:wr.cell? (aV w.heap.size 25)=some (.slice L.duties.a L.duties.n L.duties.c):=bd.o wr H.o.below 25 _ be.o.duties
              have au:L.duties.n<=140737488355328:=bh.o.duties.1
              by_cases ah:i < L.duties.n
              ·have U:i < x.duties.length:=by rw[<-ag.o.duties];exact ah
               have Z:(i:Int) < (L.duties.n:Int):=by omega
               obtain ⟨b,o,he,X,c,V,aa⟩:=c8.o.duties i U
               rw[he] at hf
               have t:Hid (Kj x++(x.duties.take (i+1)).flatMap (fun d=> [d.due])=(Kj x++(x.duties.take i).flatMap (fun d=> [d.due]))++[x.duties[i].due]):=yb (by rw[BU U,yp])
               have af:(Kj x++(x.duties.take i).flatMap (fun d=> [d.due])).length<=20000:=by
                have h1:=Cw (l:=x.duties) (f:=(fun d=> [d.due])) (c:=1) (i:=i) (fun _ _=>by simp)
                have h2:=az.o.t7;have h3:=ax.o.duties
                rw[yq]
                skip
                omega
               generalize x.duties[i].due=E at aa t
               have bg:=yb aa
               obtain ⟨a',p',rfl,_⟩:=aa.cells
               have bj:=yb (A2 V ((ba.o wr H.o.below) b X))
               obtain ⟨rows,G,A⟩:=H.o.own
               have M:=yb G;have O:=yb A
               have J:Hid (rows.length+1<=1000000000):=yb (by rw[A.length];omega)
               clear V aa he G A af X
               have F:Hid (Below wr.heap.size wr (wr.alloc (.cells #[iV E.op,iV E.n,iV E.u,.string E.rn,iV E.ri,.slice a' E.args.length p'] 26))):=yb ((yg _ _).alloc (yf _) _)
               have I:=yb (M.o.up F.o)
               have a8:=yb (H.o.below.trans (F.o.mono H.o.size))
               have K:Hid ((wr.alloc (.cells #[iV E.op,iV E.n,iV E.u,.string E.rn,iV E.ri,.slice a' E.args.length p'] 26)).heap[wr.heap.size]?=some (.cells #[iV E.op,iV E.n,iV E.u,.string E.rn,iV E.ri,.slice a' E.args.length p'] 26 (0,0))):=yb (by
                have h:=World.alloc_heap_new wr (.cells #[iV E.op,iV E.n,iV E.u,.string E.rn,iV E.ri,.slice a' E.args.length p'] 26)
                exact h)
               have r:Hid ((w.heap.size+1)<=(wr.alloc (.cells #[iV E.op,iV E.n,iV E.u,.string E.rn,iV E.ri,.slice a' E.args.length p'] 26)).heap.size):=yb (yl H.o.size F.o.size)
               go_wp2_with (first|(refine ym rfl 26 _ rfl b (o+i*11+5) rfl [iV E.op,iV E.n,iV E.u,.string E.rn,iV E.ri,.slice a' E.args.length p'] _ bj.o qD rfl (by kernel_rfl) ?_)|(at_builtin;refine BB (w.heap.size+1) rfl _ _ rfl u3 rows rfl I.o (wr.heap.size) 1 1 [[iV E.op,iV E.n,iV E.u,.string E.rn,iV E.ri,.slice a' E.args.length p']] #[iV E.op,iV E.n,iV E.u,.string E.rn,iV E.ri,.slice a' E.args.length p'] rfl rfl K.o rfl (by simp[Value.oneCell']) rfl J.o r.o ?_;intro aw n5 c5 w5 y C;have ae:=yb y;have ac:=yb (EC a8.o r.o I.o C);have ad:Hid ((w.heap.size+1)<=w5.heap.size):=yb (yl r.o C.size);have ar:=yb C;clear y C))
               exact ⟨⟨i+1,by omega,by push_cast;rfl,yb ⟨ac.o,ad.o,_,ae.o,by rw[t.o];exact O.o.append ⟨bg.o,trivial⟩⟩⟩,by simp[intOf];omega⟩
              ·obtain rfl:i=L.duties.n:=by omega
               have Z:decide ((L.duties.n:Int) < (L.duties.n:Int))=false:=by simp
               have P:Hid (KA (w.heap.size+1) N w0 (Kj x++x.duties.flatMap (fun d=> [d.due])) wr u3):=yb (by
                have h:=H.o
                rw[ag.o.duties,yx] at h
                exact h)
               go_wp2
               go_ret
               refine ⟨_,rfl,⟨cp.o.trans (P.o.below.mono (by have:=dj.o;omega)),by have:=P.o.size;omega,?_⟩⟩
               obtain ⟨rows,G,A⟩:=P.o.own
               exact ⟨rows,SB G (by omega),Az.mono (fun cs e hE=>hE.same (fun _ h=>h) (fun b hb=>(cp.o.block b (dt.o b hb)).symm)) A⟩
end Go.Proofs.Ytghepahgkcigpaa
